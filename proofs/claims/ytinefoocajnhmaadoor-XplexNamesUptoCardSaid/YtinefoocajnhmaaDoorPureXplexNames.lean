/- XplexNames, without Go and memory. -/
import Derived.Test.YtinefoocajnhmaaDoorPrintf4
import Derived.Test.YtinefoocajnhmaaDoorPrintf64
import Derived.Test.YtinefoocajnhmaaDoorScanD
import Derived.Test.YtinefoocajnhmaaDoorFactsN
set_option linter.unusedSimpArgs false
namespace Go.Proofs.YtinefoocajnhmaaDoor.Pure
open Go.RowKit Go.Proofs.YtinefoocajnhmaaDoorW.PrintWords Go.Proofs.YtinefoocajnhmaaDoor.Plain Go.Proofs.YtinefoocajnhmaaDoor.Print Go.Proofs.YtinefoocajnhmaaDoor.Enc Go.Proofs.YtinefoocajnhmaaDoor.Scan Go.Lib
theorem names_enc : ∀ (f : Nat) (rs : List Int) (a : Nat), okRs rs → rs.length ≤ f → namesL f (enc rs) a = true → (∀ r ∈ rs, goesOnS r = true) ∧ (a = 0 → ∀ r t, rs = r :: t → beginsS r = true) := by
  intro f
  induction f with
  | zero =>
    intro rs a _ hl _
    have : rs = [] := List.eq_nil_of_length_eq_zero (by omega)
    subst this
    exact ⟨by simp, fun _ r t h => by cases h⟩
  | succ f ih =>
    intro rs a h hl hn
    rcases rs with _ | ⟨r, rs⟩
    · exact ⟨by simp, fun _ r t h => by cases h⟩
    · have hr := okRs_cons h
      have hrr := ok_range hr.1
      have er : ((r.toNat : Nat) : Int) = r := by omega
      rw [namesL, if_neg (by rw [enc_eq_nil]; simp), enc_cons, dec_enc hr.1] at hn
      simp only at hn
      rw [er, List.drop_left] at hn
      by_cases hc : (a = 0 ∧ beginsS r = false) ∨ goesOnS r = false
      · rw [if_pos hc] at hn; cases hn
      · rw [if_neg hc] at hn
        have ih2 := ih rs _ hr.2 (by simpa using hl) hn
        have hg : goesOnS r = true := by
          rcases hgg : goesOnS r with _ | _
          · exact absurd (.inr hgg) hc
          · rfl
        refine ⟨fun x hx => ?_, fun ha r2 t2 e => ?_⟩
        · rcases List.mem_cons.1 hx with rfl | hx
          · exact hg
          · exact ih2.1 x hx
        · obtain ⟨rfl, _⟩ := List.cons.inj e
          rcases hb : beginsS r with _ | _
          · exact absurd (.inl ⟨ha, hb⟩) hc
          · rfl
/-- a name's runes -/
def IsNm (rs : List Int) : Prop := ∃ r t, rs = r :: t ∧ beginsS r = true ∧ ∀ x ∈ rs, goesOnS x = true
theorem isName_runes (l : List UInt8) (h : isNameL l = true) : ∃ rs, okRs rs ∧ enc rs = l ∧ IsNm rs := by
  rw [FactsN.isName_eq] at h
  simp only [Bool.and_eq_true, FactsT.isTextL, decide_eq_true_eq] at h
  obtain ⟨hg, he, hn⟩ := h
  obtain ⟨rs, hok, rfl⟩ := (good_iff l).1 hg
  have h2 := names_enc _ rs 0 hok (enc_len rs) hn
  rcases rs with _ | ⟨r, t⟩
  · simp [enc] at he
  · exact ⟨_, hok, rfl, r, t, rfl, h2.2 rfl r t rfl, h2.1⟩
theorem begins_not (r : Int) (h : beginsS r = true) : r ≠ 34 ∧ r ≠ 36 ∧ r ≠ 39 ∧ r ≠ 42 ∧ r ≠ 46 ∧ r ≠ 58 ∧ ¬ (48 ≤ r ∧ r ≤ 57) ∧ bl r = false := by
  have hh : 65 ≤ r := by
    unfold beginsS at h
    split at h
    · simp only [asciiB, Bool.or_eq_true, decide_eq_true_eq] at h; omega
    · omega
  unfold bl
  refine ⟨by omega, by omega, by omega, by omega, by omega, ?_, by omega, ?_⟩
  · rintro rfl; revert h; decide
  · simp only [Bool.or_eq_false_iff, decide_eq_false_iff_not]; omega
theorem goes_not : goesOnS 32 = false ∧ goesOnS 40 = false ∧ beginsS 64 = false := by decide
/-- behind a name: nothing that goes on -/
theorem nm_name (rs t : List Int) (h : IsNm rs) (ht : ∀ x y, t = x :: y → goesOnS x = false) : nameR (rs ++ t) = rs := by
  obtain ⟨r, u, rfl, hb, hg⟩ := h
  rw [List.cons_append, nameR, if_pos hb, ← List.cons_append, List.takeWhile_append_of_pos hg]
  rcases t with _ | ⟨x, y⟩
  · simp
  · rw [List.takeWhile_cons_of_neg (by rw [ht x y rfl]; decide), List.append_nil]
theorem pre_ne (c d : Int) (p l : List Int) (h : c ≠ d) : preR (c :: p) (d :: l) = false := by
  refine beq_eq_false_iff_ne.2 fun e => h ?_
  rw [List.length_cons, List.take_succ_cons] at e
  exact (List.cons.inj e).1.symm
theorem pre_nil (c : Int) (p : List Int) : preR (c :: p) [] = false := rfl
theorem nm_token (rs t : List Int) (h : IsNm rs) (ht : ∀ x y, t = x :: y → goesOnS x = false) (n : Int) : tokenR (rs ++ t) n = wordR (rs ++ t) n := by
  have hn := nm_name rs t h ht
  obtain ⟨r, u, rfl, hb, hg⟩ := h
  have hb2 := begins_not r hb
  have hd : dg r = false := by unfold dg; simpa using hb2.2.2.2.2.2.2.1
  rw [List.cons_append] at hn ⊢
  unfold tokenR
  have hnum : numberR (r :: (u ++ t)) = [] := by
    unfold numberR
    rw [List.dropWhile_cons_of_neg (by rw [hd]; decide), List.takeWhile_cons_of_neg (by rw [hd]; decide), pre_ne 46 r [] _ (Ne.symm hb2.2.2.2.2.1), if_neg (by decide)]
  rw [if_neg (fun h => h hnum), pre_ne 34 r [] _ (Ne.symm hb2.1), if_neg (by decide), pre_ne 39 r [] _ (Ne.symm hb2.2.2.1), if_neg (by decide), pre_ne 36 r [] _ (Ne.symm hb2.2.1), if_neg (by decide), pre_ne 42 r [] _ (Ne.symm hb2.2.2.2.1), if_neg (by decide), hn, if_pos (by simp)]
theorem nm_word0 (rs t : List Int) (h : IsNm rs) (ht : ∀ x y, t = x :: y → goesOnS x = false) (h1 : preR [58, 58] (trimR t) = false) (h2 : preR [58] t = false) :
    wordR (rs ++ t) 0 = some ((if preR [40] (trimR t) = true then (if memB (mkB rs) typeNames = true then 5 else 4) else 3), rs, rs) := by
  have hn := nm_name rs t h ht
  have hp : preR [58, 42] t = false := by
    rcases t with _ | ⟨x, y⟩
    · rfl
    · refine pre_ne _ _ _ _ ?_
      rintro rfl
      simp [preR] at h2
  have hq : qnameR (rs ++ t) = rs := by
    unfold qnameR
    rw [hn, List.drop_left, h2, if_neg (by rintro ⟨_, h, _⟩; cases h)]
  unfold wordR
  rw [if_neg (by decide), hq, hn, List.drop_left, h1, hp, if_neg (by decide), if_neg (by decide)]
theorem nm_word1 (rs t : List Int) (h : IsNm rs) (ht : ∀ x y, t = x :: y → goesOnS x = false) :
    wordR (rs ++ t) 1 = if memB (mkB rs) opNames = true then some (8, rs, rs) else none := by
  have hn := nm_name rs t h ht
  unfold wordR
  rw [if_pos rfl, hn]
theorem scan_step {f : Nat} {l l2 : List Int} {n k : Int} {raw txt : List Int} (h0 : l ≠ []) (ht : tokenR l n = some (k, raw, txt)) (hr : l = raw ++ l2) : scanT (f + 1) l n = consT ⟨k, raw, txt, l⟩ (scanT f (trimR l2) (nextR k txt)) := by
  rw [scanT, if_neg h0, ht]
  simp only []
  rw [show l.drop raw.length = l2 by rw [hr, List.drop_left]]
theorem scan_end (f : Nat) (n : Int) : scanT f [] n = .ok [] := by
  cases f with
  | zero => rfl
  | succ f => rw [scanT, if_pos rfl]
theorem trim_nm (rs t : List Int) (h : IsNm rs) : trimR (rs ++ t) = rs ++ t := by
  obtain ⟨r, u, rfl, hb, _⟩ := h
  unfold trimR
  rw [List.cons_append, List.dropWhile_cons_of_neg (by rw [(begins_not r hb).2.2.2.2.2.2.2]; decide)]
theorem nextR_1 (t : List Int) : nextR 1 t = 1 := by simp [nextR, nextOf]
theorem nextR_3 (t : List Int) : nextR 3 t = 1 := by simp [nextR, nextOf]
theorem nextR_8 (t : List Int) : nextR 8 t = 0 := by simp [nextR, nextOf]
theorem mem_ops (s : ByteArray) : memB s opNames = (decide (s.toList = ([97, 110, 100] : List UInt8)) || decide (s.toList = ([111, 114] : List UInt8)) || decide (s.toList = ([100, 105, 118] : List UInt8)) || (s.toList == ([109, 111, 100] : List UInt8))) := by
  have e : ∀ a b : List UInt8, (a == b) = decide (a = b) := fun a b => by rw [Bool.eq_iff_iff]; simp
  rw [Lib.toList_data]
  simp only [memB, opNames, List.any_cons, List.any_nil, Bool.or_false, Bool.or_assoc, e]
theorem mem_types (s : ByteArray) : stencilref05_Types.f s = some (memB s typeNames) := by
  unfold stencilref05_Types.f
  rw [Lib.toList_data]
  simp only [memB, typeNames, List.any_cons, List.any_nil, Bool.or_false]
  by_cases h1 : s.data.toList = [99, 111, 109, 109, 101, 110, 116]
  · rw [if_pos h1, h1]; rfl
  · rw [if_neg h1, beq_eq_false_iff_ne.2 h1, Bool.false_or]
    by_cases h2 : s.data.toList = [116, 101, 120, 116]
    · rw [if_pos h2, h2]; rfl
    · rw [if_neg h2, beq_eq_false_iff_ne.2 h2, Bool.false_or]
      by_cases h3 : s.data.toList = [112, 114, 111, 99, 101, 115, 115, 105, 110, 103, 45, 105, 110, 115, 116, 114, 117, 99, 116, 105, 111, 110]
      · rw [if_pos h3, h3]; rfl
      · rw [if_neg h3, beq_eq_false_iff_ne.2 h3, Bool.false_or]
theorem okAsc (r : Int) (h : 32 ≤ r ∧ r < 128) : okR r := inSpans_hit isCharL r 32 55295 2 rfl (by omega) (by omega)
section
variable (s : ByteArray) (rs : List Int) (hok : okRs rs) (hs : s.data.toList = enc rs) (hn : IsNm rs) (hz : s.size ≤ 400)
include hok hs hn hz
theorem nm_self : scanR s = ([⟨3, s, 0⟩], 0, 0) := by
  rw [scan_enc s rs hok hs (by omega) _ rfl]
  have hnil : ∀ x y, ([] : List Int) = x :: y → goesOnS x = false := fun x y h => by cases h
  have ht := nm_token rs [] hn hnil 0
  rw [nm_word0 rs [] hn hnil rfl rfl, List.append_nil, if_neg (by decide)] at ht
  have htr := trim_nm rs [] hn
  rw [List.append_nil] at htr
  have hne : rs ≠ [] := by obtain ⟨r, u, rfl, _⟩ := hn; simp
  rw [htr, scan_step hne ht (List.append_nil rs).symm, show trimR [] = [] from rfl, scan_end]
  have hl : (enc rs).length = s.size := by rw [← hs, sz]
  simp only [consT, resT, List.map_cons, List.map_nil, List.nil_append, tkS, hl, Nat.sub_self]
  rw [show mkB rs = s from (mk_eq hs).symm]; rfl
theorem nm_behind1 : scanR ((⟨#[49, 32]⟩ : ByteArray) ++ s) = if memB s opNames = true then ([⟨1, ⟨#[49]⟩, 0⟩, ⟨8, s, 2⟩], 0, 0) else ([], 9, 2) := by
  have hms : mkB rs = s := (mk_eq hs).symm
  have hl : (enc rs).length = s.size := by rw [← hs, sz]
  have hd : ((⟨#[49, 32]⟩ : ByteArray) ++ s).data.toList = enc (49 :: 32 :: rs) := by
    rw [ByteArray.data_append, Array.toList_append, hs, enc_cons, enc_cons, rune_ascii (by decide) (by decide), rune_ascii (by decide) (by decide)]; rfl
  have hsz : ((⟨#[49, 32]⟩ : ByteArray) ++ s).size = s.size + 2 := by rw [← sz, hd, enc_cons, enc_cons, rune_ascii (by decide) (by decide), rune_ascii (by decide) (by decide)]; simp [hl]
  have hokt : okRs (49 :: 32 :: rs) := by
    intro x hx
    rcases List.mem_cons.1 hx with rfl | hx
    · exact okAsc _ (by decide)
    · rcases List.mem_cons.1 hx with rfl | hx
      · exact okAsc _ (by decide)
      · exact hok x hx
  have hnil : ∀ x y, ([] : List Int) = x :: y → goesOnS x = false := fun x y h => by cases h
  have htr := trim_nm rs [] hn
  rw [List.append_nil] at htr
  have hne : rs ≠ [] := by obtain ⟨r, u, rfl, _⟩ := hn; simp
  have hnum : numberR (49 :: 32 :: rs) = [49] := by
    unfold numberR
    rw [List.dropWhile_cons_of_pos (by decide), List.dropWhile_cons_of_neg (by decide), List.takeWhile_cons_of_pos (by decide), List.takeWhile_cons_of_neg (by decide), pre_ne 46 32 [] _ (by decide), if_neg (by decide)]
  have ht1 : tokenR (49 :: 32 :: rs) 0 = some (1, [49], [49]) := by
    unfold tokenR
    rw [hnum, if_pos (by decide)]
  have htr2 : trimR (32 :: rs) = rs := by
    unfold trimR
    rw [List.dropWhile_cons_of_pos (by decide)]
    exact htr
  have ht2 := nm_token rs [] hn hnil 1
  rw [nm_word1 rs [] hn hnil, List.append_nil, hms] at ht2
  rw [scan_enc _ _ hokt hd (by omega) _ rfl, hsz, show trimR (49 :: 32 :: rs) = 49 :: 32 :: rs from by unfold trimR; rw [List.dropWhile_cons_of_neg (by decide)], scan_step (by simp) ht1 (l2 := 32 :: rs) rfl, htr2, nextR_1]
  have hl2 : (enc (49 :: 32 :: rs)).length = s.size + 2 := by rw [← hd, sz, hsz]
  by_cases hm : memB s opNames = true
  · rw [if_pos hm] at ht2 ⊢
    rw [scan_step hne ht2 (List.append_nil rs).symm, show trimR [] = [] from rfl, scan_end]
    simp only [consT, resT, List.map_cons, List.map_nil, List.nil_append, tkS, hl, hl2, Nat.sub_self, hms]
    rw [show s.size + 2 - s.size = 2 by omega]; rfl
  · rw [if_neg hm] at ht2 ⊢
    rw [scanT, if_neg hne, ht2]
    simp only [consT, resT, hl]
    rw [show s.size + 2 - s.size = 2 by omega]; rfl
theorem nm_at : ∃ a b, scanR ((⟨#[64]⟩ : ByteArray) ++ s) = ([a, b], 0, 0) ∧ b.f0 = 3 := by
  have hms : mkB rs = s := (mk_eq hs).symm
  have hl : (enc rs).length = s.size := by rw [← hs, sz]
  have hd : ((⟨#[64]⟩ : ByteArray) ++ s).data.toList = enc (64 :: rs) := by
    rw [ByteArray.data_append, Array.toList_append, hs, enc_cons, rune_ascii (by decide) (by decide)]; rfl
  have hsz : ((⟨#[64]⟩ : ByteArray) ++ s).size = s.size + 1 := by rw [← sz, hd, enc_cons, rune_ascii (by decide) (by decide)]; simp [hl]
  have hokt : okRs (64 :: rs) := by
    intro x hx
    rcases List.mem_cons.1 hx with rfl | hx
    · exact okAsc _ (by decide)
    · exact hok x hx
  have hnil : ∀ x y, ([] : List Int) = x :: y → goesOnS x = false := fun x y h => by cases h
  have htr := trim_nm rs [] hn
  rw [List.append_nil] at htr
  have hne : rs ≠ [] := by obtain ⟨r, u, rfl, _⟩ := hn; simp
  have hnum : numberR (64 :: rs) = [] := by
    unfold numberR
    rw [List.dropWhile_cons_of_neg (by decide), List.takeWhile_cons_of_neg (by decide), pre_ne 46 64 [] _ (by decide), if_neg (by decide)]
  have hnm : nameR (64 :: rs) = [] := by rw [nameR, goes_not.2.2, if_neg (by decide)]
  have hp64 : preR [64] (64 :: rs) = true := by simp [preR]
  have ht1 : tokenR (64 :: rs) 0 = some (9, [64], [64]) := by
    unfold tokenR
    rw [hnum, hnm, if_neg (by decide), pre_ne 34 64 [] _ (by decide), if_neg (by decide), pre_ne 39 64 [] _ (by decide), if_neg (by decide), pre_ne 36 64 [] _ (by decide), if_neg (by decide), pre_ne 42 64 [] _ (by decide), if_neg (by decide), if_neg (by decide)]
    unfold sTab
    simp only [List.find?_cons, pre_ne 58 64 _ _ (by decide), pre_ne 46 64 _ _ (by decide), pre_ne 47 64 _ _ (by decide), pre_ne 33 64 _ _ (by decide), pre_ne 60 64 _ _ (by decide), pre_ne 62 64 _ _ (by decide), pre_ne 40 64 _ _ (by decide), pre_ne 41 64 _ _ (by decide), pre_ne 91 64 _ _ (by decide), pre_ne 93 64 _ _ (by decide), hp64]
    rfl
  have ht2 := nm_token rs [] hn hnil 0
  rw [nm_word0 rs [] hn hnil rfl rfl, List.append_nil, if_neg (by decide)] at ht2
  refine ⟨⟨9, mkB [64], 0⟩, ⟨3, s, 1⟩, ?_, rfl⟩
  have hl2 : (enc (64 :: rs)).length = s.size + 1 := by rw [← hd, sz, hsz]
  rw [scan_enc _ _ hokt hd (by omega) _ rfl, hsz, show trimR (64 :: rs) = 64 :: rs from by unfold trimR; rw [List.dropWhile_cons_of_neg (by decide)], scan_step (by simp) ht1 (l2 := rs) rfl, htr, show nextR 9 [64] = 0 from by decide, scan_step hne ht2 (List.append_nil rs).symm, show trimR [] = [] from rfl, scan_end]
  simp only [consT, resT, List.map_cons, List.map_nil, List.nil_append, tkS, hl, hl2, Nat.sub_self, hms]
  rw [show s.size + 1 - s.size = 1 by omega]; rfl
theorem nm_call : ∃ a b, scanR (s ++ (⟨#[32, 40]⟩ : ByteArray)) = ([a, b], 0, 0) ∧ a.f0 = if memB s typeNames = true then 5 else 4 := by
  have hms : mkB rs = s := (mk_eq hs).symm
  have hl : (enc rs).length = s.size := by rw [← hs, sz]
  have e2 : enc [32, 40] = [32, 40] := by decide
  have hd : (s ++ (⟨#[32, 40]⟩ : ByteArray)).data.toList = enc (rs ++ [32, 40]) := by
    rw [ByteArray.data_append, Array.toList_append, hs, enc_append, e2]
  have hsz : (s ++ (⟨#[32, 40]⟩ : ByteArray)).size = s.size + 2 := by rw [← sz, hd, enc_append, e2, List.length_append, hl]; rfl
  have hokt : okRs (rs ++ [32, 40]) := okRs_append.2 ⟨hok, by
    intro x hx
    simp only [List.mem_cons, List.not_mem_nil, or_false] at hx
    exact okAsc _ (by omega)⟩
  have hgo : ∀ x y, ([32, 40] : List Int) = x :: y → goesOnS x = false := fun x y h => by
    obtain ⟨rfl, _⟩ := List.cons.inj h; exact goes_not.1
  have hne : rs ++ [32, 40] ≠ [] := by simp
  have ht1 := nm_token rs [32, 40] hn hgo 0
  rw [nm_word0 rs [32, 40] hn hgo (by decide) (by decide), if_pos (by decide), hms] at ht1
  have ht2 : tokenR [40] 1 = some (9, [40], [40]) := by decide
  have hk : ∀ k : Int, k = (if memB s typeNames = true then 5 else 4) → nextR k rs = 1 := by
    intro k hk
    unfold nextR nextOf
    rw [if_neg (by rw [hk]; split <;> decide), if_neg (by rintro ⟨h, _⟩; rw [hk] at h; split at h <;> cases h)]
  refine ⟨⟨(if memB s typeNames = true then 5 else 4), s, 0⟩, ⟨9, mkB [40], ((s.size + 1 : Nat) : Int)⟩, ?_, rfl⟩
  have hl2 : (enc (rs ++ [32, 40])).length = s.size + 2 := by rw [← hd, sz, hsz]
  have hsteps : scanT (s.size + 2 + 1) (rs ++ [32, 40]) 0 = .ok [⟨(if memB s typeNames = true then 5 else 4), rs, rs, rs ++ [32, 40]⟩, ⟨9, [40], [40], [40]⟩] := by
    rw [scan_step hne ht1 rfl, hk _ rfl, show trimR [32, 40] = [40] by decide, show s.size + 2 = (s.size + 1) + 1 from rfl, scan_step (by simp) ht2 (l2 := []) rfl, show trimR [] = [] from rfl, scan_end]
    rfl
  rw [scan_enc _ _ hokt hd (by omega) _ rfl, hsz, trim_nm rs _ hn, hsteps]
  simp only [resT, List.map_cons, List.map_nil, List.nil_append, tkS, hl2, Nat.sub_self, hms]
  rw [show (enc [40]).length = 1 by decide, show s.size + 2 - 1 = s.size + 1 by omega]; rfl
end
theorem XplexNames (s : ByteArray) (hz : s.size ≤ 1048576) : ∃ k, stencillaw05_XplexNames.f k s = some true := by
  refine ⟨2 * s.size + 25, ?_⟩
  have hN := FactsN.isName_ref s (by omega) (2 * s.size + 25) (by omega)
  unfold stencillaw05_XplexNames.f
  rw [hN, Option.bind_some, show 2 * s.size + 25 = (2 * s.size + 22) + 3 from rfl]
  have hlive : stencillaw05_XplexNames.j0 (2 * s.size + 22 + 3) s true = some true := by
    rw [stencillaw05_XplexNames.j0, if_pos rfl, live_ok]; rfl
  by_cases hnm : isNameL s.data.toList = true
  · rw [if_pos hnm]
    by_cases hbig : s.size ≤ 400
    · rw [show decide ((s.size : Int) > 400) = false from decide_eq_false (by omega)]
      obtain ⟨rs, hok, hrs, hn⟩ := isName_runes _ hnm
      have hs := hrs.symm
      have eA := nm_self s rs hok hs hn hbig
      have eB := nm_behind1 s rs hok hs hn hbig
      obtain ⟨c0, c1, eC, hc1⟩ := nm_at s rs hok hs hn hbig
      obtain ⟨d0, d1, eD, hd0⟩ := nm_call s rs hok hs hn hbig
      have main : ∀ x15, x15 = memB s opNames → stencillaw05_XplexNames.j1 (2 * s.size + 22 + 2) s [⟨3, s, 0⟩] 0 (scanR ((⟨#[49, 32]⟩ : ByteArray) ++ s)).1 (scanR ((⟨#[49, 32]⟩ : ByteArray) ++ s)).2.1 (scanR ((⟨#[49, 32]⟩ : ByteArray) ++ s)).2.2 [c0, c1] 0 [d0, d1] 0 x15 = some true := by
        intro x15 hx
        rw [stencillaw05_XplexNames.j1, if_pos rfl, if_pos (by simp), if_pos (by simp), if_pos (by rfl), if_pos rfl, if_pos (by simp), if_pos (by simp), if_pos (show (rd_T30 [c0, c1] 1).f0 = 3 from hc1), if_pos rfl, show (((([d0, d1] : List S30).length : Int)) != 2) = false from rfl, stencillaw05_XplexNames.j2, if_neg (by decide), live_ok]
        rw [eB, ← hx]
        cases x15 with
        | true => rfl
        | false =>
          simp only [Bool.false_eq_true, if_false, Option.bind_some, if_true, mem_types]
          rw [if_pos (by simp), show (rd_T30 [d0, d1] 0).f0 = d0.f0 from rfl, hd0]
          cases memB s typeNames <;> rfl
      rw [stencillaw05_XplexNames.j0, if_neg (by decide)]
      unfold xplex_Scan.f
      simp only [Option.bind_some]
      rw [if_pos (by omega), if_pos (by omega), if_pos (by omega), eA, eC, eD]
      have ho := mem_ops s
      by_cases h1 : s.toList = [97, 110, 100]
      · rw [if_pos h1]; exact main true (by rw [ho, h1]; rfl)
      · rw [if_neg h1]
        by_cases h2 : s.toList = [111, 114]
        · rw [if_pos h2]; exact main true (by rw [ho, h2]; rfl)
        · rw [if_neg h2]
          by_cases h3 : s.toList = [100, 105, 118]
          · rw [if_pos h3]; exact main true (by rw [ho, h3]; rfl)
          · rw [if_neg h3]
            exact main _ (by rw [ho, decide_eq_false h1, decide_eq_false h2, decide_eq_false h3]; rfl)
    · rw [show decide ((s.size : Int) > 400) = true from decide_eq_true (by omega)]
      exact hlive
  · rw [if_neg hnm]
    exact hlive
end Go.Proofs.YtinefoocajnhmaaDoor.Pure
