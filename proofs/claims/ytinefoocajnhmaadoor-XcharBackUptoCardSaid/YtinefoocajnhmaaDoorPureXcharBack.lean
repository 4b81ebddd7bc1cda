/- XcharBack, without Go and memory. -/
import Derived.Test.YtinefoocajnhmaaDoorPrintf55
import Derived.Test.YtinefoocajnhmaaDoorPrintf31
import Derived.Test.YtinefoocajnhmaaDoorPrintlaw01back
import Derived.Test.YtinefoocajnhmaaDoorPrintf26
import Derived.Test.YtinefoocajnhmaaDoorPrintxcharencode
import Derived.Test.YtinefoocajnhmaaDoorFactsX
set_option linter.unusedSimpArgs false
namespace Go.Proofs.YtinefoocajnhmaaDoor.Pure
open Go.RowKit Go.Proofs.YtinefoocajnhmaaDoorW.PrintWords Go.Proofs.YtinefoocajnhmaaDoor.Plain Go.Proofs.YtinefoocajnhmaaDoor.Print Go.Proofs.YtinefoocajnhmaaDoor.FactsV Go.Proofs.YtinefoocajnhmaaDoor.FactsX Go.Proofs.YtinefoocajnhmaaDoor.Enc Go.Proofs.YtinefoocajnhmaaDoor.Lines

theorem isChar_f (r : Int) : stencilref01_IsChar.f r = some (inSpans isCharL r) := by
  unfold stencilref01_IsChar.f
  repeat' split
  all_goals (rw [Option.some.injEq, Bool.eq_iff_iff]; simp [inSpans, isCharL]; omega)
theorem decode_f (s : ByteArray) (pos : Nat) (h : pos < s.size) :
    utf8_DecodeRuneInString.f (s.extract ((pos : Int)).toNat s.size) = some (((Lib.decodeL (s.data.toList.drop pos)).1 : Int), ((Lib.decodeL (s.data.toList.drop pos)).2 : Int)) := by
  unfold utf8_DecodeRuneInString.f
  rw [Int.toNat_natCast, decodeGo_at s pos h, Lib.decodeL_drop]

/-- the reference's Bad, from a place on -/
theorem bad_l0 (s : ByteArray) (hs : s.size ≤ 1000000000) : ∀ (f pos k : Nat), pos ≤ s.size → s.size - pos ≤ f → 2 * f + 1 ≤ k →
    stencilref01_Bad.l0 k s (pos : Int) = some ((badL f (s.data.toList.drop pos) pos).1, decide ((badL f (s.data.toList.drop pos) pos).2 = 3)) := by
  intro f
  induction f with
  | zero =>
    intro pos k hp hf hk
    obtain ⟨k, rfl⟩ : ∃ m, k = m + 1 := ⟨k - 1, by omega⟩
    simp only [stencilref01_Bad.l0]
    rw [if_neg (by omega)]
    rfl
  | succ f ih =>
    intro pos k hp hf hk
    obtain ⟨k, rfl⟩ : ∃ m, k = m + 1 := ⟨k - 1, by omega⟩
    simp only [stencilref01_Bad.l0]
    by_cases hlt : pos < s.size
    · have hne := drop_ne s pos hlt
      have hdc := decode_f s pos hlt
      rw [if_pos (by omega), if_pos (by omega), if_pos (by omega), hdc]
      simp only [Option.bind_some]
      rw [badL, if_neg hne]
      have hin := Lib.decodeL_le _ hne
      have hw := Lib.decodeL_width (s.data.toList.drop pos)
      rw [List.length_drop, size_len] at hin
      obtain ⟨k, rfl⟩ : ∃ m, k = m + 1 := ⟨k - 1, by omega⟩
      generalize hR : (Lib.decodeL (s.data.toList.drop pos)).1 = R at *
      generalize hN : (Lib.decodeL (s.data.toList.drop pos)).2 = N at *
      have hstep := ih (pos + N) k (by omega) (by omega) (by omega)
      rw [← List.drop_drop] at hstep
      have hwrap : wrap64 ((pos : Int) + (N : Int)) = ((pos + N : Nat) : Int) := by rw [wrapS (by omega) (by omega)]; omega
      by_cases h1 : R = 65533
      · subst h1
        rw [if_pos (by rfl)]
        by_cases h2 : N = 1
        · subst h2
          simp [stencilref01_Bad.j1]
        · have hb : (((N : Nat) : Int) == 1) = false := beq_eq_false_iff_ne.2 (by omega)
          rw [hb]
          simp only [stencilref01_Bad.j1]
          have hb2 : ¬ (True ∧ N = 1) := fun h => h2 h.2
          rw [if_neg (by simp), isChar_f, hwrap, hstep, if_neg hb2]
          simp only [Option.bind_some]
          have hc : inSpans isCharL ((65533 : Nat) : Int) = true := by decide
          rw [hc]
          rfl
      · rw [if_neg (by omega)]
        simp only [stencilref01_Bad.j1]
        have hb2 : ¬ (R = 65533 ∧ N = 1) := by omega
        rw [if_neg (by simp), isChar_f, hwrap, hstep, if_neg hb2]
        simp only [Option.bind_some]
        cases hc : inSpans isCharL (R : Int) <;> simp
    · rw [if_neg (by omega), drop_nil s pos hlt, badL_nil]
      rfl
theorem bad_f (s : ByteArray) (hs : s.size ≤ 1000000000) (k : Nat) (hk : 2 * s.size + 1 ≤ k) :
    stencilref01_Bad.f k s = some ((badL s.size s.data.toList 0).1, decide ((badL s.size s.data.toList 0).2 = 3)) := by
  have := bad_l0 s hs s.size 0 k (by omega) (by omega) hk
  simpa [stencilref01_Bad.f] using this
theorem isText_ref (s : ByteArray) (hs : s.size ≤ 1000000000) (k : Nat) (hk : 2 * s.size + 1 ≤ k) : stencilref01_IsText.f k s = some (isTextL s.data.toList) := by
  unfold stencilref01_IsText.f
  rw [bad_f s hs k hk]
  simp only [Option.bind_some]
  unfold isTextL
  rw [size_len]
theorem units_bytes {r : Int} (h : okR r) : ∀ x ∈ units16 r, 0 ≤ x ∧ x < 256 := by
  have hr := ok_range h
  intro x hx
  unfold units16 at hx
  split at hx
  · simp only [List.mem_cons, List.not_mem_nil, or_false] at hx
    rcases hx with rfl | rfl <;> omega
  · simp only [List.mem_cons, List.not_mem_nil, or_false] at hx
    rcases hx with rfl | rfl | rfl | rfl <;> omega
theorem wideL_enc : ∀ (rs : List Int) (f : Nat), okRs rs → rs.length ≤ f → wideL f (enc rs) = rs.flatMap units16 := by
  intro rs
  induction rs with
  | nil => intro f _ _; exact wideL_nil f
  | cons r rs ih =>
    intro f h hf
    have hr := okRs_cons h
    have hb := ok_range hr.1
    obtain ⟨f, rfl⟩ : ∃ m, f = m + 1 := ⟨f - 1, by simp only [List.length_cons] at hf; omega⟩
    rw [wideL, enc_cons, if_neg (by simp [rune_ne]), dec_enc hr.1]
    simp only
    rw [List.drop_left, ih f hr.2 (by simp only [List.length_cons] at hf; omega), show ((r.toNat : Nat) : Int) = r by omega, List.flatMap_cons]
theorem unit_here (pre : List Int) (x y : Int) (t : List Int) : unitV (pre ++ x :: y :: t) 0 pre.length = some (x * 256 + y) := by
  unfold unitV
  rw [if_pos (by simp only [List.length_append, List.length_cons]; omega)]
  simp only [Nat.add_zero, Nat.sub_zero, List.getD_eq_getElem?_getD]
  rw [List.getElem?_append_right (Nat.le_refl _), List.getElem?_append_right (by omega)]
  simp
theorem wideGo_units : ∀ (rs pre acc : List Int) (f : Nat), okRs rs → rs.length + 1 ≤ f → wideGo (pre ++ rs.flatMap units16) 0 f pre.length acc = .ok (acc ++ rs) := by
  intro rs
  induction rs with
  | nil =>
    intro pre acc f _ hf
    obtain ⟨f, rfl⟩ : ∃ m, f = m + 1 := ⟨f - 1, by omega⟩
    rw [wideGo, if_pos (by simp)]
    simp
  | cons r rs ih =>
    intro pre acc f h hf
    have hr := okRs_cons h
    have hb := ok_range hr.1
    obtain ⟨f, rfl⟩ : ∃ m, f = m + 1 := ⟨f - 1, by omega⟩
    simp only [List.length_cons] at hf
    rw [List.flatMap_cons]
    by_cases hlo : r < 65536
    · have hu : units16 r = [r / 256, r % 256] := by unfold units16; rw [if_pos hlo]
      have hlen : ¬ (pre ++ (units16 r ++ rs.flatMap units16)).length ≤ pre.length := by
        rw [hu]; simp only [List.length_append, List.length_cons]; omega
      have hv : unitV (pre ++ (units16 r ++ rs.flatMap units16)) 0 pre.length = some r := by
        rw [hu]
        show unitV (pre ++ r / 256 :: r % 256 :: rs.flatMap units16) 0 pre.length = _
        rw [unit_here]
        congr 1
        omega
      rw [wideGo, if_neg hlen, hv]
      simp only
      rw [if_neg (by omega), if_pos (show inSpans isCharL r = true from hr.1)]
      have e : pre ++ (units16 r ++ rs.flatMap units16) = (pre ++ units16 r) ++ rs.flatMap units16 := by rw [List.append_assoc]
      have hl2 : (pre ++ units16 r).length = pre.length + 2 := by rw [hu]; simp
      rw [e, ← hl2, ih (pre ++ units16 r) (acc ++ [r]) f hr.2 (by omega), List.append_assoc]
      rfl
    · obtain ⟨q, hq⟩ : ∃ q, r - 65536 = q := ⟨_, rfl⟩
      obtain ⟨u1, hu1⟩ : ∃ a, 55296 + q / 1024 = a := ⟨_, rfl⟩
      obtain ⟨u2, hu2⟩ : ∃ a, 56320 + q % 1024 = a := ⟨_, rfl⟩
      have hu : units16 r = [u1 / 256, u1 % 256, u2 / 256, u2 % 256] := by unfold units16; rw [if_neg hlo, hq, hu1, hu2]
      have hlen : ¬ (pre ++ (units16 r ++ rs.flatMap units16)).length ≤ pre.length := by
        rw [hu]; simp only [List.length_append, List.length_cons]; omega
      have hv : unitV (pre ++ (units16 r ++ rs.flatMap units16)) 0 pre.length = some u1 := by
        rw [hu]
        show unitV (pre ++ u1 / 256 :: u1 % 256 :: ([u2 / 256, u2 % 256] ++ rs.flatMap units16)) 0 pre.length = _
        rw [unit_here]
        congr 1
        omega
      have hv2 : unitV (pre ++ (units16 r ++ rs.flatMap units16)) 0 (pre.length + 2) = some u2 := by
        have e : pre ++ (units16 r ++ rs.flatMap units16) = (pre ++ [u1 / 256, u1 % 256]) ++ u2 / 256 :: u2 % 256 :: rs.flatMap units16 := by rw [hu]; simp
        have hl : (pre ++ [u1 / 256, u1 % 256]).length = pre.length + 2 := by simp
        rw [e, ← hl, unit_here]
        congr 1
        omega
      rw [wideGo, if_neg hlen, hv]
      simp only
      rw [if_pos (by omega), hv2]
      simp only [Option.getD_some]
      have hval : 65536 + u1 % 1024 * 1024 + u2 % 1024 = r := by omega
      rw [if_pos ⟨by omega, by omega⟩, hval, if_pos (show inSpans isCharL r = true from hr.1)]
      have e : pre ++ (units16 r ++ rs.flatMap units16) = (pre ++ units16 r) ++ rs.flatMap units16 := by rw [List.append_assoc]
      have hl2 : (pre ++ units16 r).length = pre.length + 4 := by rw [hu]; simp
      rw [e, ← hl2, ih (pre ++ units16 r) (acc ++ [r]) f hr.2 (by omega), List.append_assoc]
      rfl
theorem XcharBack (a0 : ByteArray) (a1 : Bool) (h0 : a0.size ≤ 1048576) : ∃ k, stencillaw01_XcharBack.f k a0 a1 = some true := by
  refine ⟨3000000, ?_⟩
  have hsl := size_len a0
  unfold stencillaw01_XcharBack.f
  have he : ∃ x, xchar_Encode.f a0 a1 = some x := by
    unfold xchar_Encode.f
    rw [if_pos (by omega)]
    repeat' split
    all_goals exact ⟨_, rfl⟩
  obtain ⟨x, hx⟩ := he
  rw [hx, Option.bind_some]
  by_cases hx0 : x.2 = 0
  · rw [if_pos hx0, isText_ref a0 (by omega) _ (by omega), Option.bind_some]
    by_cases ht : isTextL a0.data.toList = true
    · rw [if_pos ht, if_pos (by omega)]
      by_cases hl : 32768 < x.1.length
      · rw [if_pos hl]
      · rw [if_neg hl]
        by_cases h13 : 13 ∈ a0.data.toList
        · rw [if_pos h13]
        · rw [if_neg h13]
          by_cases hm : markB a0 = true
          · rw [if_pos hm]
          · rw [if_neg hm]
            obtain ⟨rs, ok, e⟩ := (good_iff _).1 (of_decide_eq_true ht)
            have hm' : ¬ (enc rs).take 3 = [239, 187, 191] := by
              intro hh; apply hm; unfold markB; rw [← e]; exact decide_eq_true hh
            have hA : (⟨(enc rs).toArray⟩ : ByteArray) = a0 := by apply ba_ext; rw [mk_list, e]
            rw [← e] at h13
            unfold xchar_Encode.f at hx
            rw [if_pos (by omega)] at hx
            split at hx
            · obtain rfl := Option.some.inj hx; cases hx0
            · split at hx
              · obtain rfl := Option.some.inj hx; cases hx0
              · rename_i hz
                split at hx
                · obtain rfl := Option.some.inj hx
                  have hb : bytesOf a0 = asInts (enc rs) := by rw [← hA]; rfl
                  simp only
                  rw [hb, decode_x, dec_text ok (by rw [e]; omega) h13, if_neg hm', hA, Option.bind_some, if_pos rfl]
                · obtain rfl := Option.some.inj hx
                  simp only at hl ⊢
                  have hw : wideL a0.size a0.data.toList = rs.flatMap units16 := by
                    rw [← e]
                    exact wideL_enc rs _ ok (by have := enc_len rs; rw [e] at this; omega)
                  rw [hw] at hl ⊢
                  obtain ⟨b, hb⟩ := of_bytes ([254, 255] ++ rs.flatMap units16) (by
                    intro x hx
                    rcases List.mem_append.1 hx with h | h
                    · simp only [List.mem_cons, List.not_mem_nil, or_false] at h
                      rcases h with rfl | rfl <;> omega
                    · obtain ⟨r, hr, h2⟩ := List.mem_flatMap.1 h
                      exact units_bytes (ok r hr) x h2)
                  have hbl : b.length = ([254, 255] ++ rs.flatMap units16).length := by rw [hb, asInts_length]
                  have ht2 : b.take 2 = [254, 255] := by
                    apply asInts_inj
                    have : asInts (b.take 2) = (asInts b).take 2 := by simp [asInts, List.map_take]
                    rw [this, ← hb]
                    rfl
                  rw [hb, decode_x]
                  unfold decD
                  rw [if_neg (by omega), if_pos ht2, ← hb]
                  have hlen : rs.length ≤ (enc rs).length := enc_len rs
                  have hul : ∀ rs : List Int, rs.length ≤ (rs.flatMap units16).length := by
                    intro rs
                    induction rs with
                    | nil => simp
                    | cons r rs ih =>
                      rw [List.flatMap_cons, List.length_append, List.length_cons]
                      have : 1 ≤ (units16 r).length := by unfold units16; split <;> simp
                      omega
                  have hu := hul rs
                  have hg := wideGo_units rs [254, 255] [] (b.length + 4) ok (by rw [hbl, List.length_append]; omega)
                  have hl2 : ([254, 255] : List Int).length = 2 := rfl
                  rw [hl2] at hg
                  rw [hg]
                  show (some ((⟨(endsL (Print.encR ([] ++ rs))).toArray⟩ : ByteArray), (0 : Int), (0 : Int))).bind _ = _
                  rw [List.nil_append, encR_enc, ends_id _ h13, hA, Option.bind_some, if_pos rfl]
    · rw [if_neg ht]
  · rw [if_neg hx0]
end Go.Proofs.YtinefoocajnhmaaDoor.Pure
