/- XplexLiterals, without Go and memory. -/
import Derived.Test.YtinefoocajnhmaaDoorPrintf6
import Derived.Test.YtinefoocajnhmaaDoorPrintf5
import Derived.Test.YtinefoocajnhmaaDoorPrintf55
import Derived.Test.YtinefoocajnhmaaDoorScanD
import Derived.Test.YtinefoocajnhmaaDoorFactsT
set_option linter.unusedSimpArgs false
namespace Go.Proofs.YtinefoocajnhmaaDoor.Pure
open Go.RowKit Go.Proofs.YtinefoocajnhmaaDoorW.PrintWords Go.Proofs.YtinefoocajnhmaaDoor.Plain Go.Proofs.YtinefoocajnhmaaDoor.Print Go.Proofs.YtinefoocajnhmaaDoor.Enc Go.Proofs.YtinefoocajnhmaaDoor.Scan Go.Lib
theorem has_one (c : UInt8) (l : List UInt8) : contains l [c] = decide (c ∈ l) := by
  have key : 0 ≤ index l [c] ↔ c ∈ l := by
    induction l with
    | nil => simp [index]
    | cons b t ih =>
      unfold index
      by_cases hb : b = c
      · subst hb
        simp [List.isPrefixOf]
      · have hp : ([c] : List UInt8).isPrefixOf (b :: t) = false := by
          simp [List.isPrefixOf, Ne.symm hb]
        have hge := index_ge t [c]
        rw [hp]
        simp only [Bool.false_eq_true, if_false, List.mem_cons]
        constructor
        · intro h
          right
          refine ih.1 ?_
          split at h
          · omega
          · rename_i h2
            rw [beq_iff_eq] at h2
            omega
        · rintro (h | h)
          · exact absurd h.symm hb
          · have := ih.2 h
            rw [if_neg (by rw [beq_iff_eq]; omega)]
            omega
  unfold contains
  exact decide_eq_decide.2 key
theorem bytes3 (c : UInt8) (s : ByteArray) : ((⟨#[c]⟩ : ByteArray) ++ s ++ (⟨#[c]⟩ : ByteArray)).data.toList = c :: (s.data.toList ++ [c]) := by
  rw [ByteArray.data_append, ByteArray.data_append, Array.toList_append, Array.toList_append]; rfl
/-- a text as a string of an expression: with the sign that it does not hold -/
def litB (s : ByteArray) : ByteArray × Int :=
  if 34 ∉ s.data.toList then ((⟨#[34]⟩ : ByteArray) ++ s ++ (⟨#[34]⟩ : ByteArray), 0)
  else if 39 ∉ s.data.toList then ((⟨#[39]⟩ : ByteArray) ++ s ++ (⟨#[39]⟩ : ByteArray), 0)
  else ((⟨#[]⟩ : ByteArray), 9)
theorem literal_f (s : ByteArray) (hz : s.size ≤ 1048576) (k : Nat) (hk : 3 ≤ k) : xplex_Literal.f k s = some (litB s) := by
  obtain ⟨k, rfl⟩ : ∃ m, k = m + 3 := ⟨k - 3, by omega⟩
  have hc : ∀ c : UInt8, strings_Contains.f s ⟨#[c]⟩ = some (decide (c ∈ s.data.toList)) := fun c => by
    unfold strings_Contains.f
    rw [if_pos (by omega)]
    exact congrArg some (has_one c _)
  have w1 : wrap64 ((0 : Int) + 1) = 1 := by unfold wrap64; omega
  have w2 : wrap64 ((1 : Int) + 1) = 2 := by unfold wrap64; omega
  have r0 : rdOf ByteArray.empty [(⟨#[34]⟩ : ByteArray), ⟨#[39]⟩] 0 = ⟨#[34]⟩ := rfl
  have r1 : rdOf ByteArray.empty [(⟨#[34]⟩ : ByteArray), ⟨#[39]⟩] 1 = ⟨#[39]⟩ := rfl
  have s1 : ∀ c : UInt8, (⟨#[c]⟩ : ByteArray).size = 1 := fun c => rfl
  have g1 : ∀ (x7 x8 : Int) (k : Nat), x8 < x7 → 0 ≤ x8 → x8 < 2 → ∀ c : UInt8, rdOf ByteArray.empty [(⟨#[34]⟩ : ByteArray), ⟨#[39]⟩] x8 = ⟨#[c]⟩ →
      xplex_Literal.l0 (k + 1) s [(⟨#[34]⟩ : ByteArray), ⟨#[39]⟩] x7 x8 = if c ∈ s.data.toList then xplex_Literal.l0 k s [(⟨#[34]⟩ : ByteArray), ⟨#[39]⟩] x7 (wrap64 (x8 + 1)) else some ((⟨#[c]⟩ : ByteArray) ++ s ++ (⟨#[c]⟩ : ByteArray), 0) := by
    intro x7 x8 k h1 h2 h3 c hr
    rw [xplex_Literal.l0, if_pos h1, if_pos h2, if_pos (by simpa using h3), hr, hc, s1, if_pos (by omega), if_pos (by omega), Option.bind_some]
    by_cases hm : c ∈ s.data.toList
    · rw [if_pos (decide_eq_true hm), if_pos hm]
    · rw [if_neg (by simpa using hm), if_neg hm]
  unfold xplex_Literal.f litB
  rw [Option.bind_some, show (([(⟨#[34]⟩ : ByteArray), ⟨#[39]⟩] : List ByteArray).length : Int) = 2 from rfl, g1 2 0 (k + 2) (by decide) (by decide) (by decide) 34 r0, w1, g1 2 1 (k + 1) (by decide) (by decide) (by decide) 39 r1, w2]
  have l2 : xplex_Literal.l0 (k + 1) s [(⟨#[34]⟩ : ByteArray), ⟨#[39]⟩] 2 2 = some (⟨#[]⟩, 9) := by rw [xplex_Literal.l0, if_neg (by decide)]
  rw [l2]
  by_cases h34 : (34 : UInt8) ∈ s.data.toList
  · by_cases h39 : (39 : UInt8) ∈ s.data.toList
    · simp only [h34, h39, not_true, if_true, if_false]
    · simp only [h34, h39, not_true, not_false_eq_true, if_true, if_false]
  · simp only [h34, not_false_eq_true, if_true, if_false]
/-- a string in its signs is one token -/
theorem quote_token (c : Int) (hc : c = 34 ∨ c = 39) (rs : List Int) (hn : c ∉ rs) (n : Int) (t : List Int) : tokenR (c :: (rs ++ c :: t)) n = some (2, c :: (rs ++ [c]), rs) := by
  have hb : dg c = false := by rcases hc with rfl | rfl <;> decide
  have hne : numberR (c :: (rs ++ c :: t)) = [] := by
    unfold numberR
    rw [List.dropWhile_cons_of_neg (by rw [hb]; decide), List.takeWhile_cons_of_neg (by rw [hb]; decide)]
    rw [if_neg]
    simp only [preR, List.length_cons, List.length_nil, List.take_succ_cons, List.take_zero, beq_iff_eq]
    rcases hc with rfl | rfl <;> simp
  have hq : quoteR c ((c :: (rs ++ c :: t)).drop 1) = some (2, c :: (rs ++ [c]), rs) := by
    have htw : (rs ++ c :: t).takeWhile (· ≠ c) = rs := by
      rw [List.takeWhile_append_of_pos (fun x hx => by simp only [decide_eq_true_eq]; rintro rfl; exact hn hx)]
      simp
    unfold quoteR
    rw [List.drop_succ_cons, List.drop_zero, if_pos (by simp), htw]
  unfold tokenR
  rw [if_neg (fun h => h hne)]
  rcases hc with rfl | rfl
  · rw [if_pos (by simp [preR])]; exact hq
  · rw [if_neg (by simp [preR]), if_pos (by simp [preR])]; exact hq
theorem lit_scan (c : UInt8) (hc : c = 34 ∨ c = 39) (s t : ByteArray) (hn : c ∉ s.data.toList) (ht : t.data.toList = c :: (s.data.toList ++ [c])) :
    (512 < t.size → scanR t = ([], 6, 0)) ∧ (t.size ≤ 512 → ((badL s.data.toList.length s.data.toList 0).1 < 0 → scanR t = ([⟨2, s, 0⟩], 0, 0)) ∧ (¬ (badL s.data.toList.length s.data.toList 0).1 < 0 → (scanR t).2.1 = 4)) := by
  have hcl : c.toNat < 128 := by rcases hc with rfl | rfl <;> decide
  have hci : ((c.toNat : Nat) : Int) = 34 ∨ ((c.toNat : Nat) : Int) = 39 := by rcases hc with rfl | rfl; exact .inl rfl; exact .inr rfl
  refine ⟨fun h => scan_big t h, fun h => ⟨fun hg => ?_, fun hg => ?_⟩⟩
  · obtain ⟨rs, hok, hrs⟩ := (good_iff _).1 hg
    have hokc : okR (c.toNat : Int) := by
      show inSpans isCharL _ = true
      rcases hci with e | e <;> rw [e] <;> decide
    have hokt : okRs ((c.toNat : Int) :: (rs ++ [(c.toNat : Int)])) := by
      intro x hx
      rcases List.mem_cons.1 hx with rfl | hx
      · exact hokc
      · rcases List.mem_append.1 hx with hx | hx
        · exact hok x hx
        · rw [List.mem_singleton.1 hx]; exact hokc
    have e1 : encodeRune ((c.toNat : Nat) : Int) = [c] := by rw [rune_ascii (by omega) (by omega)]; simp
    have hte : t.data.toList = enc ((c.toNat : Int) :: (rs ++ [(c.toNat : Int)])) := by
      rw [enc_cons, enc_append, enc_cons, enc_nil, e1, hrs, ht]; rfl
    have hnr : ((c.toNat : Nat) : Int) ∉ rs := fun hm => hn (by
      rw [← hrs]
      exact List.mem_flatMap.2 ⟨_, hm, by rw [e1]; simp⟩)
    rw [scan_enc t _ hokt hte h _ rfl]
    have htr : trimR ((c.toNat : Int) :: (rs ++ [(c.toNat : Int)])) = (c.toNat : Int) :: (rs ++ [(c.toNat : Int)]) := by
      unfold trimR
      rw [List.dropWhile_cons_of_neg]
      rcases hci with e | e <;> rw [e] <;> decide
    have htk := quote_token ((c.toNat : Nat) : Int) hci rs hnr 0 []
    have hsz : (enc ((c.toNat : Int) :: (rs ++ [(c.toNat : Int)]))).length = t.size := by rw [← hte, sz]
    rw [htr, scanT, if_neg (by simp), htk]
    simp only []
    rw [show ((c.toNat : Int) :: (rs ++ [(c.toNat : Int)])).drop ((c.toNat : Int) :: (rs ++ [(c.toNat : Int)])).length = [] from List.drop_length, show trimR [] = [] from rfl]
    have h0 : scanT t.size [] (nextR 2 rs) = .ok [] := by
      cases t.size with
      | zero => rfl
      | succ m => rw [scanT, if_pos rfl]
    rw [h0]
    simp only [consT, resT, List.map_cons, List.map_nil, List.nil_append, tkS, hsz, Nat.sub_self]
    rw [show mkB rs = s from (mk_eq hrs.symm).symm]; rfl
  · rw [scan_bad t (by omega)]
    intro hb
    obtain ⟨rs, hok, hrs⟩ := (good_iff _).1 hb
    rw [ht] at hrs
    obtain ⟨rs1, rfl, h1⟩ := enc_head hok _ c hcl hrs
    obtain ⟨rs2, rfl, h2⟩ := enc_snoc (okRs_cons hok).2 _ c hcl h1
    exact hg ((good_iff _).2 ⟨rs2, (okRs_append.1 (okRs_cons hok).2).1, h2⟩)
theorem XplexLiterals (s : ByteArray) (hz : s.size ≤ 1048576) : ∃ k, stencillaw05_XplexLiterals.f k s = some true := by
  refine ⟨2 * s.size + 4, ?_⟩
  have hT := FactsT.isText_ref s (by omega) (2 * s.size + 4) (by omega)
  unfold stencillaw05_XplexLiterals.f
  rw [literal_f s hz _ (by omega), hT, live_ok]
  have main : ∀ (c : UInt8) (t : ByteArray), c = 34 ∨ c = 39 → c ∉ s.data.toList → t.data.toList = c :: (s.data.toList ++ [c]) →
      ((xplex_Scan.f t).bind fun bt224 => ((some (FactsT.isTextL s.data.toList)).bind fun t229 => (if t229 = true then (if (t.size : Int) > 512 then ((some true).bind fun t231 => (if t231 = true then (some (bt224.2.1 == 6)) else (some false))) else ((some true).bind fun t232 => (if t232 = true then (if bt224.2.1 = 0 then (if (bt224.1.length : Int) = 1 then (if 0 < (bt224.1.length : Int) then (if ((rd_T30 bt224.1 0).f0) = 2 then (if ((rd_T30 bt224.1 0).f1).toList = s.toList then (some (((rd_T30 bt224.1 0).f2) == 0)) else (some false)) else (some false)) else (none)) else (some false)) else (some false)) else (some false)))) else ((some true).bind fun t230 => (if t230 = true then (if bt224.2.1 = 4 then (some true) else (some (bt224.2.1 == 6))) else (some false)))))) = some true := by
    intro c t hc hn ht
    have hl := lit_scan c hc s t hn ht
    unfold xplex_Scan.f
    simp only [Option.bind_some, if_true]
    by_cases hb : 512 < t.size
    · rw [hl.1 hb]
      simp only []
      cases FactsT.isTextL s.data.toList
      · rw [if_neg (by decide), if_neg (by decide)]; rfl
      · rw [if_pos rfl, if_pos (by omega)]; rfl
    · have hl2 := hl.2 (by omega)
      unfold FactsT.isTextL
      by_cases hg : (badL s.data.toList.length s.data.toList 0).1 < 0
      · rw [hl2.1 hg, if_pos (decide_eq_true hg), if_neg (by omega)]
        simp [rd_T30]
      · rw [if_neg (by simpa using hg), if_pos (hl2.2 hg)]
  unfold litB
  by_cases h34 : (34 : UInt8) ∉ s.data.toList
  · rw [if_pos h34]
    simp only [Option.bind_some, if_true] at main ⊢
    exact main 34 _ (.inl rfl) h34 (bytes3 34 s)
  · rw [if_neg h34]
    by_cases h39 : (39 : UInt8) ∉ s.data.toList
    · rw [if_pos h39]
      simp only [Option.bind_some, if_true] at main ⊢
      exact main 39 _ (.inr rfl) h39 (bytes3 39 s)
    · rw [if_neg h39]
      simp [Lib.toList_data]
end Go.Proofs.YtinefoocajnhmaaDoor.Pure
