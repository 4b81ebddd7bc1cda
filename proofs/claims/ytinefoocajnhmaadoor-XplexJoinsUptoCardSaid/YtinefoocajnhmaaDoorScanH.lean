/- Literal and Join, as plain functions. -/
import Derived.Test.YtinefoocajnhmaaDoorPrintf19
import Derived.Test.YtinefoocajnhmaaDoorPrintf49
import Derived.Test.YtinefoocajnhmaaDoorScanG
set_option linter.unusedSimpArgs false
namespace Go.Proofs.YtinefoocajnhmaaDoor.Scan
open Go.RowKit Go.Proofs.YtinefoocajnhmaaDoorW.PrintWords Go.Proofs.YtinefoocajnhmaaDoor.Plain Go.Proofs.YtinefoocajnhmaaDoor.Print Go.Proofs.YtinefoocajnhmaaDoor.Enc Go.Lib
theorem has_one (c : UInt8) (l : List UInt8) : contains l [c] = decide (c ∈ l) := by
  have key : 0 ≤ index l [c] ↔ c ∈ l := by
    induction l with
    | nil => simp [index]
    | cons b t ih =>
      unfold index
      by_cases hb : b = c
      · subst hb
        simp [List.isPrefixOf]
      · have hp : ([c] : List UInt8).isPrefixOf (b :: t) = false := by
          simp [List.isPrefixOf, Ne.symm hb]
        have hge := index_ge t [c]
        rw [hp]
        simp only [Bool.false_eq_true, if_false, List.mem_cons]
        constructor
        · intro h
          right
          refine ih.1 ?_
          split at h
          · omega
          · rename_i h2
            rw [beq_iff_eq] at h2
            omega
        · rintro (h | h)
          · exact absurd h.symm hb
          · have := ih.2 h
            rw [if_neg (by rw [beq_iff_eq]; omega)]
            omega
  unfold contains
  exact decide_eq_decide.2 key
theorem bytes3 (c : UInt8) (s : ByteArray) : ((⟨#[c]⟩ : ByteArray) ++ s ++ (⟨#[c]⟩ : ByteArray)).data.toList = c :: (s.data.toList ++ [c]) := by
  rw [ByteArray.data_append, ByteArray.data_append, Array.toList_append, Array.toList_append]; rfl
/-- a text as a string of an expression: with the sign that it does not hold -/
def litB (s : ByteArray) : ByteArray × Int :=
  if 34 ∉ s.data.toList then ((⟨#[34]⟩ : ByteArray) ++ s ++ (⟨#[34]⟩ : ByteArray), 0)
  else if 39 ∉ s.data.toList then ((⟨#[39]⟩ : ByteArray) ++ s ++ (⟨#[39]⟩ : ByteArray), 0)
  else ((⟨#[]⟩ : ByteArray), 9)
theorem literal_f (s : ByteArray) (hz : s.size ≤ 1048576) (k : Nat) (hk : 3 ≤ k) : xplex_Literal.f k s = some (litB s) := by
  obtain ⟨k, rfl⟩ : ∃ m, k = m + 3 := ⟨k - 3, by omega⟩
  have hc : ∀ c : UInt8, strings_Contains.f s ⟨#[c]⟩ = some (decide (c ∈ s.data.toList)) := fun c => by
    unfold strings_Contains.f
    rw [if_pos (by omega)]
    exact congrArg some (has_one c _)
  have w1 : wrap64 ((0 : Int) + 1) = 1 := by unfold wrap64; omega
  have w2 : wrap64 ((1 : Int) + 1) = 2 := by unfold wrap64; omega
  have r0 : rdOf ByteArray.empty [(⟨#[34]⟩ : ByteArray), ⟨#[39]⟩] 0 = ⟨#[34]⟩ := rfl
  have r1 : rdOf ByteArray.empty [(⟨#[34]⟩ : ByteArray), ⟨#[39]⟩] 1 = ⟨#[39]⟩ := rfl
  have s1 : ∀ c : UInt8, (⟨#[c]⟩ : ByteArray).size = 1 := fun c => rfl
  have g1 : ∀ (x7 x8 : Int) (k : Nat), x8 < x7 → 0 ≤ x8 → x8 < 2 → ∀ c : UInt8, rdOf ByteArray.empty [(⟨#[34]⟩ : ByteArray), ⟨#[39]⟩] x8 = ⟨#[c]⟩ →
      xplex_Literal.l0 (k + 1) s [(⟨#[34]⟩ : ByteArray), ⟨#[39]⟩] x7 x8 = if c ∈ s.data.toList then xplex_Literal.l0 k s [(⟨#[34]⟩ : ByteArray), ⟨#[39]⟩] x7 (wrap64 (x8 + 1)) else some ((⟨#[c]⟩ : ByteArray) ++ s ++ (⟨#[c]⟩ : ByteArray), 0) := by
    intro x7 x8 k h1 h2 h3 c hr
    rw [xplex_Literal.l0, if_pos h1, if_pos h2, if_pos (by simpa using h3), hr, hc, s1, if_pos (by omega), if_pos (by omega), Option.bind_some]
    by_cases hm : c ∈ s.data.toList
    · rw [if_pos (decide_eq_true hm), if_pos hm]
    · rw [if_neg (by simpa using hm), if_neg hm]
  unfold xplex_Literal.f litB
  rw [Option.bind_some, show (([(⟨#[34]⟩ : ByteArray), ⟨#[39]⟩] : List ByteArray).length : Int) = 2 from rfl, g1 2 0 (k + 2) (by decide) (by decide) (by decide) 34 r0, w1, g1 2 1 (k + 1) (by decide) (by decide) (by decide) 39 r1, w2]
  have l2 : xplex_Literal.l0 (k + 1) s [(⟨#[34]⟩ : ByteArray), ⟨#[39]⟩] 2 2 = some (⟨#[]⟩, 9) := by rw [xplex_Literal.l0, if_neg (by decide)]
  rw [l2]
  by_cases h34 : (34 : UInt8) ∈ s.data.toList
  · by_cases h39 : (39 : UInt8) ∈ s.data.toList
    · simp only [h34, h39, not_true, if_true, if_false]
    · simp only [h34, h39, not_true, not_false_eq_true, if_true, if_false]
  · simp only [h34, not_false_eq_true, if_true, if_false]
/-- a token as a text -/
def pieceB (x : S30) : ByteArray :=
  if x.f0 = 7 then (⟨#[36]⟩ : ByteArray) ++ x.f1
  else if x.f0 = 2 then (if (litB x.f1).2 = 0 then (litB x.f1).1 else (⟨#[34]⟩ : ByteArray) ++ x.f1 ++ (⟨#[34]⟩ : ByteArray))
  else x.f1
def joinB (ps : List ByteArray) : ByteArray := ⟨(Lib.join (ps.map (·.data.toList)) [32]).toArray⟩
theorem join_l0 (L : List S30) (hz : L.length ≤ 1048576) (hf : ∀ x ∈ L, x.f1.size ≤ 1048576) (hj : (Lib.join ((L.map pieceB).map (·.data.toList)) [32]).length ≤ 140737488355328) :
    ∀ (d j k : Nat), L.length - j ≤ d → d + 4 ≤ k → j ≤ L.length → xplex_Join.l0 k ((L.take j).map pieceB) L (L.length : Int) (j : Int) = some (joinB (L.map pieceB)) := by
  intro d
  induction d with
  | zero =>
    intro j k hd hk hjl
    obtain ⟨k, rfl⟩ : ∃ m, k = m + 1 := ⟨k - 1, by omega⟩
    have e : L.take j = L := List.take_of_length_le (by omega)
    rw [xplex_Join.l0, if_neg (by omega), e]
    unfold strings_Join.f
    rw [if_pos ⟨by rw [List.length_map]; omega, hj⟩]; rfl
  | succ d ih =>
    intro j k hd hk hjl
    by_cases hlt : j < L.length
    · obtain ⟨k, rfl⟩ : ∃ m, k = m + 1 := ⟨k - 1, by omega⟩
      obtain ⟨x, hx⟩ : ∃ x, L[j]? = some x := ⟨_, List.getElem?_eq_getElem hlt⟩
      have hxz := hf x (List.mem_of_getElem? hx)
      have hw : wrap64 ((j : Int) + 1) = ((j + 1 : Nat) : Int) := by unfold wrap64; omega
      have htk : (L.take (j + 1)).map pieceB = (L.take j).map pieceB ++ [pieceB x] := by
        rw [List.take_add_one, hx, List.map_append]; rfl
      have hnext := ih (j + 1) k (by omega) (by omega) (by omega)
      rw [htk] at hnext
      have hol : ((L.take j).map pieceB).length < 8796093022208 := by rw [List.length_map, List.length_take]; omega
      obtain ⟨out, ho⟩ : ∃ out, (L.take j).map pieceB = out := ⟨_, rfl⟩
      rw [ho] at hnext hol ⊢
      have s1 : (⟨#[36]⟩ : ByteArray).size = 1 := rfl
      rw [xplex_Join.l0, if_pos (by omega), if_pos (by omega), if_pos (by omega), rd_get hx, hw]
      unfold pieceB at hnext
      by_cases h7 : x.f0 = 7
      · rw [if_pos h7] at hnext ⊢
        rw [if_pos (by omega), if_pos hol]
        exact hnext
      · rw [if_neg h7] at hnext ⊢
        by_cases h2 : x.f0 = 2
        · rw [if_pos h2] at hnext ⊢
          rw [literal_f x.f1 hxz k (by omega), Option.bind_some]
          by_cases hl : (litB x.f1).2 = 0
          · rw [if_pos hl] at hnext ⊢
            rw [if_pos hol]
            exact hnext
          · rw [if_neg hl] at hnext ⊢
            rw [if_pos (by omega), if_pos (by omega), if_pos hol]
            exact hnext
        · rw [if_neg h2] at hnext ⊢
          rw [if_pos hol]
          exact hnext
    · exact ih j k (by omega) (by omega) hjl
theorem join_f (L : List S30) (hz : L.length ≤ 1048576) (hf : ∀ x ∈ L, x.f1.size ≤ 1048576) (hj : (Lib.join ((L.map pieceB).map (·.data.toList)) [32]).length ≤ 140737488355328) (k : Nat) (hk : L.length + 4 ≤ k) :
    xplex_Join.f k L = some (joinB (L.map pieceB)) := join_l0 L hz hf hj L.length 0 k (by omega) hk (Nat.zero_le _)
end Go.Proofs.YtinefoocajnhmaaDoor.Scan
