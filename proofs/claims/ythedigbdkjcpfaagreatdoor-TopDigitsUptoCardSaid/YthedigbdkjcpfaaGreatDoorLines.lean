/- Line ends, plain: replacing 13 10 by 10 and then 13 by 10 is one walk through the bytes. -/
import Derived.Lib.Replace
import Derived.Lib.CountLaws
set_option linter.unusedSimpArgs false
namespace Go.Proofs.YthedigbdkjcpfaaGreatDoor.Lines
open Go.Lib

def repF (old new : List UInt8) : Nat → List UInt8 → List UInt8
  | 0, s => s
  | _ + 1, [] => []
  | f + 1, b :: t => if old.isPrefixOf (b :: t) = true then new ++ repF old new f ((b :: t).drop old.length) else b :: repF old new f t
theorem index_cons (b : UInt8) (t old : List UInt8) : index (b :: t) old = if old.isPrefixOf (b :: t) = true then 0 else if index t old = -1 then -1 else index t old + 1 := by
  rw [index]
  by_cases h : old.isPrefixOf (b :: t) = true
  · rw [if_pos h, if_pos h]
  · rw [if_neg h, if_neg h]
    by_cases h2 : index t old = -1
    · rw [if_pos h2, h2]; rfl
    · rw [if_neg h2, if_neg (by simpa using h2)]
theorem replaceK_repF (old new : List UInt8) (hne : old ≠ []) : ∀ (f : Nat) (s : List UInt8) (k : Nat), s.length ≤ f → count s old ≤ k → replaceK old new k s = repF old new f s := by
  intro f
  induction f with
  | zero =>
    intro s k hs _
    have : s = [] := List.eq_nil_of_length_eq_zero (by omega)
    subst this
    have hi : index [] old = -1 := by
      rcases old with _ | ⟨a, o⟩
      · exact absurd rfl hne
      · rfl
    cases k with
    | zero => rfl
    | succ k => rw [replaceK, hi]; rfl
  | succ f ih =>
    intro s k hs hc
    rcases s with _ | ⟨b, t⟩
    · have hi : index [] old = -1 := by
        rcases old with _ | ⟨a, o⟩
        · exact absurd rfl hne
        · rfl
      cases k with
      | zero => rfl
      | succ k => rw [replaceK, hi]; rfl
    · have hlo : 0 < old.length := List.length_pos_iff.2 hne
      rw [repF]
      by_cases hp : old.isPrefixOf (b :: t) = true
      · rw [if_pos hp]
        have hi : index (b :: t) old = ((0 : Nat) : Int) := by rw [index_cons, if_pos hp]; rfl
        have hh := count_hit hne hi
        rw [Nat.zero_add] at hh
        obtain ⟨k, rfl⟩ : ∃ m, k = m + 1 := ⟨k - 1, by omega⟩
        rw [replaceK_hit old new k _ 0 hi, Nat.zero_add, List.take_zero, List.nil_append, ih _ k (by rw [List.length_drop]; simp only [List.length_cons] at hs ⊢; omega) (by omega)]
      · rw [if_neg hp]
        by_cases hm : index t old = -1
        · have hi : index (b :: t) old = -1 := by rw [index_cons, if_neg hp, if_pos hm]
          have ht := ih t k (by simpa using hs) (by rw [count_miss hm]; omega)
          rw [← ht]
          cases k with
          | zero => rfl
          | succ k => rw [replaceK, replaceK, hi, hm]; rfl
        · obtain ⟨i, hi⟩ : ∃ i : Nat, index t old = i := ⟨(index t old).toNat, by have := index_ge t old; omega⟩
          have hi2 : index (b :: t) old = ((i + 1 : Nat) : Int) := by rw [index_cons, if_neg hp, if_neg hm, hi]; rfl
          have h1 := count_hit hne hi
          have h2 := count_hit hne hi2
          have hd : (b :: t).drop (i + 1 + old.length) = t.drop (i + old.length) := by
            rw [show i + 1 + old.length = (i + old.length) + 1 by omega, List.drop_succ_cons]
          rw [hd] at h2
          have ht := ih t k (by simpa using hs) (by omega)
          rw [← ht]
          obtain ⟨k, rfl⟩ : ∃ m, k = m + 1 := ⟨k - 1, by omega⟩
          rw [replaceK_hit old new k _ (i + 1) hi2, replaceK_hit old new k _ i hi, hd, List.take_succ_cons]
          rfl
theorem replaceAll_repF (old new s : List UInt8) (hne : old ≠ []) (hn : old ≠ new) (f : Nat) (hf : s.length ≤ f) : replaceAll s old new = repF old new f s := by
  unfold replaceAll replace replaceNum
  rw [if_neg (by simpa using hn), if_pos (by omega)]
  exact replaceK_repF old new hne f s _ hf (Nat.le_refl _)

def endsL : List UInt8 → List UInt8
  | [] => []
  | b :: t => if b = 13 then (if t.head? = some 10 then endsL t else 10 :: endsL t) else b :: endsL t
theorem pre0 (t : List UInt8) : ([] : List UInt8).isPrefixOf t = true := by cases t <;> rfl
theorem pre1 (b : UInt8) (t : List UInt8) : ([13] : List UInt8).isPrefixOf (b :: t) = true ↔ b = 13 := by
  show (((13 : UInt8) == b) && ([] : List UInt8).isPrefixOf t) = true ↔ _
  rw [pre0, Bool.and_true, beq_iff_eq]
  exact eq_comm
theorem pre2 (b : UInt8) (t : List UInt8) : ([13, 10] : List UInt8).isPrefixOf (b :: t) = true ↔ b = 13 ∧ t.head? = some 10 := by
  rcases t with _ | ⟨c, t⟩
  · show (((13 : UInt8) == b) && false) = true ↔ _
    rw [Bool.and_false]
    constructor
    · intro h; cases h
    · rintro ⟨_, h⟩; cases h
  · show (((13 : UInt8) == b) && (((10 : UInt8) == c) && ([] : List UInt8).isPrefixOf t)) = true ↔ _
    rw [pre0, Bool.and_true, Bool.and_eq_true, beq_iff_eq, beq_iff_eq, List.head?_cons, Option.some.injEq]
    constructor
    · rintro ⟨rfl, rfl⟩; exact ⟨rfl, rfl⟩
    · rintro ⟨rfl, rfl⟩; exact ⟨rfl, rfl⟩
theorem rep1 : ∀ (f : Nat) (s : List UInt8), s.length ≤ f → repF [13] [10] f s = s.map fun b => if b = 13 then 10 else b := by
  intro f
  induction f with
  | zero => intro s hs; have : s = [] := List.eq_nil_of_length_eq_zero (by omega); subst this; rfl
  | succ f ih =>
    intro s hs
    rcases s with _ | ⟨b, t⟩
    · rfl
    · rw [repF, List.map_cons]
      have ht : t.length ≤ f := by simpa using hs
      by_cases hb : b = 13
      · rw [if_pos ((pre1 b t).2 hb), if_pos hb]
        show [10] ++ repF [13] [10] f t = _
        rw [ih t ht]; rfl
      · rw [if_neg (fun h => hb ((pre1 b t).1 h)), if_neg hb, ih t ht]
theorem rep2_len : ∀ (f : Nat) (s : List UInt8), (repF [13, 10] [10] f s).length ≤ s.length := by
  intro f
  induction f with
  | zero => intro s; exact Nat.le_refl _
  | succ f ih =>
    intro s
    rcases s with _ | ⟨b, t⟩
    · exact Nat.le_refl _
    · rw [repF]
      by_cases h : ([13, 10] : List UInt8).isPrefixOf (b :: t) = true
      · rw [if_pos h]
        have := ih ((b :: t).drop ([13, 10] : List UInt8).length)
        rw [List.length_drop] at this
        simp only [List.length_append, List.length_cons, List.length_nil] at this ⊢
        omega
      · rw [if_neg h]
        have := ih t
        simp only [List.length_cons]
        omega
theorem rep_ends : ∀ (f : Nat) (s : List UInt8), s.length ≤ f → (repF [13, 10] [10] f s).map (fun b => if b = 13 then (10 : UInt8) else b) = endsL s := by
  intro f
  induction f with
  | zero => intro s hs; have : s = [] := List.eq_nil_of_length_eq_zero (by omega); subst this; rfl
  | succ f ih =>
    intro s hs
    rcases s with _ | ⟨b, t⟩
    · rfl
    · rw [repF, endsL]
      have ht : t.length ≤ f := by simpa using hs
      by_cases hb : b = 13
      · rw [if_pos hb]
        by_cases hh : t.head? = some 10
        · rw [if_pos ((pre2 b t).2 ⟨hb, hh⟩), if_pos hh]
          rcases t with _ | ⟨c, t⟩
          · cases hh
          · obtain rfl : c = 10 := by simpa using hh
            show ([10] ++ repF [13, 10] [10] f t).map _ = _
            rw [List.map_append, ih t (by simp only [List.length_cons] at ht; omega), endsL, if_neg (by decide)]
            rfl
        · rw [if_neg (fun h => hh ((pre2 b t).1 h).2), if_neg hh, List.map_cons, if_pos hb, ih t ht]
      · rw [if_neg (fun h => hb ((pre2 b t).1 h).1), if_neg hb, List.map_cons, if_neg hb, ih t ht]
theorem lines_ends (s : List UInt8) : replaceAll (replaceAll s [13, 10] [10]) [13] [10] = endsL s := by
  rw [replaceAll_repF [13, 10] [10] s (by simp) (by simp) s.length (Nat.le_refl _),
    replaceAll_repF [13] [10] _ (by simp) (by simp) s.length (rep2_len s.length s), rep1 _ _ (rep2_len s.length s), rep_ends _ _ (Nat.le_refl _)]
theorem lines1_len (s : List UInt8) : (replaceAll s [13, 10] [10]).length ≤ s.length := by
  rw [replaceAll_repF [13, 10] [10] s (by simp) (by simp) s.length (Nat.le_refl _)]
  exact rep2_len _ _
theorem ends_len : ∀ s : List UInt8, (endsL s).length ≤ s.length := by
  intro s
  induction s with
  | nil => exact Nat.le_refl _
  | cons b t ih =>
    rw [endsL]
    split
    · split
      · simp only [List.length_cons]; omega
      · simp only [List.length_cons]; omega
    · simp only [List.length_cons]; omega
theorem ends_no13 : ∀ s : List UInt8, 13 ∉ endsL s := by
  intro s
  induction s with
  | nil => simp [endsL]
  | cons b t ih =>
    rw [endsL]
    split
    · split
      · exact ih
      · simp only [List.mem_cons, not_or]; exact ⟨by decide, ih⟩
    · rename_i h
      simp only [List.mem_cons, not_or]; exact ⟨fun e => h e.symm, ih⟩
theorem ends_id : ∀ s : List UInt8, 13 ∉ s → endsL s = s := by
  intro s
  induction s with
  | nil => intro _; rfl
  | cons b t ih =>
    intro h
    simp only [List.mem_cons, not_or] at h
    rw [endsL, if_neg (fun e => h.1 e.symm), ih h.2]
end Go.Proofs.YthedigbdkjcpfaaGreatDoor.Lines
