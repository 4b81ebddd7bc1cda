/- TopDigits, without Go and memory. -/
import Derived.Test.YthedigbdkjcpfaaGreatDoorPrintf3
import Derived.Test.YthedigbdkjcpfaaGreatDoorPrintf5
import Derived.Test.YthedigbdkjcpfaaGreatDoorPrintf16
import Derived.Test.YthedigbdkjcpfaaGreatDoorPrintxnumparse
import Derived.Test.YthedigbdkjcpfaaGreatDoorPrintxchartrim
import Derived.Test.YthedigbdkjcpfaaGreatDoorPrintxcharencode
import Derived.Test.YthedigbdkjcpfaaGreatDoorPrintf9
import Derived.Test.YthedigbdkjcpfaaGreatDoorNumT
import Derived.Test.YthedigbdkjcpfaaGreatDoorBackT
import Derived.Test.YthedigbdkjcpfaaGreatDoorTrimT
set_option linter.unusedSimpArgs false
namespace Go.Proofs.YthedigbdkjcpfaaGreatDoor.Pure
open Go.RowKit Go.Proofs.YthedigbdkjcpfaaGreatDoorW.PrintWords Go.Proofs.YthedigbdkjcpfaaGreatDoor.Plain Go.Proofs.YthedigbdkjcpfaaGreatDoor.Print Go.Proofs.YthedigbdkjcpfaaGreatDoor.NumO Go.Proofs.YthedigbdkjcpfaaGreatDoor.NumA Go.Proofs.YthedigbdkjcpfaaGreatDoor.NumD Go.Proofs.YthedigbdkjcpfaaGreatDoor.NumT
/-- a byte of a number's text -/
def isT (c : UInt8) : Prop := 45 ≤ c.toNat ∧ c.toNat ≤ 57
theorem core_t (n : Nat) : ∀ c ∈ coreL n, isT c := by
  intro c hc
  have hd : ∀ c, isD c → isT c := fun c h => by unfold isD at h; unfold isT; omega
  unfold coreL at hc
  rcases List.mem_append.1 hc with h1 | h1
  · exact hd c (dec_d _ c h1)
  · split at h1
    · simp at h1
    · rcases List.mem_cons.1 h1 with rfl | h2
      · unfold isT; decide
      · exact hd c (frac_d _ c h2)
theorem text_t (v : Int) : ∀ c ∈ textL v, isT c := by
  intro c hc
  have et : textL v = (if v < 0 then [45] else []) ++ coreL v.natAbs := rfl
  rw [et] at hc
  rcases List.mem_append.1 hc with h | h
  · split at h
    · simp at h; subst h; unfold isT; decide
    · simp at h
  · exact core_t _ c h
theorem text_ne (v : Int) : textL v ≠ [] := by
  have et : textL v = (if v < 0 then [45] else []) ++ coreL v.natAbs := rfl
  obtain ⟨c, l, hc⟩ := dec_ne (v.natAbs / 1000000)
  rw [et]
  unfold coreL
  rw [hc]
  split <;> simp
theorem text_len {v : Int} (h : -1000000000000000000 ≤ v ∧ v ≤ 1000000000000000000) : (textL v).length ≤ 41 := by
  have et : textL v = (if v < 0 then [45] else []) ++ coreL v.natAbs := rfl
  have hl := core_len v.natAbs (by omega)
  rw [et, List.length_append]
  split <;> simp <;> omega
theorem blank_t {c : UInt8} (h : isT c) : ([9, 10, 13, 32] : List UInt8).contains c = false := by
  unfold isT at h
  have e : ∀ d ∈ ([9, 10, 13, 32] : List UInt8), ¬ c = d := by
    intro d hd hc
    subst hc
    simp only [List.mem_cons, List.not_mem_nil, or_false] at hd
    rcases hd with rfl | rfl | rfl | rfl <;> revert h <;> decide
  rw [Bool.eq_false_iff]
  intro hc
  exact e c (by simpa using hc) rfl
theorem isB_t {c : UInt8} (h : isT c) : TrimT.isB c = false := by
  have := blank_t h
  unfold TrimT.isB
  simp only [List.contains_cons, List.contains_nil, Bool.or_false, Bool.or_eq_false_iff] at this
  obtain ⟨a, b, c2, d⟩ := this
  simp [a, b, c2, d] at *
theorem trim_pad (T : List UInt8) (hT : T ≠ []) (h : ∀ c ∈ T, isT c) : Lib.trimS ([32, 10] ++ T ++ [9]) [9, 10, 13, 32] = T := by
  have hb : ∀ c ∈ T, ([9, 10, 13, 32] : List UInt8).contains c = false := fun c hc => blank_t (h c hc)
  obtain ⟨x, xs, hx⟩ : ∃ x xs, T = x :: xs := by cases T with | nil => exact absurd rfl hT | cons x xs => exact ⟨x, xs, rfl⟩
  obtain ⟨y, ys, hy⟩ : ∃ y ys, T.reverse = y :: ys := by
    cases e : T.reverse with
    | nil => exact absurd (List.reverse_eq_nil_iff.1 e) hT
    | cons y ys => exact ⟨y, ys, rfl⟩
  have hyb : ([9, 10, 13, 32] : List UInt8).contains y = false := hb y (by rw [← List.mem_reverse, hy]; simp)
  have hxb : ([9, 10, 13, 32] : List UInt8).contains x = false := hb x (by rw [hx]; simp)
  have e1 : Lib.trimRightS ([32, 10] ++ T ++ [9]) [9, 10, 13, 32] = [32, 10] ++ T := by
    unfold Lib.trimRightS
    have e : ([32, 10] ++ T ++ [9]).reverse = 9 :: (y :: (ys ++ [10, 32])) := by
      rw [List.reverse_append, List.reverse_append, hy]; rfl
    rw [e, List.dropWhile_cons, if_pos (by decide), List.dropWhile_cons, if_neg (by rw [hyb]; decide)]
    have e2 : y :: (ys ++ [10, 32]) = ([32, 10] ++ T).reverse := by rw [List.reverse_append, hy]; rfl
    rw [e2, List.reverse_reverse]
  unfold Lib.trimS
  rw [e1]
  unfold Lib.trimLeftS
  show List.dropWhile _ (32 :: 10 :: T) = T
  rw [List.dropWhile_cons, if_pos (by decide), List.dropWhile_cons, if_pos (by decide), hx, List.dropWhile_cons, if_neg (by rw [hxb]; decide)]
theorem trimGo_pad (T : List UInt8) (hT : T ≠ []) (h : ∀ c ∈ T, isT c) : TrimT.trimGo [] false ([32, 10] ++ T ++ [9]) = T := by
  have e : [32, 10] ++ T ++ [9] = (32 : UInt8) :: 10 :: (T ++ [9]) := rfl
  rw [e, TrimT.trimGo, if_pos (by decide), TrimT.trimGo, if_pos (by decide), TrimT.trimGo_run T [9] hT (fun b hb => isB_t (h b hb)), if_neg (by simp), TrimT.trimGo, if_pos (by decide), TrimT.trimGo, List.nil_append]
theorem parse_pad {v : Int} (h : -1000000000000000000 ≤ v ∧ v ≤ 1000000000000000000) : xnum_Parse.f ⟨([32, 10] ++ textL v ++ [9]).toArray⟩ = some (0, v) := by
  rw [← parse_text h]
  have hl := text_len h
  have e1 : (⟨([32, 10] ++ textL v ++ [9]).toArray⟩ : ByteArray).size ≤ 1073741824 := by rw [size_mk]; simp; omega
  have e2 : (⟨(textL v).toArray⟩ : ByteArray).size ≤ 1073741824 := by rw [size_mk]; omega
  have ed : ∀ x : List UInt8, (⟨x.toArray⟩ : ByteArray).data.toList = x := fun x => rfl
  unfold xnum_Parse.f
  rw [if_pos e1, if_pos e2, ed, ed, trim_pad _ (text_ne v) (text_t v), trim_none (fun c hc => blank_t (text_t v c hc))]
theorem enc_pad (v : Int) : Enc.enc (([32, 10] ++ textL v ++ [9]).map fun c : UInt8 => (c.toNat : Int)) = [32, 10] ++ textL v ++ [9] ∧ Enc.okRs (([32, 10] ++ textL v ++ [9]).map fun c : UInt8 => (c.toNat : Int)) ∧ ¬ 13 ∈ [32, 10] ++ textL v ++ [9] := by
  have hall : ∀ c ∈ [32, 10] ++ textL v ++ [9], c.toNat = 32 ∨ c.toNat = 10 ∨ c.toNat = 9 ∨ (45 ≤ c.toNat ∧ c.toNat ≤ 57) := by
    intro c hc
    rcases List.mem_append.1 hc with h | h
    · rcases List.mem_append.1 h with h | h
      · simp only [List.mem_cons, List.not_mem_nil, or_false] at h
        rcases h with rfl | rfl
        · exact .inl rfl
        · exact .inr (.inl rfl)
      · exact .inr (.inr (.inr (text_t v c h)))
    · simp only [List.mem_cons, List.not_mem_nil, or_false] at h
      subst h
      exact .inr (.inr (.inl rfl))
  refine ⟨Enc.enc_ascii _ (fun c hc => by have := hall c hc; omega), ?_, ?_⟩
  · intro r hr
    obtain ⟨c, hc, rfl⟩ := List.mem_map.1 hr
    have := hall c hc
    unfold Enc.okR inSpans isCharL
    simp
    omega
  · intro h
    have := hall 13 h
    revert this
    decide
theorem TopDigits (a v : Int) (b : Bool) (_ : (Lit.int .i64 a).wf = true) (_ : (Lit.int .i64 v).wf = true) :
    ∃ k, stenciltop_TopDigits.f k a v b = some true := by
  refine ⟨1, ?_⟩
  have h12 : xnum_Int.f (-12) = some (0, -12000000) := by kernel_rfl
  have ht : xnum_Text.f 0 (-12000000) = some ⟨#[45, 49, 50]⟩ := by kernel_rfl
  have other : stenciltop_TopDigits.j0 1 b true a v = some true := by
    rw [stenciltop_TopDigits.j0, if_pos rfl, h12, obind, ht, obind, Lib.toList_data]
    rfl
  unfold stenciltop_TopDigits.f
  rw [Right_p, obind]
  by_cases h : RightP a v
  · rw [if_pos (decide_eq_true h)]
    by_cases ha : a = 0
    · subst ha
      have hv := right_v h
      have hl := text_len hv
      obtain ⟨p1, p2, p3⟩ := enc_pad v
      have e3 : ¬ (Enc.enc (([32, 10] ++ textL v ++ [9]).map fun c : UInt8 => (c.toNat : Int))).take 3 = [239, 187, 191] := by
        rw [p1]
        intro h
        have h2 := congrArg List.head? h
        simp at h2
      obtain ⟨l, q1, q2⟩ := BackT.back_text _ b p2 (by rw [p1]; simp; omega) (by rw [p1]; exact p3) e3
      rw [p1] at q1 q2
      have e0 : ((0 : Int) != 0) = false := rfl
      have eL : ((⟨#[32, 10]⟩ : ByteArray) ++ (⟨(textL v).toArray⟩ : ByteArray)) ++ (⟨#[9]⟩ : ByteArray) = ⟨([32, 10] ++ textL v ++ [9]).toArray⟩ := by
        apply bytes_eq
        simp
      rw [e0, stenciltop_TopDigits.j0, if_neg (by decide), text_f hv, obind, size_mk, if_pos (by omega), if_pos (by omega), eL, q1, obind]
      simp only
      rw [q2, obind]
      simp only
      rw [if_pos trivial, if_pos trivial, parse_pad hv, obind]
      simp only
      rw [if_pos (by simp), TrimT.trim_f _ (by rw [size_mk]; simp; omega), obind]
      show (xnum_Parse.f ⟨(TrimT.trimGo [] false ([32, 10] ++ textL v ++ [9])).toArray⟩).bind _ = _
      rw [trimGo_pad _ (text_ne v) (text_t v), parse_text hv, obind]
      simp
    · have e0 : (a != 0) = true := by simpa using ha
      rw [e0]
      exact other
  · rw [if_neg (by simpa using h)]
    exact other
end Go.Proofs.YthedigbdkjcpfaaGreatDoor.Pure
