-- Laid by xprint.py (ours), out of the seat's translation; Lean checks it.
import Derived.Test.YthedigbdkjcpfaaDoorPrint0
namespace Go.Proofs.YthedigbdkjcpfaaDoor.Print
open Go.RowKit Go.Proofs.YthedigbdkjcpfaaDoorW.PrintWords Go.Proofs.YthedigbdkjcpfaaDoorW.PrintLast Go.Proofs.YthedigbdkjcpfaaDoorW.PrintMore
attribute [local go_sem] max2_int min2_int max_two min_two max_three min_three max_four min_four   -- for this text's walks alone
open Go.Proofs.YthedigbdkjcpfaaDoor.Plain
set_option linter.unusedVariables false
set_option linter.unusedSimpArgs false

/-! ### xsort_Letters: function 13 -/
def xsort_Letters.l0 : Nat → Int → ByteArray → Option (ByteArray)
  | 0, _, _ => none
  | k + 1, x0, x3 => if x0 > 0 then (if (Utf8.encode (wrap32 (wrap64 (97 + (Int.tmod (wrap64 (x0 - 1)) 26))))).size + x3.size ≤ 9223372036854775807 then (xsort_Letters.l0 k (wrap64 (Int.tdiv (wrap64 (x0 - 1)) 26)) ((Utf8.encode (wrap32 (wrap64 (97 + (Int.tmod (wrap64 (x0 - 1)) 26))))) ++ x3)) else (none)) else (some x3)
def xsort_Letters.f (k : Nat) (a0 : Int) : Option (ByteArray) := xsort_Letters.l0 k a0 (⟨#[]⟩ : ByteArray)
theorem xsort_Letters.mono_l : ∀ k, (∀ y0 y1, LeO (xsort_Letters.l0 k y0 y1) (xsort_Letters.l0 (k + 1) y0 y1))
  | 0 => fun _ _ r h => by simp [xsort_Letters.l0] at h
  | k + 1 => by
    have ih0 := xsort_Letters.mono_l k
    · intro y0 y1
      unfold xsort_Letters.l0
      repeat' first
      | (with_reducible exact ih0 _ _)
      | (with_reducible exact LeO.refl _)
      | (with_reducible exact LeO.none _)
      | (with_reducible refine LeO.ite ?_ ?_)
      | (with_reducible refine LeO.bind ?_ (fun _ => ?_))
      | exact ih0 _ _
      | exact LeO.none _
      | refine LeO.ite ?_ ?_
      | refine LeO.bind ?_ (fun _ => ?_)
theorem xsort_Letters.mono : ∀ a0 k, LeO (xsort_Letters.f k a0) (xsort_Letters.f (k + 1) a0) := by
  intro a0 k
  have ih0 := xsort_Letters.mono_l k
  unfold xsort_Letters.f
  repeat' first
      | (with_reducible exact ih0 _ _)
      | (with_reducible exact LeO.refl _)
      | (with_reducible exact LeO.none _)
      | (with_reducible refine LeO.ite ?_ ?_)
      | (with_reducible refine LeO.bind ?_ (fun _ => ?_))
      | exact ih0 _ _
      | exact LeO.none _
      | refine LeO.ite ?_ ?_
      | refine LeO.bind ?_ (fun _ => ?_)
set_option maxHeartbeats 8000000 in
set_option maxRecDepth 100000 in
theorem xsort_Letters.calls (k : Nat) (a0 : Int) (r : ByteArray) (w : World) (HLD : Laid w) (h : xsort_Letters.f k a0 = some r) :
    Calls Tryd.prog 13 #[.int .i64 a0] w fun e w' => e = .returned (.string r) ∧ Drawn0 w w' := by
  have H : (xsort_Letters.l0 k a0 (⟨#[]⟩ : ByteArray)) = some r := h
  clear h
  have H' := Aside0.mk H
  clear H
  go_enter Tryd.func13, Tryd.ntmps13
  go_wp2
  go_loopg [0, 3] k (fun kq v0 v3 w' => ∃ (x0_1 : Int) (x3_1 : ByteArray), v0 = .int .i64 x0_1 ∧ v3 = .string x3_1 ∧ Aside0 (xsort_Letters.l0 kq x0_1 x3_1 = some r) ∧ Aside0 (kq ≤ k) ∧ Drawn0 w w')
  case atStart => exact ⟨(a0), ((⟨#[]⟩ : ByteArray)), (by first | rfl | (simp; done) | (simp [*]; done)), (by first | rfl | (simp; done) | (simp [*]; done)), H', ⟨Nat.le_refl _⟩, by repeat (first | exact Drawn0.refl _ | apply Drawn0.step)⟩
  case round =>
    clear H'
    try clear c1
    obtain ⟨x0_1, x3_1, rfl, rfl, HA, HK1, ⟨m1, rfl⟩⟩ := hrel
    cases gk with
    | zero => exact absurd HA.out (by simp [xsort_Letters.l0])
    | succ k1 =>
      have H := HA.out
      clear HA
      simp only [xsort_Letters.l0] at H
      by_cases c2 : x0_1 > 0
      · rw [if_pos c2] at H
        have c2b0 : decide (0 < x0_1) = true := decide_eq_true c2
        clear c2
        by_cases c3 : (Utf8.encode (wrap32 (wrap64 (97 + (Int.tmod (wrap64 (x0_1 - 1)) 26))))).size + x3_1.size ≤ 9223372036854775807
        · rw [if_pos c3] at H
          have c3b0 := eq_true c3
          have c3b1 : decide ((Utf8.encode (wrap32 (wrap64 (97 + (Int.tmod (wrap64 (x0_1 - 1)) 26))))).size + x3_1.size ≤ 9223372036854775807) = true := decide_eq_true c3
          try have c3b2 : (9223372036854775807 < (Utf8.encode (wrap32 (wrap64 (97 + (Int.tmod (wrap64 (x0_1 - 1)) 26))))).size + x3_1.size) = False := eq_false (Nat.not_lt.2 c3)
          have H' := Aside0.mk H
          clear H
          go_wp2
          go_roundg k1
          case measure => have := HK1.out; omega
          case rel => exact ⟨(wrap64 (Int.tdiv (wrap64 (x0_1 - 1)) 26)), ((Utf8.encode (wrap32 (wrap64 (97 + (Int.tmod (wrap64 (x0_1 - 1)) 26))))) ++ x3_1), (by first | rfl | (simp; done) | (simp [*]; done)), (by first | rfl | (simp; done) | (simp [*]; done)), H', ⟨by have := HK1.out; omega⟩, by repeat (first | exact Drawn0.refl _ | apply Drawn0.step)⟩
        · rw [if_neg c3] at H
          exact absurd H (by simp)
      · rw [if_neg c2] at H
        have c2b0 : decide (0 < x0_1) = false := decide_eq_false c2
        clear c2
        obtain rfl := Option.some.inj H
        go_wp2
        go_ret
        exact ⟨by first | rfl | (simp; done) | (simp [*]; done), by repeat (first | exact Drawn0.refl _ | apply Drawn0.step)⟩

end Go.Proofs.YthedigbdkjcpfaaDoor.Print
