-- Laid by xprint.py (ours), out of the seat's translation; Lean checks it.
import Derived.Test.YthedigbdkjcpfaaDoorPrint0
import Derived.Test.YthedigbdkjcpfaaDoorPrintf10
import Derived.Test.YthedigbdkjcpfaaDoorPrintf3
import Derived.Test.YthedigbdkjcpfaaDoorPrintf38
namespace Go.Proofs.YthedigbdkjcpfaaDoor.Print
open Go.RowKit Go.Proofs.YthedigbdkjcpfaaDoorW.PrintWords Go.Proofs.YthedigbdkjcpfaaDoorW.PrintLast Go.Proofs.YthedigbdkjcpfaaDoorW.PrintMore
attribute [local go_sem] max2_int min2_int max_two min_two max_three min_three max_four min_four   -- for this text's walks alone
open Go.Proofs.YthedigbdkjcpfaaDoor.Plain
set_option linter.unusedVariables false
set_option linter.unusedSimpArgs false

/-! ### stencilref13_Format: function 20 -/
mutual
def stencilref13_Format.j0 : Nat → Int → ByteArray → Bool → Option (ByteArray × Int)
  | 0, _, _, _ => none
  | k + 1, x0, x1, x6 => (stencilref13_plain.f k x1).bind fun t141 => (if t141 = true then (stencilref13_Format.j1 k x0 x1 x6 false) else (if x1.toList = ([97] : List UInt8) then (stencilref13_Format.j1 k x0 x1 x6 false) else (if x1.toList = ([65] : List UInt8) then (stencilref13_Format.j1 k x0 x1 x6 false) else (stencilref13_Format.j1 k x0 x1 x6 (!x6)))))
def stencilref13_Format.j1 : Nat → Int → ByteArray → Bool → Bool → Option (ByteArray × Int)
  | 0, _, _, _, _ => none
  | k + 1, x0, x1, x6, x28 => if x28 = true then (some ((⟨#[]⟩ : ByteArray), 18)) else (if x0 < 1 then (some ((⟨#[]⟩ : ByteArray), 2)) else (if x1.toList = ([97] : List UInt8) then ((stencilref13_Letters.f k x0).bind fun t142 => (some (t142, 0))) else (if x1.toList = ([65] : List UInt8) then ((stencilref13_Letters.f k x0).bind fun t143 => ((stencilref13_upper.f k t143).bind fun t144 => (some (t144, 0)))) else (if x1.toList = ([105] : List UInt8) then (stencilref13_Format.j2 k x0 x1 x6 (decide (x0 ≤ 3999))) else (stencilref13_Format.j2 k x0 x1 x6 false)))))
def stencilref13_Format.j3 : Nat → Int → ByteArray → Bool → Option (ByteArray × Int)
  | 0, _, _, _ => none
  | k + 1, x0, x1, x6 => (stencilref13_digits.f k x0).bind fun t148 => (stencilref13_Format.l0 k x1 x6 t148)
def stencilref13_Format.l0 : Nat → ByteArray → Bool → ByteArray → Option (ByteArray × Int)
  | 0, _, _, _ => none
  | k + 1, x1, x6, x7 => if x6 = true then (some (x7, 0)) else (if (x7.size : Int) < (x1.size : Int) then (if 1 + x7.size ≤ 9223372036854775807 then (stencilref13_Format.l0 k x1 x6 ((⟨#[48]⟩ : ByteArray) ++ x7)) else (none)) else (some (x7, 0)))
def stencilref13_Format.j2 : Nat → Int → ByteArray → Bool → Bool → Option (ByteArray × Int)
  | 0, _, _, _, _ => none
  | k + 1, x0, x1, x6, x42 => if x42 = true then ((stencilref13_Roman.f k x0).bind fun t145 => ((stencilref13_lower.f k t145).bind fun t146 => (some (t146, 0)))) else (if x1.toList = ([73] : List UInt8) then (if x0 ≤ 3999 then ((stencilref13_Roman.f k x0).bind fun t147 => (some (t147, 0))) else (stencilref13_Format.j3 k x0 x1 x6)) else (stencilref13_Format.j3 k x0 x1 x6))
end
def stencilref13_Format.f (k : Nat) (a0 : Int) (a1 : ByteArray) : Option (ByteArray × Int) := if a1.toList = ([105] : List UInt8) then (stencilref13_Format.j0 k a0 a1 true) else (stencilref13_Format.j0 k a0 a1 (a1.toList == ([73] : List UInt8)))
theorem stencilref13_Format.mono_l : ∀ k, (∀ y0 y1 y2, LeO (stencilref13_Format.j0 k y0 y1 y2) (stencilref13_Format.j0 (k + 1) y0 y1 y2)) ∧ (∀ y0 y1 y2 y3, LeO (stencilref13_Format.j1 k y0 y1 y2 y3) (stencilref13_Format.j1 (k + 1) y0 y1 y2 y3)) ∧ (∀ y0 y1 y2, LeO (stencilref13_Format.j3 k y0 y1 y2) (stencilref13_Format.j3 (k + 1) y0 y1 y2)) ∧ (∀ y0 y1 y2, LeO (stencilref13_Format.l0 k y0 y1 y2) (stencilref13_Format.l0 (k + 1) y0 y1 y2)) ∧ (∀ y0 y1 y2 y3, LeO (stencilref13_Format.j2 k y0 y1 y2 y3) (stencilref13_Format.j2 (k + 1) y0 y1 y2 y3))
  | 0 => ⟨fun _ _ _ r h => by simp [stencilref13_Format.j0] at h, fun _ _ _ _ r h => by simp [stencilref13_Format.j1] at h, fun _ _ _ r h => by simp [stencilref13_Format.j3] at h, fun _ _ _ r h => by simp [stencilref13_Format.l0] at h, fun _ _ _ _ r h => by simp [stencilref13_Format.j2] at h⟩
  | k + 1 => by
    obtain ⟨ih0, ih1, ih2, ih3, ih4⟩ := stencilref13_Format.mono_l k
    refine ⟨?_, ?_, ?_, ?_, ?_⟩
    · intro y0 y1 y2
      unfold stencilref13_Format.j0
      repeat' first
      | (with_reducible exact ih0 _ _ _)
      | (with_reducible exact ih1 _ _ _ _)
      | (with_reducible exact ih2 _ _ _)
      | (with_reducible exact ih3 _ _ _)
      | (with_reducible exact ih4 _ _ _ _)
      | (with_reducible exact stencilref13_Letters.mono _ _)
      | (with_reducible exact stencilref13_Roman.mono _ _)
      | (with_reducible exact stencilref13_digits.mono _ _)
      | (with_reducible exact stencilref13_lower.mono _ _)
      | (with_reducible exact stencilref13_plain.mono _ _)
      | (with_reducible exact stencilref13_upper.mono _ _)
      | (with_reducible exact LeO.refl _)
      | (with_reducible exact LeO.none _)
      | (with_reducible refine LeO.ite ?_ ?_)
      | (with_reducible refine LeO.bind ?_ (fun _ => ?_))
      | exact ih0 _ _ _
      | exact ih1 _ _ _ _
      | exact ih2 _ _ _
      | exact ih3 _ _ _
      | exact ih4 _ _ _ _
      | exact stencilref13_Letters.mono _ _
      | exact stencilref13_Roman.mono _ _
      | exact stencilref13_digits.mono _ _
      | exact stencilref13_lower.mono _ _
      | exact stencilref13_plain.mono _ _
      | exact stencilref13_upper.mono _ _
      | exact LeO.none _
      | refine LeO.ite ?_ ?_
      | refine LeO.bind ?_ (fun _ => ?_)
    · intro y0 y1 y2 y3
      unfold stencilref13_Format.j1
      repeat' first
      | (with_reducible exact ih0 _ _ _)
      | (with_reducible exact ih1 _ _ _ _)
      | (with_reducible exact ih2 _ _ _)
      | (with_reducible exact ih3 _ _ _)
      | (with_reducible exact ih4 _ _ _ _)
      | (with_reducible exact stencilref13_Letters.mono _ _)
      | (with_reducible exact stencilref13_Roman.mono _ _)
      | (with_reducible exact stencilref13_digits.mono _ _)
      | (with_reducible exact stencilref13_lower.mono _ _)
      | (with_reducible exact stencilref13_plain.mono _ _)
      | (with_reducible exact stencilref13_upper.mono _ _)
      | (with_reducible exact LeO.refl _)
      | (with_reducible exact LeO.none _)
      | (with_reducible refine LeO.ite ?_ ?_)
      | (with_reducible refine LeO.bind ?_ (fun _ => ?_))
      | exact ih0 _ _ _
      | exact ih1 _ _ _ _
      | exact ih2 _ _ _
      | exact ih3 _ _ _
      | exact ih4 _ _ _ _
      | exact stencilref13_Letters.mono _ _
      | exact stencilref13_Roman.mono _ _
      | exact stencilref13_digits.mono _ _
      | exact stencilref13_lower.mono _ _
      | exact stencilref13_plain.mono _ _
      | exact stencilref13_upper.mono _ _
      | exact LeO.none _
      | refine LeO.ite ?_ ?_
      | refine LeO.bind ?_ (fun _ => ?_)
    · intro y0 y1 y2
      unfold stencilref13_Format.j3
      repeat' first
      | (with_reducible exact ih0 _ _ _)
      | (with_reducible exact ih1 _ _ _ _)
      | (with_reducible exact ih2 _ _ _)
      | (with_reducible exact ih3 _ _ _)
      | (with_reducible exact ih4 _ _ _ _)
      | (with_reducible exact stencilref13_Letters.mono _ _)
      | (with_reducible exact stencilref13_Roman.mono _ _)
      | (with_reducible exact stencilref13_digits.mono _ _)
      | (with_reducible exact stencilref13_lower.mono _ _)
      | (with_reducible exact stencilref13_plain.mono _ _)
      | (with_reducible exact stencilref13_upper.mono _ _)
      | (with_reducible exact LeO.refl _)
      | (with_reducible exact LeO.none _)
      | (with_reducible refine LeO.ite ?_ ?_)
      | (with_reducible refine LeO.bind ?_ (fun _ => ?_))
      | exact ih0 _ _ _
      | exact ih1 _ _ _ _
      | exact ih2 _ _ _
      | exact ih3 _ _ _
      | exact ih4 _ _ _ _
      | exact stencilref13_Letters.mono _ _
      | exact stencilref13_Roman.mono _ _
      | exact stencilref13_digits.mono _ _
      | exact stencilref13_lower.mono _ _
      | exact stencilref13_plain.mono _ _
      | exact stencilref13_upper.mono _ _
      | exact LeO.none _
      | refine LeO.ite ?_ ?_
      | refine LeO.bind ?_ (fun _ => ?_)
    · intro y0 y1 y2
      unfold stencilref13_Format.l0
      repeat' first
      | (with_reducible exact ih0 _ _ _)
      | (with_reducible exact ih1 _ _ _ _)
      | (with_reducible exact ih2 _ _ _)
      | (with_reducible exact ih3 _ _ _)
      | (with_reducible exact ih4 _ _ _ _)
      | (with_reducible exact stencilref13_Letters.mono _ _)
      | (with_reducible exact stencilref13_Roman.mono _ _)
      | (with_reducible exact stencilref13_digits.mono _ _)
      | (with_reducible exact stencilref13_lower.mono _ _)
      | (with_reducible exact stencilref13_plain.mono _ _)
      | (with_reducible exact stencilref13_upper.mono _ _)
      | (with_reducible exact LeO.refl _)
      | (with_reducible exact LeO.none _)
      | (with_reducible refine LeO.ite ?_ ?_)
      | (with_reducible refine LeO.bind ?_ (fun _ => ?_))
      | exact ih0 _ _ _
      | exact ih1 _ _ _ _
      | exact ih2 _ _ _
      | exact ih3 _ _ _
      | exact ih4 _ _ _ _
      | exact stencilref13_Letters.mono _ _
      | exact stencilref13_Roman.mono _ _
      | exact stencilref13_digits.mono _ _
      | exact stencilref13_lower.mono _ _
      | exact stencilref13_plain.mono _ _
      | exact stencilref13_upper.mono _ _
      | exact LeO.none _
      | refine LeO.ite ?_ ?_
      | refine LeO.bind ?_ (fun _ => ?_)
    · intro y0 y1 y2 y3
      unfold stencilref13_Format.j2
      repeat' first
      | (with_reducible exact ih0 _ _ _)
      | (with_reducible exact ih1 _ _ _ _)
      | (with_reducible exact ih2 _ _ _)
      | (with_reducible exact ih3 _ _ _)
      | (with_reducible exact ih4 _ _ _ _)
      | (with_reducible exact stencilref13_Letters.mono _ _)
      | (with_reducible exact stencilref13_Roman.mono _ _)
      | (with_reducible exact stencilref13_digits.mono _ _)
      | (with_reducible exact stencilref13_lower.mono _ _)
      | (with_reducible exact stencilref13_plain.mono _ _)
      | (with_reducible exact stencilref13_upper.mono _ _)
      | (with_reducible exact LeO.refl _)
      | (with_reducible exact LeO.none _)
      | (with_reducible refine LeO.ite ?_ ?_)
      | (with_reducible refine LeO.bind ?_ (fun _ => ?_))
      | exact ih0 _ _ _
      | exact ih1 _ _ _ _
      | exact ih2 _ _ _
      | exact ih3 _ _ _
      | exact ih4 _ _ _ _
      | exact stencilref13_Letters.mono _ _
      | exact stencilref13_Roman.mono _ _
      | exact stencilref13_digits.mono _ _
      | exact stencilref13_lower.mono _ _
      | exact stencilref13_plain.mono _ _
      | exact stencilref13_upper.mono _ _
      | exact LeO.none _
      | refine LeO.ite ?_ ?_
      | refine LeO.bind ?_ (fun _ => ?_)
theorem stencilref13_Format.mono : ∀ a0 a1 k, LeO (stencilref13_Format.f k a0 a1) (stencilref13_Format.f (k + 1) a0 a1) := by
  intro a0 a1 k
  obtain ⟨ih0, ih1, ih2, ih3, ih4⟩ := stencilref13_Format.mono_l k
  unfold stencilref13_Format.f
  repeat' first
      | (with_reducible exact ih0 _ _ _)
      | (with_reducible exact ih1 _ _ _ _)
      | (with_reducible exact ih2 _ _ _)
      | (with_reducible exact ih3 _ _ _)
      | (with_reducible exact ih4 _ _ _ _)
      | (with_reducible exact stencilref13_Letters.mono _ _)
      | (with_reducible exact stencilref13_Roman.mono _ _)
      | (with_reducible exact stencilref13_digits.mono _ _)
      | (with_reducible exact stencilref13_lower.mono _ _)
      | (with_reducible exact stencilref13_plain.mono _ _)
      | (with_reducible exact stencilref13_upper.mono _ _)
      | (with_reducible exact LeO.refl _)
      | (with_reducible exact LeO.none _)
      | (with_reducible refine LeO.ite ?_ ?_)
      | (with_reducible refine LeO.bind ?_ (fun _ => ?_))
      | exact ih0 _ _ _
      | exact ih1 _ _ _ _
      | exact ih2 _ _ _
      | exact ih3 _ _ _
      | exact ih4 _ _ _ _
      | exact stencilref13_Letters.mono _ _
      | exact stencilref13_Roman.mono _ _
      | exact stencilref13_digits.mono _ _
      | exact stencilref13_lower.mono _ _
      | exact stencilref13_plain.mono _ _
      | exact stencilref13_upper.mono _ _
      | exact LeO.none _
      | refine LeO.ite ?_ ?_
      | refine LeO.bind ?_ (fun _ => ?_)
set_option maxHeartbeats 8000000 in
set_option maxRecDepth 100000 in
theorem stencilref13_Format.calls (k : Nat) (a0 : Int) (a1 : ByteArray) (r1 : ByteArray) (r2 : Int) (w : World) (HLD : Laid w) (h : stencilref13_Format.f k a0 a1 = some (r1, r2)) :
    Calls Tryd.prog 20 #[.int .i64 a0, .string a1] w fun e w' => e = .returned (.tuple #[.string r1, .int .i64 r2]) ∧ Below w.heap.size w w' := by
  have HB := Aside0.mk (Below.refl w.heap.size w)
  have H : (if a1.toList = ([105] : List UInt8) then (stencilref13_Format.j0 k a0 a1 true) else (stencilref13_Format.j0 k a0 a1 (a1.toList == ([73] : List UInt8)))) = some (r1, r2) := h
  clear h
  have HC3 := Aside0.mk H
  clear H
  go_enter Tryd.func20, Tryd.ntmps20
  go_upto_region 1 with (fail)
  go_cut [6] (fun v6 wc => ∃ (kq : Nat) (x6_2 : Bool), v6 = .bool x6_2 ∧ Aside0 (stencilref13_Format.j0 kq a0 a1 x6_2 = some (r1, r2)) ∧ Aside0 (kq ≤ k) ∧ Aside0 (Below w.heap.size w wc))
  case first =>
    have H := HC3.out
    clear HC3
    by_cases c4 : a1.toList = ([105] : List UInt8)
    · rw [if_pos c4] at H
      have c4b0 : (a1.toList == ([105] : List UInt8)) = true := beq_iff_eq.mpr c4
      have c4b1 : (a1.toList != ([105] : List UInt8)) = false := bne_eq_false_iff_eq.mpr c4
      clear c4
      (first | rw [c4b0] | (simp only [i64_w, i32_w]; rw [c4b0]) | skip)
      have H' := Aside0.mk H
      clear H
      go_wp2
      go_meet
      case rel => exact ⟨_, (true), (by first | rfl | (simp; done) | (simp [*]; done)), H', ⟨by first | omega | exact Nat.le_refl _⟩, ⟨by repeat (first | (with_reducible first | exact HB.out | apply below_alloc | apply pw_below_drewN | apply below_drew1) | exact HB.out)⟩⟩
    · rw [if_neg c4] at H
      have c4b0 : (a1.toList == ([105] : List UInt8)) = false := beq_eq_false_iff_ne.mpr c4
      have c4b1 : (a1.toList != ([105] : List UInt8)) = true := bne_iff_ne.mpr c4
      (first | rw [c4b0] | (simp only [i64_w, i32_w]; rw [c4b0]) | skip)
      have H' := Aside0.mk H
      clear H
      go_wp2
      go_meet
      case rel => exact ⟨_, ((a1.toList == ([73] : List UInt8))), (by first | rfl | (simp; done) | (simp [*]; done)), H', ⟨by first | omega | exact Nat.le_refl _⟩, ⟨by repeat (first | (with_reducible first | exact HB.out | apply below_alloc | apply pw_below_drewN | apply below_drew1) | exact HB.out)⟩⟩
  case rest =>
    clear HC3
    try clear c2
    try clear p2
    try clear c4
    try clear c4b0
    try clear c4b1
    obtain ⟨kq, x6_2, rfl, HA, HJ2, HB⟩ := hcut
    cases kq with
    | zero => exact absurd HA.out (by simp [stencilref13_Format.j0])
    | succ kj2 =>
      have H := HA.out
      clear HA
      simp only [stencilref13_Format.j0] at H
      have HC5 := Aside0.mk H
      clear H
      go_upto_region 2 with (fail)
      go_cut [28] (fun v28 wc => ∃ (kq : Nat) (x28_4 : Bool), v28 = .bool x28_4 ∧ Aside0 (stencilref13_Format.j1 kq a0 a1 x6_2 x28_4 = some (r1, r2)) ∧ Aside0 (kq ≤ kj2) ∧ Aside0 (Below w.heap.size w wc))
      case first =>
        have H := HC5.out
        clear HC5
        replace H := Option.bind_eq_some_iff.mp H
        obtain ⟨t141, A60, H⟩ := H
        replace H : (if t141 = true then (stencilref13_Format.j1 kj2 a0 a1 x6_2 false) else (if a1.toList = ([97] : List UInt8) then (stencilref13_Format.j1 kj2 a0 a1 x6_2 false) else (if a1.toList = ([65] : List UInt8) then (stencilref13_Format.j1 kj2 a0 a1 x6_2 false) else (stencilref13_Format.j1 kj2 a0 a1 x6_2 (!x6_2))))) = some (r1, r2) := H
        have A6 := Aside0.mk A60
        clear A60
        by_cases c7 : t141 = true
        · subst c7
          have H1 : (stencilref13_Format.j1 kj2 a0 a1 x6_2 false) = some (r1, r2) := by rw [if_pos rfl] at H; exact H
          clear H
          have H := H1
          clear H1
          have H' := Aside0.mk H
          clear H
          go_wp2_with (first | ((with_reducible refine gate_callee (f := 35) rfl ?_); refine goesL_ (some 15) rfl rfl Tryd.func35 (by kernel_rfl) rfl #[.string a1] rfl (by (try simp only [List.map_toArray, List.map_cons, List.map_nil]); first | done | rfl | (simp only [List.length_drop, List.length_take]; rfl)) ?_; (with_reducible refine (stencilref13_plain.calls kj2 a1 true _ ?side1 A6.out).mono ?_); (case side1 => first | exact HLD | exact Laid.below HLD (by repeat (first | (with_reducible first | exact HB.out | apply below_alloc | apply pw_below_drewN | apply below_drew1) | exact HB.out))); rintro e w' ⟨rfl, ⟨nd, rfl⟩⟩; refine ⟨_, rfl, ?_⟩))
          go_meet
          case rel => exact ⟨_, (false), (by first | rfl | (simp; done) | (simp [*]; done)), H', ⟨by have := HJ2.out; first | omega | exact Nat.le_refl _⟩, ⟨by repeat (first | (with_reducible first | exact HB.out | apply below_alloc | apply pw_below_drewN | apply below_drew1) | exact HB.out)⟩⟩
        · replace c7 := Bool.eq_false_iff.mpr c7
          subst c7
          have H1 : (if a1.toList = ([97] : List UInt8) then (stencilref13_Format.j1 kj2 a0 a1 x6_2 false) else (if a1.toList = ([65] : List UInt8) then (stencilref13_Format.j1 kj2 a0 a1 x6_2 false) else (stencilref13_Format.j1 kj2 a0 a1 x6_2 (!x6_2)))) = some (r1, r2) := by rw [if_neg (show ¬ (false = true) by decide)] at H; exact H
          clear H
          have H := H1
          clear H1
          by_cases c8 : a1.toList = ([97] : List UInt8)
          · rw [if_pos c8] at H
            have c8b0 : (a1.toList == ([97] : List UInt8)) = true := beq_iff_eq.mpr c8
            have c8b1 : (a1.toList != ([97] : List UInt8)) = false := bne_eq_false_iff_eq.mpr c8
            clear c8
            (first | rw [c8b0] | (simp only [i64_w, i32_w]; rw [c8b0]) | skip)
            have H' := Aside0.mk H
            clear H
            go_wp2_with (first | ((with_reducible refine gate_callee (f := 35) rfl ?_); refine goesL_ (some 15) rfl rfl Tryd.func35 (by kernel_rfl) rfl #[.string a1] rfl (by (try simp only [List.map_toArray, List.map_cons, List.map_nil]); first | done | rfl | (simp only [List.length_drop, List.length_take]; rfl)) ?_; (with_reducible refine (stencilref13_plain.calls kj2 a1 false _ ?side1 A6.out).mono ?_); (case side1 => first | exact HLD | exact Laid.below HLD (by repeat (first | (with_reducible first | exact HB.out | apply below_alloc | apply pw_below_drewN | apply below_drew1) | exact HB.out))); rintro e w' ⟨rfl, ⟨nd, rfl⟩⟩; refine ⟨_, rfl, ?_⟩))
            go_meet
            case rel => exact ⟨_, (false), (by first | rfl | (simp; done) | (simp [*]; done)), H', ⟨by have := HJ2.out; first | omega | exact Nat.le_refl _⟩, ⟨by repeat (first | (with_reducible first | exact HB.out | apply below_alloc | apply pw_below_drewN | apply below_drew1) | exact HB.out)⟩⟩
          · rw [if_neg c8] at H
            have c8b0 : (a1.toList == ([97] : List UInt8)) = false := beq_eq_false_iff_ne.mpr c8
            have c8b1 : (a1.toList != ([97] : List UInt8)) = true := bne_iff_ne.mpr c8
            (first | rw [c8b0] | (simp only [i64_w, i32_w]; rw [c8b0]) | skip)
            by_cases c9 : a1.toList = ([65] : List UInt8)
            · rw [if_pos c9] at H
              have c9b0 : (a1.toList == ([65] : List UInt8)) = true := beq_iff_eq.mpr c9
              have c9b1 : (a1.toList != ([65] : List UInt8)) = false := bne_eq_false_iff_eq.mpr c9
              clear c9
              have H' := Aside0.mk H
              clear H
              go_wp2_with (first | ((with_reducible refine gate_callee (f := 35) rfl ?_); refine goesL_ (some 15) rfl rfl Tryd.func35 (by kernel_rfl) rfl #[.string a1] rfl (by (try simp only [List.map_toArray, List.map_cons, List.map_nil]); first | done | rfl | (simp only [List.length_drop, List.length_take]; rfl)) ?_; (with_reducible refine (stencilref13_plain.calls kj2 a1 false _ ?side1 A6.out).mono ?_); (case side1 => first | exact HLD | exact Laid.below HLD (by repeat (first | (with_reducible first | exact HB.out | apply below_alloc | apply pw_below_drewN | apply below_drew1) | exact HB.out))); rintro e w' ⟨rfl, ⟨nd, rfl⟩⟩; refine ⟨_, rfl, ?_⟩))
              go_meet
              case rel => exact ⟨_, (false), (by first | rfl | (simp; done) | (simp [*]; done)), H', ⟨by have := HJ2.out; first | omega | exact Nat.le_refl _⟩, ⟨by repeat (first | (with_reducible first | exact HB.out | apply below_alloc | apply pw_below_drewN | apply below_drew1) | exact HB.out)⟩⟩
            · rw [if_neg c9] at H
              have c9b0 : (a1.toList == ([65] : List UInt8)) = false := beq_eq_false_iff_ne.mpr c9
              have c9b1 : (a1.toList != ([65] : List UInt8)) = true := bne_iff_ne.mpr c9
              have H' := Aside0.mk H
              clear H
              go_wp2_with (first | ((with_reducible refine gate_callee (f := 35) rfl ?_); refine goesL_ (some 15) rfl rfl Tryd.func35 (by kernel_rfl) rfl #[.string a1] rfl (by (try simp only [List.map_toArray, List.map_cons, List.map_nil]); first | done | rfl | (simp only [List.length_drop, List.length_take]; rfl)) ?_; (with_reducible refine (stencilref13_plain.calls kj2 a1 false _ ?side1 A6.out).mono ?_); (case side1 => first | exact HLD | exact Laid.below HLD (by repeat (first | (with_reducible first | exact HB.out | apply below_alloc | apply pw_below_drewN | apply below_drew1) | exact HB.out))); rintro e w' ⟨rfl, ⟨nd, rfl⟩⟩; refine ⟨_, rfl, ?_⟩))
              go_meet
              case rel => exact ⟨_, (!x6_2), (by first | rfl | (simp; done) | (simp [*]; done)), H', ⟨by have := HJ2.out; first | omega | exact Nat.le_refl _⟩, ⟨by repeat (first | (with_reducible first | exact HB.out | apply below_alloc | apply pw_below_drewN | apply below_drew1) | exact HB.out)⟩⟩
      case rest =>
        clear HC5
        try clear c2
        try clear p2
        try clear c3
        try clear c4
        try clear c4b0
        try clear c4b1
        try clear c7
        try clear c8
        try clear c8b0
        try clear c8b1
        try clear c9
        try clear c9b0
        try clear c9b1
        try clear p2
        obtain ⟨kq, x28_4, rfl, HA, HJ4, HB⟩ := hcut
        cases kq with
        | zero => exact absurd HA.out (by simp [stencilref13_Format.j1])
        | succ kj4 =>
          have H := HA.out
          clear HA
          simp only [stencilref13_Format.j1] at H
          by_cases c10 : x28_4 = true
          · subst c10
            have H1 : (some ((⟨#[]⟩ : ByteArray), 18)) = some (r1, r2) := by rw [if_pos rfl] at H; exact H
            clear H
            have H := H1
            clear H1
            simp only [Option.some.injEq, Prod.mk.injEq] at H
            obtain ⟨rfl, rfl⟩ := H
            go_wp2
            go_ret2
            exact ⟨by first | rfl | (simp [errW_none, errW_some] <;> rfl) | (simp [*, errW_none, errW_some] <;> rfl), by repeat (first | (with_reducible first | exact HB.out | apply below_alloc | apply pw_below_drewN | apply below_drew1) | exact HB.out)⟩
          · replace c10 := Bool.eq_false_iff.mpr c10
            subst c10
            have H1 : (if a0 < 1 then (some ((⟨#[]⟩ : ByteArray), 2)) else (if a1.toList = ([97] : List UInt8) then ((stencilref13_Letters.f kj4 a0).bind fun t142 => (some (t142, 0))) else (if a1.toList = ([65] : List UInt8) then ((stencilref13_Letters.f kj4 a0).bind fun t143 => ((stencilref13_upper.f kj4 t143).bind fun t144 => (some (t144, 0)))) else (if a1.toList = ([105] : List UInt8) then (stencilref13_Format.j2 kj4 a0 a1 x6_2 (decide (a0 ≤ 3999))) else (stencilref13_Format.j2 kj4 a0 a1 x6_2 false))))) = some (r1, r2) := by rw [if_neg (show ¬ (false = true) by decide)] at H; exact H
            clear H
            have H := H1
            clear H1
            by_cases c11 : a0 < 1
            · rw [if_pos c11] at H
              have c11b0 : decide (a0 < 1) = true := decide_eq_true c11
              clear c11
              simp only [Option.some.injEq, Prod.mk.injEq] at H
              obtain ⟨rfl, rfl⟩ := H
              go_wp2
              go_ret2
              exact ⟨by first | rfl | (simp [errW_none, errW_some] <;> rfl) | (simp [*, errW_none, errW_some] <;> rfl), by repeat (first | (with_reducible first | exact HB.out | apply below_alloc | apply pw_below_drewN | apply below_drew1) | exact HB.out)⟩
            · rw [if_neg c11] at H
              have c11b0 : decide (a0 < 1) = false := decide_eq_false c11
              clear c11
              have HC12 := Aside0.mk H
              clear H
              go_upto_block 0 with (fail)
              go_cut [] (fun wc => ∃ (kq : Nat), Aside0 (stencilref13_Format.j3 kq a0 a1 x6_2 = some (r1, r2)) ∧ Aside0 (kq ≤ kj4) ∧ Aside0 (Below w.heap.size w wc))
              case first =>
                have H := HC12.out
                clear HC12
                by_cases c13 : a1.toList = ([97] : List UInt8)
                · rw [if_pos c13] at H
                  have c13b0 : (a1.toList == ([97] : List UInt8)) = true := beq_iff_eq.mpr c13
                  have c13b1 : (a1.toList != ([97] : List UInt8)) = false := bne_eq_false_iff_eq.mpr c13
                  clear c13
                  (first | rw [c13b0] | (simp only [i64_w, i32_w]; rw [c13b0]) | skip)
                  replace H := Option.bind_eq_some_iff.mp H
                  obtain ⟨t142, A140, H⟩ := H
                  replace H : (some (t142, 0)) = some (r1, r2) := H
                  have A14 := Aside0.mk A140
                  clear A140
                  simp only [Option.some.injEq, Prod.mk.injEq] at H
                  obtain ⟨rfl, rfl⟩ := H
                  go_wp2_with (first | ((with_reducible refine gate_callee (f := 14) rfl ?_); refine goesL_ (some 35) rfl rfl Tryd.func14 (by kernel_rfl) rfl #[.int .i64 a0] rfl (by (try simp only [List.map_toArray, List.map_cons, List.map_nil]); first | done | rfl | (simp only [List.length_drop, List.length_take]; rfl)) ?_; (with_reducible refine (stencilref13_Letters.calls kj4 a0 t142 _ ?side1 A14.out).mono ?_); (case side1 => first | exact HLD | exact Laid.below HLD (by repeat (first | (with_reducible first | exact HB.out | apply below_alloc | apply pw_below_drewN | apply below_drew1) | exact HB.out))); rintro e w15 ⟨rfl, hb⟩; refine ⟨_, rfl, ?_⟩; have n0_ := Aside0.mk (below_step (by repeat (first | (with_reducible first | exact HB.out | apply below_alloc | apply pw_below_drewN | apply below_drew1) | exact HB.out)) hb); clear HB; have HB := n0_; clear n0_; (try clear hb); (try clear hb2); (try clear hk); (try clear hi)))
                  go_ret2
                  exact ⟨by first | rfl | (simp [errW_none, errW_some] <;> rfl) | (simp [*, errW_none, errW_some] <;> rfl), by repeat (first | (with_reducible first | exact HB.out | apply below_alloc | apply pw_below_drewN | apply below_drew1) | exact HB.out)⟩
                · rw [if_neg c13] at H
                  have c13b0 : (a1.toList == ([97] : List UInt8)) = false := beq_eq_false_iff_ne.mpr c13
                  have c13b1 : (a1.toList != ([97] : List UInt8)) = true := bne_iff_ne.mpr c13
                  (first | rw [c13b0] | (simp only [i64_w, i32_w]; rw [c13b0]) | skip)
                  by_cases c16 : a1.toList = ([65] : List UInt8)
                  · rw [if_pos c16] at H
                    have c16b0 : (a1.toList == ([65] : List UInt8)) = true := beq_iff_eq.mpr c16
                    have c16b1 : (a1.toList != ([65] : List UInt8)) = false := bne_eq_false_iff_eq.mpr c16
                    clear c16
                    replace H := Option.bind_eq_some_iff.mp H
                    obtain ⟨t143, A170, H⟩ := H
                    replace H : ((stencilref13_upper.f kj4 t143).bind fun t144 => (some (t144, 0))) = some (r1, r2) := H
                    have A17 := Aside0.mk A170
                    clear A170
                    replace H := Option.bind_eq_some_iff.mp H
                    obtain ⟨t144, A180, H⟩ := H
                    replace H : (some (t144, 0)) = some (r1, r2) := H
                    have A18 := Aside0.mk A180
                    clear A180
                    simp only [Option.some.injEq, Prod.mk.injEq] at H
                    obtain ⟨rfl, rfl⟩ := H
                    go_wp2_with (first | ((with_reducible refine gate_callee (f := 14) rfl ?_); refine goesL_ (some 40) rfl rfl Tryd.func14 (by kernel_rfl) rfl #[.int .i64 a0] rfl (by (try simp only [List.map_toArray, List.map_cons, List.map_nil]); first | done | rfl | (simp only [List.length_drop, List.length_take]; rfl)) ?_; (with_reducible refine (stencilref13_Letters.calls kj4 a0 t143 _ ?side1 A17.out).mono ?_); (case side1 => first | exact HLD | exact Laid.below HLD (by repeat (first | (with_reducible first | exact HB.out | apply below_alloc | apply pw_below_drewN | apply below_drew1) | exact HB.out))); rintro e w19 ⟨rfl, hb⟩; refine ⟨_, rfl, ?_⟩; have n0_ := Aside0.mk (below_step (by repeat (first | (with_reducible first | exact HB.out | apply below_alloc | apply pw_below_drewN | apply below_drew1) | exact HB.out)) hb); clear HB; have HB := n0_; clear n0_; (try clear hb); (try clear hb2); (try clear hk); (try clear hi)) | ((with_reducible refine gate_callee (f := 36) rfl ?_); refine goesL_ (some 41) rfl rfl Tryd.func36 (by kernel_rfl) rfl #[.string t143] rfl (by (try simp only [List.map_toArray, List.map_cons, List.map_nil]); first | done | rfl | (simp only [List.length_drop, List.length_take]; rfl)) ?_; (with_reducible refine (stencilref13_upper.calls kj4 t143 t144 _ ?side1 A18.out).mono ?_); (case side1 => first | exact HLD | exact Laid.below HLD (by repeat (first | (with_reducible first | exact HB.out | apply below_alloc | apply pw_below_drewN | apply below_drew1) | exact HB.out))); rintro e w20 ⟨rfl, hb⟩; refine ⟨_, rfl, ?_⟩; have n0_ := Aside0.mk (below_step (by repeat (first | (with_reducible first | exact HB.out | apply below_alloc | apply pw_below_drewN | apply below_drew1) | exact HB.out)) hb); clear HB; have HB := n0_; clear n0_; (try clear hb); (try clear hb2); (try clear hk); (try clear hi)))
                    go_ret2
                    exact ⟨by first | rfl | (simp [errW_none, errW_some] <;> rfl) | (simp [*, errW_none, errW_some] <;> rfl), by repeat (first | (with_reducible first | exact HB.out | apply below_alloc | apply pw_below_drewN | apply below_drew1) | exact HB.out)⟩
                  · rw [if_neg c16] at H
                    have c16b0 : (a1.toList == ([65] : List UInt8)) = false := beq_eq_false_iff_ne.mpr c16
                    have c16b1 : (a1.toList != ([65] : List UInt8)) = true := bne_iff_ne.mpr c16
                    have HC21 := Aside0.mk H
                    clear H
                    go_upto_region 10 with (fail)
                    go_cut [42] (fun v42 wc => ∃ (kq : Nat) (x42_20 : Bool), v42 = .bool x42_20 ∧ Aside0 (stencilref13_Format.j2 kq a0 a1 x6_2 x42_20 = some (r1, r2)) ∧ Aside0 (kq ≤ kj4) ∧ Aside0 (Below w.heap.size w wc))
                    case first =>
                      have H := HC21.out
                      clear HC21
                      by_cases c22 : a1.toList = ([105] : List UInt8)
                      · rw [if_pos c22] at H
                        have c22b0 : (a1.toList == ([105] : List UInt8)) = true := beq_iff_eq.mpr c22
                        have c22b1 : (a1.toList != ([105] : List UInt8)) = false := bne_eq_false_iff_eq.mpr c22
                        clear c22
                        (first | rw [c22b0] | (simp only [i64_w, i32_w]; rw [c22b0]) | skip)
                        have H' := Aside0.mk H
                        clear H
                        go_wp2
                        go_meet
                        case rel => exact ⟨_, (decide (a0 ≤ 3999)), (by first | rfl | (simp; done) | (simp [*]; done)), H', ⟨by have := HJ2.out; have := HJ4.out; first | omega | exact Nat.le_refl _⟩, ⟨by repeat (first | (with_reducible first | exact HB.out | apply below_alloc | apply pw_below_drewN | apply below_drew1) | exact HB.out)⟩⟩
                      · rw [if_neg c22] at H
                        have c22b0 : (a1.toList == ([105] : List UInt8)) = false := beq_eq_false_iff_ne.mpr c22
                        have c22b1 : (a1.toList != ([105] : List UInt8)) = true := bne_iff_ne.mpr c22
                        (first | rw [c22b0] | (simp only [i64_w, i32_w]; rw [c22b0]) | skip)
                        have H' := Aside0.mk H
                        clear H
                        go_wp2
                        go_meet
                        case rel => exact ⟨_, (false), (by first | rfl | (simp; done) | (simp [*]; done)), H', ⟨by have := HJ2.out; have := HJ4.out; first | omega | exact Nat.le_refl _⟩, ⟨by repeat (first | (with_reducible first | exact HB.out | apply below_alloc | apply pw_below_drewN | apply below_drew1) | exact HB.out)⟩⟩
                    case rest =>
                      clear HC21
                      try clear c1
                      try clear c2
                      try clear p2
                      try clear c3
                      try clear c4
                      try clear c4b0
                      try clear c4b1
                      try clear c7
                      try clear c8
                      try clear c8b0
                      try clear c8b1
                      try clear c9
                      try clear c9b0
                      try clear c9b1
                      try clear c10
                      try clear c11
                      try clear c11b0
                      try clear c13
                      try clear c13b0
                      try clear c13b1
                      try clear c14
                      try clear c16
                      try clear c16b0
                      try clear c16b1
                      try clear c20
                      try clear c22
                      try clear c22b0
                      try clear c22b1
                      try clear p2
                      obtain ⟨kq, x42_20, rfl, HA, HJ20, HB⟩ := hcut
                      cases kq with
                      | zero => exact absurd HA.out (by simp [stencilref13_Format.j2])
                      | succ kj20 =>
                        have H := HA.out
                        clear HA
                        simp only [stencilref13_Format.j2] at H
                        by_cases c23 : x42_20 = true
                        · subst c23
                          have H1 : ((stencilref13_Roman.f kj20 a0).bind fun t145 => ((stencilref13_lower.f kj20 t145).bind fun t146 => (some (t146, 0)))) = some (r1, r2) := by rw [if_pos rfl] at H; exact H
                          clear H
                          have H := H1
                          clear H1
                          replace H := Option.bind_eq_some_iff.mp H
                          obtain ⟨t145, A240, H⟩ := H
                          replace H : ((stencilref13_lower.f kj20 t145).bind fun t146 => (some (t146, 0))) = some (r1, r2) := H
                          have A24 := Aside0.mk A240
                          clear A240
                          replace H := Option.bind_eq_some_iff.mp H
                          obtain ⟨t146, A250, H⟩ := H
                          replace H : (some (t146, 0)) = some (r1, r2) := H
                          have A25 := Aside0.mk A250
                          clear A250
                          simp only [Option.some.injEq, Prod.mk.injEq] at H
                          obtain ⟨rfl, rfl⟩ := H
                          go_wp2_with (first | ((with_reducible refine gate_callee (f := 12) rfl ?_); refine goesL_ (some 50) rfl rfl Tryd.func12 (by kernel_rfl) rfl #[.int .i64 a0] rfl (by (try simp only [List.map_toArray, List.map_cons, List.map_nil]); first | done | rfl | (simp only [List.length_drop, List.length_take]; rfl)) ?_; (with_reducible refine (stencilref13_Roman.calls kj20 a0 t145 _ ?side1 A24.out).mono ?_); (case side1 => first | exact HLD | exact Laid.below HLD (by repeat (first | (with_reducible first | exact HB.out | apply below_alloc | apply pw_below_drewN | apply below_drew1) | exact HB.out))); rintro e w26 ⟨rfl, hb⟩; refine ⟨_, rfl, ?_⟩; have n0_ := Aside0.mk (below_step (by repeat (first | (with_reducible first | exact HB.out | apply below_alloc | apply pw_below_drewN | apply below_drew1) | exact HB.out)) hb); clear HB; have HB := n0_; clear n0_; (try clear hb); (try clear hb2); (try clear hk); (try clear hi)) | ((with_reducible refine gate_callee (f := 37) rfl ?_); refine goesL_ (some 51) rfl rfl Tryd.func37 (by kernel_rfl) rfl #[.string t145] rfl (by (try simp only [List.map_toArray, List.map_cons, List.map_nil]); first | done | rfl | (simp only [List.length_drop, List.length_take]; rfl)) ?_; (with_reducible refine (stencilref13_lower.calls kj20 t145 t146 _ ?side1 A25.out).mono ?_); (case side1 => first | exact HLD | exact Laid.below HLD (by repeat (first | (with_reducible first | exact HB.out | apply below_alloc | apply pw_below_drewN | apply below_drew1) | exact HB.out))); rintro e w27 ⟨rfl, hb⟩; refine ⟨_, rfl, ?_⟩; have n0_ := Aside0.mk (below_step (by repeat (first | (with_reducible first | exact HB.out | apply below_alloc | apply pw_below_drewN | apply below_drew1) | exact HB.out)) hb); clear HB; have HB := n0_; clear n0_; (try clear hb); (try clear hb2); (try clear hk); (try clear hi)))
                          go_ret2
                          exact ⟨by first | rfl | (simp [errW_none, errW_some] <;> rfl) | (simp [*, errW_none, errW_some] <;> rfl), by repeat (first | (with_reducible first | exact HB.out | apply below_alloc | apply pw_below_drewN | apply below_drew1) | exact HB.out)⟩
                        · replace c23 := Bool.eq_false_iff.mpr c23
                          subst c23
                          have H1 : (if a1.toList = ([73] : List UInt8) then (if a0 ≤ 3999 then ((stencilref13_Roman.f kj20 a0).bind fun t147 => (some (t147, 0))) else (stencilref13_Format.j3 kj20 a0 a1 x6_2)) else (stencilref13_Format.j3 kj20 a0 a1 x6_2)) = some (r1, r2) := by rw [if_neg (show ¬ (false = true) by decide)] at H; exact H
                          clear H
                          have H := H1
                          clear H1
                          by_cases c28 : a1.toList = ([73] : List UInt8)
                          · rw [if_pos c28] at H
                            have c28b0 : (a1.toList == ([73] : List UInt8)) = true := beq_iff_eq.mpr c28
                            have c28b1 : (a1.toList != ([73] : List UInt8)) = false := bne_eq_false_iff_eq.mpr c28
                            clear c28
                            by_cases c29 : a0 ≤ 3999
                            · rw [if_pos c29] at H
                              have c29b0 : decide (a0 ≤ 3999) = true := decide_eq_true c29
                              clear c29
                              replace H := Option.bind_eq_some_iff.mp H
                              obtain ⟨t147, A300, H⟩ := H
                              replace H : (some (t147, 0)) = some (r1, r2) := H
                              have A30 := Aside0.mk A300
                              clear A300
                              simp only [Option.some.injEq, Prod.mk.injEq] at H
                              obtain ⟨rfl, rfl⟩ := H
                              go_wp2_with (first | ((with_reducible refine gate_callee (f := 12) rfl ?_); refine goesL_ (some 60) rfl rfl Tryd.func12 (by kernel_rfl) rfl #[.int .i64 a0] rfl (by (try simp only [List.map_toArray, List.map_cons, List.map_nil]); first | done | rfl | (simp only [List.length_drop, List.length_take]; rfl)) ?_; (with_reducible refine (stencilref13_Roman.calls kj20 a0 t147 _ ?side1 A30.out).mono ?_); (case side1 => first | exact HLD | exact Laid.below HLD (by repeat (first | (with_reducible first | exact HB.out | apply below_alloc | apply pw_below_drewN | apply below_drew1) | exact HB.out))); rintro e w31 ⟨rfl, hb⟩; refine ⟨_, rfl, ?_⟩; have n0_ := Aside0.mk (below_step (by repeat (first | (with_reducible first | exact HB.out | apply below_alloc | apply pw_below_drewN | apply below_drew1) | exact HB.out)) hb); clear HB; have HB := n0_; clear n0_; (try clear hb); (try clear hb2); (try clear hk); (try clear hi)))
                              go_ret2
                              exact ⟨by first | rfl | (simp [errW_none, errW_some] <;> rfl) | (simp [*, errW_none, errW_some] <;> rfl), by repeat (first | (with_reducible first | exact HB.out | apply below_alloc | apply pw_below_drewN | apply below_drew1) | exact HB.out)⟩
                            · rw [if_neg c29] at H
                              have c29b0 : decide (a0 ≤ 3999) = false := decide_eq_false c29
                              clear c29
                              have H' := Aside0.mk H
                              clear H
                              go_wp2
                              go_meet
                              case rel => exact ⟨_, H', ⟨by have := HJ2.out; have := HJ4.out; have := HJ20.out; first | omega | exact Nat.le_refl _⟩, ⟨by repeat (first | (with_reducible first | exact HB.out | apply below_alloc | apply pw_below_drewN | apply below_drew1) | exact HB.out)⟩⟩
                          · rw [if_neg c28] at H
                            have c28b0 : (a1.toList == ([73] : List UInt8)) = false := beq_eq_false_iff_ne.mpr c28
                            have c28b1 : (a1.toList != ([73] : List UInt8)) = true := bne_iff_ne.mpr c28
                            have H' := Aside0.mk H
                            clear H
                            go_wp2
                            go_meet
                            case rel => exact ⟨_, H', ⟨by have := HJ2.out; have := HJ4.out; have := HJ20.out; first | omega | exact Nat.le_refl _⟩, ⟨by repeat (first | (with_reducible first | exact HB.out | apply below_alloc | apply pw_below_drewN | apply below_drew1) | exact HB.out)⟩⟩
              case rest =>
                clear HC12
                try clear c1
                try clear c2
                try clear p2
                try clear c3
                try clear c4
                try clear c4b0
                try clear c4b1
                try clear c7
                try clear c8
                try clear c8b0
                try clear c8b1
                try clear c9
                try clear c9b0
                try clear c9b1
                try clear c10
                try clear c11
                try clear c11b0
                try clear c12
                try clear c13
                try clear c13b0
                try clear c13b1
                try clear c14
                try clear c16
                try clear c16b0
                try clear c16b1
                try clear c20
                try clear c22
                try clear c22b0
                try clear c22b1
                try clear c23
                try clear c28
                try clear c28b0
                try clear c28b1
                try clear c29
                try clear c29b0
                try clear p2
                obtain ⟨kq, HA, HJ11, HB⟩ := hcut
                cases kq with
                | zero => exact absurd HA.out (by simp [stencilref13_Format.j3])
                | succ kj11 =>
                  have H := HA.out
                  clear HA
                  simp only [stencilref13_Format.j3] at H
                  replace H := Option.bind_eq_some_iff.mp H
                  obtain ⟨t148, A320, H⟩ := H
                  replace H : (stencilref13_Format.l0 kj11 a1 x6_2 t148) = some (r1, r2) := H
                  have A32 := Aside0.mk A320
                  clear A320
                  have H' := Aside0.mk H
                  clear H
                  go_wp2_with (first | ((with_reducible refine gate_callee (f := 38) rfl ?_); refine goesL_ (some 62) rfl rfl Tryd.func38 (by kernel_rfl) rfl #[.int .i64 a0] rfl (by (try simp only [List.map_toArray, List.map_cons, List.map_nil]); first | done | rfl | (simp only [List.length_drop, List.length_take]; rfl)) ?_; (with_reducible refine (stencilref13_digits.calls kj11 a0 t148 _ ?side1 A32.out).mono ?_); (case side1 => first | exact HLD | exact Laid.below HLD (by repeat (first | (with_reducible first | exact HB.out | apply below_alloc | apply pw_below_drewN | apply below_drew1) | exact HB.out))); rintro e w33 ⟨rfl, hb⟩; refine ⟨_, rfl, ?_⟩; have n0_ := Aside0.mk (below_step (by repeat (first | (with_reducible first | exact HB.out | apply below_alloc | apply pw_below_drewN | apply below_drew1) | exact HB.out)) hb); clear HB; have HB := n0_; clear n0_; (try clear hb); (try clear hb2); (try clear hk); (try clear hi)))
                  go_loopg [7] kj11 (fun kq v7 w' => ∃ (x7_4 : ByteArray), v7 = .string x7_4 ∧ Aside0 (stencilref13_Format.l0 kq a1 x6_2 x7_4 = some (r1, r2)) ∧ Aside0 (kq ≤ kj11) ∧ Aside0 (Below w.heap.size w w'))
                  case atStart => exact ⟨(t148), (by first | rfl | (simp; done) | (simp [*]; done)), H', ⟨Nat.le_refl _⟩, ⟨by repeat (first | (with_reducible first | exact HB.out | apply below_alloc | apply pw_below_drewN | apply below_drew1) | exact HB.out)⟩⟩
                  case round =>
                    clear H'
                    try clear c1
                    try clear c2
                    try clear p2
                    try clear c3
                    try clear c4
                    try clear c4b0
                    try clear c4b1
                    try clear c7
                    try clear c8
                    try clear c8b0
                    try clear c8b1
                    try clear c9
                    try clear c9b0
                    try clear c9b1
                    try clear c10
                    try clear c11
                    try clear c11b0
                    try clear c12
                    try clear c13
                    try clear c13b0
                    try clear c13b1
                    try clear c14
                    try clear c16
                    try clear c16b0
                    try clear c16b1
                    try clear c20
                    try clear c22
                    try clear c22b0
                    try clear c22b1
                    try clear c23
                    try clear c28
                    try clear c28b0
                    try clear c28b1
                    try clear c29
                    try clear c29b0
                    try clear p2
                    obtain ⟨x7_4, rfl, HA, HK4, HB⟩ := hrel
                    cases gk with
                    | zero => exact absurd HA.out (by simp [stencilref13_Format.l0])
                    | succ k4 =>
                      have H := HA.out
                      clear HA
                      simp only [stencilref13_Format.l0] at H
                      by_cases c34 : x6_2 = true
                      · subst c34
                        have H1 : (some (x7_4, 0)) = some (r1, r2) := by rw [if_pos rfl] at H; exact H
                        clear H
                        have H := H1
                        clear H1
                        simp only [Option.some.injEq, Prod.mk.injEq] at H
                        obtain ⟨rfl, rfl⟩ := H
                        go_wp2
                        go_ret2
                        exact ⟨by first | rfl | (simp [errW_none, errW_some] <;> rfl) | (simp [*, errW_none, errW_some] <;> rfl), by repeat (first | (with_reducible first | exact HB.out | apply below_alloc | apply pw_below_drewN | apply below_drew1) | exact HB.out)⟩
                      · replace c34 := Bool.eq_false_iff.mpr c34
                        subst c34
                        have H1 : (if (x7_4.size : Int) < (a1.size : Int) then (if 1 + x7_4.size ≤ 9223372036854775807 then (stencilref13_Format.l0 k4 a1 false ((⟨#[48]⟩ : ByteArray) ++ x7_4)) else (none)) else (some (x7_4, 0))) = some (r1, r2) := by rw [if_neg (show ¬ (false = true) by decide)] at H; exact H
                        clear H
                        have H := H1
                        clear H1
                        by_cases c35 : (x7_4.size : Int) < (a1.size : Int)
                        · rw [if_pos c35] at H
                          have c35b0 : decide ((x7_4.size : Int) < (a1.size : Int)) = true := decide_eq_true c35
                          have c35b1 : decide (x7_4.size < a1.size) = true := decide_eq_true (Int.ofNat_lt.mp c35)
                          clear c35
                          by_cases c36 : 1 + x7_4.size ≤ 9223372036854775807
                          · rw [if_pos c36] at H
                            have c36b0 := eq_true c36
                            have c36b1 : decide (1 + x7_4.size ≤ 9223372036854775807) = true := decide_eq_true c36
                            try have c36b2 : (9223372036854775807 < 1 + x7_4.size) = False := eq_false (Nat.not_lt.2 c36)
                            have H' := Aside0.mk H
                            clear H
                            go_wp2
                            go_roundg k4
                            case measure => have := HJ2.out; have := HJ4.out; have := HJ11.out; have := HK4.out; omega
                            case rel => exact ⟨((⟨#[48]⟩ : ByteArray) ++ x7_4), (by first | rfl | (simp; done) | (simp [*]; done)), H', ⟨by have := HJ2.out; have := HJ4.out; have := HJ11.out; have := HK4.out; omega⟩, ⟨by repeat (first | (with_reducible first | exact HB.out | apply below_alloc | apply pw_below_drewN | apply below_drew1) | exact HB.out)⟩⟩
                          · rw [if_neg c36] at H
                            exact absurd H (by simp)
                        · rw [if_neg c35] at H
                          have c35b0 : decide ((x7_4.size : Int) < (a1.size : Int)) = false := decide_eq_false c35
                          have c35b1 : decide (x7_4.size < a1.size) = false := decide_eq_false (fun h => c35 (Int.ofNat_lt.mpr h))
                          clear c35
                          simp only [Option.some.injEq, Prod.mk.injEq] at H
                          obtain ⟨rfl, rfl⟩ := H
                          go_wp2
                          go_ret2
                          exact ⟨by first | rfl | (simp [errW_none, errW_some] <;> rfl) | (simp [*, errW_none, errW_some] <;> rfl), by repeat (first | (with_reducible first | exact HB.out | apply below_alloc | apply pw_below_drewN | apply below_drew1) | exact HB.out)⟩

end Go.Proofs.YthedigbdkjcpfaaDoor.Print
