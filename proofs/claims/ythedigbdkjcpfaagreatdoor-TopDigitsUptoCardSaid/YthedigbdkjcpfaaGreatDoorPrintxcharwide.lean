-- Laid by xprint.py (ours), out of the seat's translation; Lean checks it.
import Derived.Test.YthedigbdkjcpfaaGreatDoorPrint0
import Derived.Test.YthedigbdkjcpfaaGreatDoorPrintf24
import Derived.Test.YthedigbdkjcpfaaGreatDoorPrintxcharkinds
import Derived.LoopTactic
import Derived.Lib.Hide
import Derived.Deep.RegionHeld3
import Derived.Deep.QuietTactic
import Derived.BigQuiet
import Derived.Laws.BitsLemmas
import Derived.Shelf.Strings.BuilderRune
import Derived.Shelf.Strings.BuilderK
import Derived.Test.YthedigbdkjcpfaaGreatDoorPlain
namespace Go.Proofs.YthedigbdkjcpfaaGreatDoor.Print
open Go.RowKit Go.Proofs.YthedigbdkjcpfaaGreatDoorW.PrintWords Go.Proofs.YthedigbdkjcpfaaGreatDoorW.PrintLast Go.Proofs.YthedigbdkjcpfaaGreatDoorW.PrintMore
attribute [local go_sem] max2_int min2_int max_two min_two max_three min_three max_four min_four   -- for this text's walks alone
open Go.Proofs.YthedigbdkjcpfaaGreatDoor.Plain
set_option linter.unusedVariables false
set_option linter.unusedSimpArgs false

-- GIVEN stencil/xchar.wide making
set_option maxRecDepth 100000 in
set_option maxHeartbeats 4000000 in
theorem wrapn (n : Nat) (h : n ≤ 1000000000) : wrap64 (n : Int) = (n : Int) := by unfold wrap64; omega
theorem or_256 (x y : Int) (x0 : 0 ≤ x) (x1 : x < 256) (y0 : 0 ≤ y) (y1 : y < 256) : bits .or .i32 (wrap32 (wrap32 x * 256)) (wrap32 y) = x * 256 + y := by
  have e1 : wrap32 x = x := by unfold wrap32; omega
  have e2 : wrap32 y = y := by unfold wrap32; omega
  have e3 : wrap32 (x * 256) = x * 256 := by unfold wrap32; omega
  rw [e1, e2, e3]
  exact bits_join .i32 31 (by decide) wraps_i32 8 (x * 256) y (by omega) (by omega) (by omega) y0 (by omega) (by omega)
set_option maxRecDepth 100000 in
set_option maxHeartbeats 4000000 in
theorem unit_past (w : World) (g2 g3 : Nat) (A : Option Addr) (cap : Nat) (l : List Int) (a : Nat) (hz : l.length ≤ 100000000) (ha : a ≤ 100000000)
    (h2 : w.cell? ⟨g2, 0, none⟩ = some (.slice A l.length cap)) (hlt : l.length ≤ a + 1) :
    Calls Tryz.prog 49 #[.int .i64 (a : Int), .pointer (some ⟨g2, 0, none⟩), .pointer (some ⟨g3, 0, none⟩)] w fun e w' => e = .returned (.tuple #[.int .i32 0, .bool false]) ∧ w' = w := by
  have b1 : decide ((a : Int) + 1 ≥ (l.length : Int)) = true := decide_eq_true (by omega)
  have b2 : decide ((l.length : Int) ≤ (a : Int) + 1) = true := decide_eq_true (by omega)
  go_enter Tryz.func49, Tryz.ntmps49
  go_wp2
  go_ret2
  exact ⟨rfl, rfl⟩
set_option maxRecDepth 100000 in
set_option maxHeartbeats 4000000 in
theorem unit_in (w : World) (g2 g3 : Nat) (ad : Addr) (cap : Nat) (l : List Int) (high : Int) (a i1 i2 : Nat) (x y : Int) (hz : l.length ≤ 100000000)
    (h2 : w.cell? ⟨g2, 0, none⟩ = some (.slice (some ad) l.length cap)) (h3 : w.cell? ⟨g3, 0, none⟩ = some (.int .i64 high)) (hlt : a + 1 < l.length)
    (e1 : (a : Int) + high = (i1 : Int)) (e2 : (a : Int) + 1 - high = (i2 : Int)) (k1 : i1 < l.length) (k2 : i2 < l.length)
    (x0 : 0 ≤ x) (x1 : x < 256) (y0 : 0 ≤ y) (y1 : y < 256) (hx : w.drew.cell? (ad.add i1) = some (.int .u8 x)) (hy : w.drew.cell? (ad.add i2) = some (.int .u8 y)) :
    Calls Tryz.prog 49 #[.int .i64 (a : Int), .pointer (some ⟨g2, 0, none⟩), .pointer (some ⟨g3, 0, none⟩)] w fun e w' => e = .returned (.tuple #[.int .i32 (x * 256 + y), .bool true]) ∧ w' = w.drew := by
  have b1 : decide ((a : Int) + 1 ≥ (l.length : Int)) = false := decide_eq_false (by omega)
  have b2 : decide ((l.length : Int) ≤ (a : Int) + 1) = false := decide_eq_false (by omega)
  have q1 : i1 ≤ 1000000000 := by omega
  have q2 : i2 ≤ 1000000000 := by omega
  have q3 : a + 1 ≤ 1000000000 := by omega
  have p1 : ((0 : Int) ≤ (i1 : Int)) = True := eq_true (by omega)
  have p2 : ((i1 : Int) < (l.length : Int)) = True := eq_true (by omega)
  have p3 : ((0 : Int) ≤ (i2 : Int)) = True := eq_true (by omega)
  have p4 : ((i2 : Int) < (l.length : Int)) = True := eq_true (by omega)
  have p5 : (i1 < l.length) = True := eq_true k1
  have p6 : (i2 < l.length) = True := eq_true k2
  have w1 : wrap64 ((a : Int) + high) = (i1 : Int) := by rw [e1]; exact wrapn i1 q1
  have w2 : wrap64 ((a : Int) + 1 - high) = (i2 : Int) := by rw [e2]; exact wrapn i2 q2
  have w3 : wrap64 ((a : Int) + 1) = (a : Int) + 1 := wrapn (a + 1) q3
  have w4 : wrap64 (i1 : Int) = (i1 : Int) := wrapn i1 q1
  have w5 : wrap64 (i2 : Int) = (i2 : Int) := wrapn i2 q2
  go_enter Tryz.func49, Tryz.ntmps49
  go_wp2
  refine start_ (n := 19) (S := fun w' => w'.cell? ⟨g2, 0, none⟩ = some (.slice (some ad) l.length cap) ∧ w'.cell? ⟨g3, 0, none⟩ = some (.int .i64 high) ∧ w'.cell? (ad.add (i1 : Nat)) = some (.int .u8 x) ∧ w'.cell? (ad.add (i2 : Nat)) = some (.int .u8 y)) (ds := []) #[false, false, false, false, false, false, false, false, false, false, false, false, false, false, false, false, false, false, false] (by kernel_rfl) rfl rfl ⟨h2, h3, hx, hy⟩ (fun hHeld => ?_)
  refine pure_ (i := 1) (N := some 12) (v := ?_) (a' := ?_) #[false, true, false, false, false, false, false, false, false, false, false, false, false, false, false, false, false, false, false] rfl rfl (by kernel_rfl) (fun _ _ _ h => h) (Or.inl ⟨by rfl, ?_⟩) ?_ ?_
  rotate_left
  · intro w'
    go_simp
    with_reducible rfl
  rotate_left
  · simp only [Act.put, List.setIfInBounds_toArray, List.set_cons_zero, List.set_cons_succ, i64_w, i32_w]
    rfl
  refine pure_ (i := 9) (N := some 20) (v := ?_) (a' := ?_) #[false, true, false, false, false, false, false, false, false, true, false, false, false, false, false, false, false, false, false] rfl rfl (by kernel_rfl) (fun _ _ _ h => h) (Or.inl ⟨by rfl, ?_⟩) ?_ ?_
  rotate_left
  · intro w'
    go_simp
    with_reducible rfl
  rotate_left
  · simp only [Act.put, List.setIfInBounds_toArray, List.set_cons_zero, List.set_cons_succ, i64_w, i32_w]
    rfl
  refine pure_ (i := 10) (N := some 21) (v := ?_) (a' := ?_) #[false, true, false, false, false, false, false, false, false, true, true, false, false, false, false, false, false, false, false] rfl rfl (by kernel_rfl) (fun _ _ _ h => h) (Or.inl ⟨by rfl, ?_⟩) ?_ ?_
  rotate_left
  · intro w'
    go_simp
    with_reducible rfl
  rotate_left
  · simp only [Act.put, List.setIfInBounds_toArray, List.set_cons_zero, List.set_cons_succ, i64_w, i32_w]
    rfl
  refine take_ (i := 0) (N := some 11) (v := ?_) (a' := ?_) #[true, true, false, false, false, false, false, false, false, true, true, false, false, false, false, false, false, false, false] rfl rfl (by kernel_rfl) (fun _ _ _ h => h) (Or.inl ⟨by rfl, ?_⟩) hHeld ?_ ?_
  rotate_left
  · rintro w' ⟨s0, s1, s2, s3⟩
    go_simp
    with_reducible rfl
  rotate_left
  · simp only [Act.put, List.setIfInBounds_toArray, List.set_cons_zero, List.set_cons_succ, i64_w, i32_w]
    rfl
  refine take_ (i := 2) (N := some 13) (v := ?_) (a' := ?_) #[true, true, true, false, false, false, false, false, false, true, true, false, false, false, false, false, false, false, false] rfl rfl (by kernel_rfl) (fun _ _ _ h => h) (Or.inl ⟨by rfl, ?_⟩) hHeld ?_ ?_
  rotate_left
  · rintro w' ⟨s0, s1, s2, s3⟩
    go_simp
    with_reducible rfl
  rotate_left
  · simp only [Act.put, List.setIfInBounds_toArray, List.set_cons_zero, List.set_cons_succ, i64_w, i32_w]
    rfl
  refine pure_ (i := 3) (N := some 14) (v := ?_) (a' := ?_) #[true, true, true, true, false, false, false, false, false, true, true, false, false, false, false, false, false, false, false] rfl rfl (by kernel_rfl) (fun _ _ _ h => h) (Or.inl ⟨by rfl, ?_⟩) ?_ ?_
  rotate_left
  · intro w'
    go_simp
    with_reducible rfl
  rotate_left
  · simp only [Act.put, List.setIfInBounds_toArray, List.set_cons_zero, List.set_cons_succ, i64_w, i32_w]
    rfl
  refine pure_ (i := 4) (N := some 15) (v := ?_) (a' := ?_) #[true, true, true, true, true, false, false, false, false, true, true, false, false, false, false, false, false, false, false] rfl rfl (by kernel_rfl) (fun _ _ _ h => h) (Or.inl ⟨by rfl, ?_⟩) ?_ ?_
  rotate_left
  · intro w'
    go_simp
    with_reducible rfl
  rotate_left
  · simp only [Act.put, List.setIfInBounds_toArray, List.set_cons_zero, List.set_cons_succ, i64_w, i32_w]
    rfl
  refine take_ (i := 5) (N := some 16) (v := ?_) (a' := ?_) #[true, true, true, true, true, true, false, false, false, true, true, false, false, false, false, false, false, false, false] rfl rfl (by kernel_rfl) (fun _ _ _ h => h) (Or.inl ⟨by rfl, ?_⟩) hHeld ?_ ?_
  rotate_left
  · rintro w' ⟨s0, s1, s2, s3⟩
    go_simp
    with_reducible rfl
  rotate_left
  · simp only [Act.put, List.setIfInBounds_toArray, List.set_cons_zero, List.set_cons_succ, i64_w, i32_w]
    rfl
  refine pure_ (i := 6) (N := some 17) (v := ?_) (a' := ?_) #[true, true, true, true, true, true, true, false, false, true, true, false, false, false, false, false, false, false, false] rfl rfl (by kernel_rfl) (fun _ _ _ h => h) (Or.inl ⟨by rfl, ?_⟩) ?_ ?_
  rotate_left
  · intro w'
    go_simp
    with_reducible rfl
  rotate_left
  · simp only [Act.put, List.setIfInBounds_toArray, List.set_cons_zero, List.set_cons_succ, i64_w, i32_w]
    rfl
  refine pure_ (i := 7) (N := some 18) (v := ?_) (a' := ?_) #[true, true, true, true, true, true, true, true, false, true, true, false, false, false, false, false, false, false, false] rfl rfl (by kernel_rfl) (fun _ _ _ h => h) (Or.inl ⟨by rfl, ?_⟩) ?_ ?_
  rotate_left
  · intro w'
    go_simp
    with_reducible rfl
  rotate_left
  · simp only [Act.put, List.setIfInBounds_toArray, List.set_cons_zero, List.set_cons_succ, i64_w, i32_w]
    rfl
  refine take_ (i := 8) (N := some 19) (v := ?_) (a' := ?_) #[true, true, true, true, true, true, true, true, true, true, true, false, false, false, false, false, false, false, false] rfl rfl (by kernel_rfl) (fun _ _ _ h => h) (Or.inl ⟨by rfl, ?_⟩) hHeld ?_ ?_
  rotate_left
  · rintro w' ⟨s0, s1, s2, s3⟩
    go_simp
    with_reducible rfl
  rotate_left
  · simp only [Act.put, List.setIfInBounds_toArray, List.set_cons_zero, List.set_cons_succ, i64_w, i32_w]
    rfl
  refine take_ (i := 11) (N := some 22) (v := ?_) (a' := ?_) #[true, true, true, true, true, true, true, true, true, true, true, true, false, false, false, false, false, false, false] rfl rfl (by kernel_rfl) (fun _ _ _ h => h) (Or.inl ⟨by rfl, ?_⟩) hHeld ?_ ?_
  rotate_left
  · rintro w' ⟨s0, s1, s2, s3⟩
    go_simp
    with_reducible rfl
  rotate_left
  · simp only [Act.put, List.setIfInBounds_toArray, List.set_cons_zero, List.set_cons_succ, i64_w, i32_w]
    rfl
  refine pure_ (i := 12) (N := some 23) (v := ?_) (a' := ?_) #[true, true, true, true, true, true, true, true, true, true, true, true, true, false, false, false, false, false, false] rfl rfl (by kernel_rfl) (fun _ _ _ h => h) (Or.inl ⟨by rfl, ?_⟩) ?_ ?_
  rotate_left
  · intro w'
    go_simp
    with_reducible rfl
  rotate_left
  · simp only [Act.put, List.setIfInBounds_toArray, List.set_cons_zero, List.set_cons_succ, i64_w, i32_w]
    rfl
  refine pure_ (i := 13) (N := some 24) (v := ?_) (a' := ?_) #[true, true, true, true, true, true, true, true, true, true, true, true, true, true, false, false, false, false, false] rfl rfl (by kernel_rfl) (fun _ _ _ h => h) (Or.inl ⟨by rfl, ?_⟩) ?_ ?_
  rotate_left
  · intro w'
    go_simp
    with_reducible rfl
  rotate_left
  · simp only [Act.put, List.setIfInBounds_toArray, List.set_cons_zero, List.set_cons_succ, i64_w, i32_w]
    rfl
  refine take_ (i := 14) (N := some 25) (v := ?_) (a' := ?_) #[true, true, true, true, true, true, true, true, true, true, true, true, true, true, true, false, false, false, false] rfl rfl (by kernel_rfl) (fun _ _ _ h => h) (Or.inl ⟨by rfl, ?_⟩) hHeld ?_ ?_
  rotate_left
  · rintro w' ⟨s0, s1, s2, s3⟩
    go_simp
    with_reducible rfl
  rotate_left
  · simp only [Act.put, List.setIfInBounds_toArray, List.set_cons_zero, List.set_cons_succ, i64_w, i32_w]
    rfl
  refine pure_ (i := 15) (N := some 26) (v := ?_) (a' := ?_) #[true, true, true, true, true, true, true, true, true, true, true, true, true, true, true, true, false, false, false] rfl rfl (by kernel_rfl) (fun _ _ _ h => h) (Or.inl ⟨by rfl, ?_⟩) ?_ ?_
  rotate_left
  · intro w'
    go_simp
    with_reducible rfl
  rotate_left
  · simp only [Act.put, List.setIfInBounds_toArray, List.set_cons_zero, List.set_cons_succ, i64_w, i32_w]
    rfl
  refine pure_ (i := 16) (N := some 27) (v := ?_) (a' := ?_) #[true, true, true, true, true, true, true, true, true, true, true, true, true, true, true, true, true, false, false] rfl rfl (by kernel_rfl) (fun _ _ _ h => h) (Or.inl ⟨by rfl, ?_⟩) ?_ ?_
  rotate_left
  · intro w'
    go_simp
    with_reducible rfl
  rotate_left
  · simp only [Act.put, List.setIfInBounds_toArray, List.set_cons_zero, List.set_cons_succ, i64_w, i32_w]
    rfl
  refine pure_ (i := 17) (N := some 4) (v := ?_) (a' := ?_) #[true, true, true, true, true, true, true, true, true, true, true, true, true, true, true, true, true, true, false] rfl rfl (by kernel_rfl) (fun _ _ _ h => h) (Or.inl ⟨by rfl, ?_⟩) ?_ ?_
  rotate_left
  · intro w'
    go_simp
    with_reducible rfl
  rotate_left
  · simp only [Act.put, List.setIfInBounds_toArray, List.set_cons_zero, List.set_cons_succ, i64_w, i32_w]
    rfl
  refine pure_ (i := 18) (N := some 5) (v := ?_) (a' := ?_) #[true, true, true, true, true, true, true, true, true, true, true, true, true, true, true, true, true, true, true] rfl rfl (by kernel_rfl) (fun _ _ _ h => h) (Or.inl ⟨by rfl, ?_⟩) ?_ ?_
  rotate_left
  · intro w'
    go_simp
    with_reducible rfl
  rotate_left
  · simp only [Act.put, List.setIfInBounds_toArray, List.set_cons_zero, List.set_cons_succ, i64_w, i32_w]
    rfl
  refine done_ (by kernel_rfl) ?_

  go_wp2
  go_ret2
  refine ⟨?_, rfl⟩
  rw [← or_256 x y x0 x1 y0 y1]
  rfl
def layxW_ren : Go.Shelf.Ren := ⟨fun | 168 => 51 | 169 => 52 | 240 => 87 | 242 => 88 | 276 => 117 | 278 => 118 | n => n, fun | 0 => 0 | 3 => 3 | 4 => 4 | 5 => 5 | 9 => 9 | 20 => 20 | 21 => 21 | 37 => 28 | 46 => 47 | 51 => 142 | 70 => 87 | 72 => 89 | 75 => 59 | 80 => 94 | 164 => 149 | 127 => 125 | n => n, fun | n => n⟩
theorem layxW168 : Go.Proofs.Lays.n168 Tryz.prog layxW_ren := {
  mixed := by kernel_rfl
  f168 := Tryz.func51.trans (congrArg some (by kernel_rfl))
  f240 := Tryz.func87.trans (congrArg some (by kernel_rfl))
  f242 := Tryz.func88.trans (congrArg some (by kernel_rfl))
  f276 := Tryz.func117.trans (congrArg some (by kernel_rfl))
  f278 := Tryz.func118.trans (congrArg some (by kernel_rfl))
  t0 := Tryz.underlying0
  a0 := Tryz.isAgg0
  z0 := Tryz.sizeOf0
  v0 := Tryz.zeroValue0
  t3 := Tryz.underlying3
  a3 := Tryz.isAgg3
  z3 := Tryz.sizeOf3
  v3 := Tryz.zeroValue3
  t4 := Tryz.underlying4
  a4 := Tryz.isAgg4
  z4 := Tryz.sizeOf4
  v4 := Tryz.zeroValue4
  t5 := Tryz.underlying5
  a5 := Tryz.isAgg5
  z5 := Tryz.sizeOf5
  v5 := Tryz.zeroValue5
  t9 := Tryz.underlying9
  a9 := Tryz.isAgg9
  z9 := Tryz.sizeOf9
  v9 := Tryz.zeroValue9
  t20 := Tryz.underlying20
  a20 := Tryz.isAgg20
  z20 := Tryz.sizeOf20
  v20 := Tryz.zeroValue20
  t21 := Tryz.underlying21
  a21 := Tryz.isAgg21
  z21 := Tryz.sizeOf21
  v21 := Tryz.zeroValue21
  t37 := Tryz.underlying28
  a37 := Tryz.isAgg28
  z37 := Tryz.sizeOf28
  v37 := Tryz.zeroValue28
  t46 := Tryz.underlying47
  a46 := Tryz.isAgg47
  z46 := Tryz.sizeOf47
  v46 := Tryz.zeroValue47
  t51 := Tryz.underlying142
  a51 := Tryz.isAgg142
  z51 := Tryz.sizeOf142
  v51 := Tryz.zeroValue142
  t70 := Tryz.underlying87
  a70 := Tryz.isAgg87
  z70 := Tryz.sizeOf87
  v70 := Tryz.zeroValue87
  t72 := Tryz.underlying89
  a72 := Tryz.isAgg89
  z72 := Tryz.sizeOf89
  v72 := Tryz.zeroValue89
  t75 := Tryz.underlying59
  a75 := Tryz.isAgg59
  z75 := Tryz.sizeOf59
  v75 := Tryz.zeroValue59
  t164 := Tryz.underlying149
  a164 := Tryz.isAgg149
  z164 := Tryz.sizeOf149
  v164 := Tryz.zeroValue149
}
theorem layxW169 : Go.Proofs.Lays.n169 Tryz.prog layxW_ren := {
  mixed := by kernel_rfl
  f169 := Tryz.func52.trans (congrArg some (by kernel_rfl))
  t0 := Tryz.underlying0
  a0 := Tryz.isAgg0
  z0 := Tryz.sizeOf0
  v0 := Tryz.zeroValue0
  t3 := Tryz.underlying3
  a3 := Tryz.isAgg3
  z3 := Tryz.sizeOf3
  v3 := Tryz.zeroValue3
  t9 := Tryz.underlying9
  a9 := Tryz.isAgg9
  z9 := Tryz.sizeOf9
  v9 := Tryz.zeroValue9
  t37 := Tryz.underlying28
  a37 := Tryz.isAgg28
  z37 := Tryz.sizeOf28
  v37 := Tryz.zeroValue28
  t70 := Tryz.underlying87
  a70 := Tryz.isAgg87
  z70 := Tryz.sizeOf87
  v70 := Tryz.zeroValue87
  t72 := Tryz.underlying89
  a72 := Tryz.isAgg89
  z72 := Tryz.sizeOf89
  v72 := Tryz.zeroValue89
  t127 := Tryz.underlying125
  a127 := Tryz.isAgg125
  z127 := Tryz.sizeOf125
  v127 := Tryz.zeroValue125
}
open Go.Shelf in
theorem bldExtraW : Builder.Extra Tryz.prog layxW_ren := {
  sizeBuilder := by kernel_rfl
  liesBuilder := by kernel_rfl
  t5 := Tryz.underlying5
  a5 := Tryz.isAgg5
  z5 := Tryz.sizeOf5
  v5 := Tryz.zeroValue5
  infoByte := by kernel_rfl
  cellsByte := by kernel_rfl
  sizeByte := by kernel_rfl
  neB5 := by decide }

theorem write_rune (B b : Nat) (bs : List Value) (r : Int) (hr0 : -2147483648 ≤ r) (hr1 : r ≤ 2147483647) (w : World) (h : Lib.IsBuilderF 89 5 B b bs w) (hlen : bs.length + 4 ≤ 140737488355328) (hBw : B ≤ w.heap.size) :
    Calls Tryz.prog 51 #[.pointer (some ⟨b, 0, none⟩), .int .i32 r] w fun e w' => e = .returned (.tuple #[.int .i64 (Lib.runeCells r).length, .nilIface]) ∧ (Lib.BuilderAtF 89 5 B b (.pointer (some ⟨b, 0, none⟩)) (bs ++ Lib.runeCells r) w' ∧ RowKit.Below B w w' ∧ Lib.OthersKept 5 (some b) w w') :=
  Any.Builder_WriteRune_k layxW168 bldExtraW B b bs r hr0 hr1 w h hlen hBw
theorem to_string (B b : Nat) (l : List UInt8) (w : World) (h : Lib.IsBuilderF 89 5 B b (Lib.byteCells l) w) (hBw : B ≤ w.heap.size) :
    Calls Tryz.prog 52 #[.pointer (some ⟨b, 0, none⟩)] w fun e w' => e = .returned (.string ⟨l.toArray⟩) ∧ (Lib.IsBuilderF 89 5 B b (Lib.byteCells l) w' ∧ RowKit.Below B w w' ∧ Lib.OthersKept 5 (some b) w w') :=
  Any.Builder_String_any_k layxW169 bldExtraW B b l w h hBw
/-- the unit of two bytes at a place -/
def unitV (l : List Int) (h a : Nat) : Option Int := if a + 1 < l.length then some (l.getD (a + h) 0 * 256 + l.getD (a + 1 - h) 0) else none
def encR (rs : List Int) : List UInt8 := rs.flatMap Lib.encodeRune
def wideGo (l : List Int) (h : Nat) : Nat → Nat → List Int → Except (Int × Nat) (List Int)
  | 0, _, acc => .ok acc
  | f + 1, a, acc => if l.length ≤ a then .ok acc else
    match unitV l h a with
    | none => .error (3, a)
    | some r =>
      if r / 2048 = 27 then
        if r / 1024 = 54 ∧ (unitV l h (a + 2)).getD 0 / 1024 = 55 then
          if inSpans isCharL (65536 + r % 1024 * 1024 + (unitV l h (a + 2)).getD 0 % 1024) = true then wideGo l h f (a + 4) (acc ++ [65536 + r % 1024 * 1024 + (unitV l h (a + 2)).getD 0 % 1024]) else .error (4, a)
        else .error (3, a)
      else if inSpans isCharL r = true then wideGo l h f (a + 2) (acc ++ [r]) else .error (4, a)
/-- what is held while wide runs -/
structure Wd (w0 W : World) (g2 g3 g7 : Nat) (A : Option Addr) (cap : Nat) (l : List Int) (h : Nat) (acc : List Int) : Prop where
  c2 : W.heap[g2]? = some (.cells #[.slice A l.length cap] 28 (0, 0))
  c3 : W.heap[g3]? = some (.cells #[.int .i64 (h : Int)] 3 (0, 0))
  bld : Lib.IsBuilderF 89 5 w0.heap.size g7 (Lib.byteCells (encR acc)) W
  row : Kd.C (Kd.int .u8) w0 A l.length l
  bel : Below w0.heap.size w0 W
  n2 : g2 ≠ g7
  n3 : g3 ≠ g7
  laid : Laid w0
theorem Wd.drewN {w0 W : World} {g2 g3 g7 : Nat} {A : Option Addr} {cap : Nat} {l : List Int} {h : Nat} {acc : List Int} (H : Wd w0 W g2 g3 g7 A cap l h acc) (q : Nat) : Wd w0 (W.drewN q) g2 g3 g7 A cap l h acc :=
  ⟨H.c2, H.c3, H.bld, H.row, pw_below_drewN H.bel q, H.n2, H.n3, H.laid⟩
theorem Wd.drew {w0 W : World} {g2 g3 g7 : Nat} {A : Option Addr} {cap : Nat} {l : List Int} {h : Nat} {acc : List Int} (H : Wd w0 W g2 g3 g7 A cap l h acc) : Wd w0 W.drew g2 g3 g7 A cap l h acc :=
  ⟨H.c2, H.c3, H.bld, H.row, below_drew1 H.bel, H.n2, H.n3, H.laid⟩
theorem ownsF_below {W W1 : World} {B e n : Nat} {v : Value} {xs : List Value} (h : W.ownsRowF B e 1 v n xs) (hb : Below W.heap.size W W1) : W1.ownsRowF B e 1 v n xs := by
  refine ⟨h.1, ?_⟩
  rcases h.2 with hn | ⟨g, cap, cur, fz, hv, hB, hg, rest⟩
  · exact .inl hn
  · exact .inr ⟨g, cap, cur, fz, hv, hB, (hb.block g (blk_lt hg)).trans hg, rest⟩
theorem bldAt_below {W W1 : World} {T e B b : Nat} {p : Value} {bs : List Value} (h : Lib.BuilderAtF T e B b p bs W) (hb : Below W.heap.size W W1) : Lib.BuilderAtF T e B b p bs W1 := by
  obtain ⟨hB, v, hbk, hown, hne⟩ := h
  exact ⟨hB, v, (hb.block b (blk_lt hbk)).trans hbk, ownsF_below hown hb, hne⟩
theorem Wd.below {w0 W W1 : World} {g2 g3 g7 : Nat} {A : Option Addr} {cap : Nat} {l : List Int} {h : Nat} {acc : List Int} (H : Wd w0 W g2 g3 g7 A cap l h acc) (hb : Below W.heap.size W W1) : Wd w0 W1 g2 g3 g7 A cap l h acc :=
  ⟨(hb.block g2 (blk_lt H.c2)).trans H.c2, (hb.block g3 (blk_lt H.c3)).trans H.c3, H.bld.elim (fun x => .inl (bldAt_below x hb)) (fun x => .inr (bldAt_below x hb)), H.row, below_from H.bel H.bel.size hb, H.n2, H.n3, H.laid⟩
theorem Wd.wrote {w0 W W1 : World} {g2 g3 g7 : Nat} {A : Option Addr} {cap : Nat} {l : List Int} {h : Nat} {acc acc2 : List Int} (H : Wd w0 W g2 g3 g7 A cap l h acc) (hb : Lib.IsBuilderF 89 5 w0.heap.size g7 (Lib.byteCells (encR acc2)) W1) (hB : Below w0.heap.size W W1) (hk : Lib.OthersKept 5 (some g7) W W1) : Wd w0 W1 g2 g3 g7 A cap l h acc2 :=
  ⟨hk g2 _ H.c2 (fun e => H.n2 (Option.some.inj e)) (fun c fz e => by cases e), hk g3 _ H.c3 (fun e => H.n3 (Option.some.inj e)) (fun c fz e => by cases e), hb, H.row, H.bel.trans hB, H.n2, H.n3, H.laid⟩
theorem Wd.laid' {w0 W : World} {g2 g3 g7 : Nat} {A : Option Addr} {cap : Nat} {l : List Int} {h : Nat} {acc : List Int} (H : Wd w0 W g2 g3 g7 A cap l h acc) : Laid W := H.laid.below H.bel
theorem Wd.cell2 {w0 W : World} {g2 g3 g7 : Nat} {A : Option Addr} {cap : Nat} {l : List Int} {h : Nat} {acc : List Int} (H : Wd w0 W g2 g3 g7 A cap l h acc) : W.cell? ⟨g2, 0, none⟩ = some (.slice A l.length cap) := (blk_cell H.c2 0).trans rfl
theorem Wd.cell3 {w0 W : World} {g2 g3 g7 : Nat} {A : Option Addr} {cap : Nat} {l : List Int} {h : Nat} {acc : List Int} (H : Wd w0 W g2 g3 g7 A cap l h acc) : W.cell? ⟨g3, 0, none⟩ = some (.int .i64 (h : Int)) := (blk_cell H.c3 0).trans rfl
theorem Wd.byte {w0 W : World} {g2 g3 g7 : Nat} {A : Option Addr} {cap : Nat} {l : List Int} {h : Nat} {acc : List Int} (H : Wd w0 W g2 g3 g7 A cap l h acc) (ad : Addr) (hA : A = some ad) (i : Nat) (hi : i < l.length) : W.cell? (ad.add i) = some (.int .u8 (l.getD i 0)) := by
  have hr : Kd.C (Kd.int .u8) W A l.length l := Kd.C_below H.row H.bel
  obtain ⟨ad2, c, e, hc, hK, hc0⟩ := Kd.C_get hr (0 : Int) (i : Int) (by omega) (by omega)
  rw [hA] at e
  obtain rfl := Option.some.inj e
  have := hc0 0
  have hc1 : c = [Value.int .u8 (l.getD i 0)] := hK
  subst hc1
  have h1 := this _ rfl
  rw [Int.toNat_natCast] at h1
  have h2 : i * (Kd.int .u8).sz + 0 = i := by show i * 1 + 0 = i; omega
  rw [h2] at h1
  exact h1
def WPost (lines : ByteArray → ByteArray) (w : World) (R : Except (Int × Nat) (List Int)) (e : Ending) (w' : World) : Prop :=
  (match R with
  | .error (k, a) => e = .returned (.tuple #[.string ⟨#[]⟩, .int .i64 k, .int .i64 (a : Int)])
  | .ok rs => e = .returned (.tuple #[.string (lines ⟨(encR rs).toArray⟩), .int .i64 0, .int .i64 0])) ∧ Below w.heap.size w w'
theorem write_s {w0 W : World} {g2 g3 g7 : Nat} {A : Option Addr} {cap : Nat} {l : List Int} {h : Nat} {acc : List Int} (H : Wd w0 W g2 g3 g7 A cap l h acc) :
    Calls Tryz.prog 52 #[.pointer (some ⟨g7, 0, none⟩)] W fun e w' => e = .returned (.string ⟨(encR acc).toArray⟩) ∧ Below w0.heap.size w0 w' := by
  refine (to_string w0.heap.size g7 (encR acc) W H.bld H.bel.size).mono ?_
  rintro e w' ⟨rfl, _, hb, _⟩
  exact ⟨rfl, H.bel.trans hb⟩
theorem at3 {α : Type} (h : Array α) (o0 o1 o2 : α) : (((h.push o0).push o1).push o2)[h.size]? = some o0 ∧ (((h.push o0).push o1).push o2)[h.size + 1]? = some o1 ∧ (((h.push o0).push o1).push o2)[h.size + 1 + 1]? = some o2 := by
  have e : ∀ (x : Array α) (i : Nat) (o : α), (x.push o)[i]? = if i = x.size then some o else x[i]? := fun x i o => Array.getElem?_push
  simp only [e, Array.size_push]
  refine ⟨?_, ?_, ?_⟩
  · rw [if_neg (by omega), if_neg (by omega)]; simp
  · rw [if_neg (by omega)]; simp
  · simp
def slotN : Value → Nat
  | .int _ i => i.toNat
  | _ => 0
theorem encR_snoc (acc : List Int) (r : Int) : encR (acc ++ [r]) = encR acc ++ Lib.encodeRune r := by simp [encR]
theorem encR_len (acc : List Int) : (encR acc).length ≤ 4 * acc.length := by
  induction acc with
  | nil => simp [encR]
  | cons r t ih =>
    have h1 : encR (r :: t) = Lib.encodeRune r ++ encR t := by simp [encR]
    have h2 : (Lib.encodeRune r).length ≤ 4 := by unfold Lib.encodeRune; rw [List.length_map]; exact (Lib.encodeRuneZ_length r).2
    rw [h1, List.length_append, List.length_cons]; omega
theorem bc_append (a b : List UInt8) : Lib.byteCells (a ++ b) = Lib.byteCells a ++ Lib.byteCells b := by simp [Lib.byteCells]
theorem bc_len (a : List UInt8) : (Lib.byteCells a).length = a.length := by simp [Lib.byteCells]
theorem write_r {w0 W : World} {g2 g3 g7 : Nat} {A : Option Addr} {cap : Nat} {l : List Int} {h : Nat} {acc : List Int} (H : Wd w0 W g2 g3 g7 A cap l h acc) (r : Int) (h0 : 0 ≤ r) (h1 : r ≤ 1114111) (hl : acc.length ≤ 200000000) :
    Calls Tryz.prog 51 #[.pointer (some ⟨g7, 0, none⟩), .int .i32 r] W fun e w' => e = .returned (.tuple #[.int .i64 (Lib.runeCells r).length, .nilIface]) ∧ Wd w0 w' g2 g3 g7 A cap l h (acc ++ [r]) := by
  have hel := encR_len acc
  refine (write_rune w0.heap.size g7 _ r (by omega) (by omega) W H.bld (by rw [bc_len]; omega) H.bel.size).mono ?_
  rintro e w' ⟨rfl, hat, hb, hk⟩
  refine ⟨rfl, H.wrote (.inr ?_) hb hk⟩
  rw [encR_snoc, bc_append, Lib.byteCells_encodeRune]
  exact hat
theorem turnsN {c i j : Nat} (h : i < c) (hj : i < j) : c - slotN (.int .i64 (j : Int)) < c - slotN (.int .i64 (i : Int)) := by
  simp only [slotN, Int.toNat_natCast]; omega
theorem wr32 (x : Int) (h0 : 0 ≤ x) (h1 : x ≤ 2000000000) : wrap32 x = x := by unfold wrap32; omega
theorem unit_any {w0 W : World} {g2 g3 g7 : Nat} {A : Option Addr} {cap : Nat} {l : List Int} {h : Nat} {acc : List Int} (H : Wd w0 W g2 g3 g7 A cap l h acc) (hh : h ≤ 1) (hz : l.length ≤ 100000000) (hby : ∀ x ∈ l, 0 ≤ x ∧ x < 256) (a : Nat) (ha : a ≤ 100000000) (ai : Int) (hai : (a : Int) = ai) :
    ∃ b, Calls Tryz.prog 49 #[.int .i64 ai, .pointer (some ⟨g2, 0, none⟩), .pointer (some ⟨g3, 0, none⟩)] W fun e w' => e = .returned (.tuple #[.int .i32 ((unitV l h a).getD 0), .bool b]) ∧ ∃ q, w' = W.drewN q := by
  subst hai
  by_cases hp : a + 1 < l.length
  · obtain ⟨ad, hA⟩ : ∃ ad, A = some ad := (H.row.2.2 (by omega)).elim fun ad h => ⟨ad, h.1⟩
    subst hA
    have k1 : a + h < l.length := by omega
    have k2 : a + 1 - h < l.length := by omega
    have hx : ∀ i, i < l.length → 0 ≤ l.getD i 0 ∧ l.getD i 0 < 256 := fun i hi => by
      rw [List.getD_eq_getElem?_getD, List.getElem?_eq_getElem hi]; exact hby _ (List.getElem_mem hi)
    refine ⟨true, (unit_in W g2 g3 ad cap l (h : Int) a (a + h) (a + 1 - h) _ _ hz H.cell2 H.cell3 hp (by omega) (by omega) k1 k2 (hx _ k1).1 (hx _ k1).2 (hx _ k2).1 (hx _ k2).2 (H.drew.byte ad rfl _ k1) (H.drew.byte ad rfl _ k2)).mono ?_⟩
    rintro e w' ⟨rfl, rfl⟩
    exact ⟨by unfold unitV; rw [if_pos hp]; rfl, 1, rfl⟩
  · refine ⟨false, (unit_past W g2 g3 A cap l a hz ha H.cell2 (by omega)).mono ?_⟩
    rintro e w' ⟨rfl, rfl⟩
    exact ⟨by unfold unitV; rw [if_neg hp]; rfl, 0, rfl⟩
theorem unitV_bound {l : List Int} {h : Nat} (hh : h ≤ 1) (hby : ∀ x ∈ l, 0 ≤ x ∧ x < 256) (a : Nat) : 0 ≤ (unitV l h a).getD 0 ∧ (unitV l h a).getD 0 < 65536 := by
  unfold unitV
  by_cases hp : a + 1 < l.length
  · rw [if_pos hp]
    have hx : ∀ i, i < l.length → 0 ≤ l.getD i 0 ∧ l.getD i 0 < 256 := fun i hi => by
      rw [List.getD_eq_getElem?_getD, List.getElem?_eq_getElem hi]; exact hby _ (List.getElem_mem hi)
    have h1 := hx (a + h) (by omega)
    have h2 := hx (a + 1 - h) (by omega)
    simp only [Option.getD_some]; omega
  · rw [if_neg hp]; decide
set_option maxRecDepth 100000 in
set_option maxHeartbeats 8000000 in
theorem wide_any (lines : ByteArray → ByteArray)
    (A : Option Addr) (cap : Nat) (l : List Int) (h : Nat) (hh : h ≤ 1) (hz : l.length ≤ 100000000) (hby : ∀ x ∈ l, 0 ≤ x ∧ x < 256) (w : World) (hr0 : Kd.C (Kd.int .u8) w A l.length l) (HL : Laid w)
    (R : Except (Int × Nat) (List Int)) (hR : wideGo l h (l.length + 4) 2 [] = R)
    (hlines : ∀ rs, R = .ok rs → ∀ w : World, Laid w → Calls Tryz.prog 24 #[.string ⟨(encR rs).toArray⟩] w fun e w' => e = .returned (.string (lines ⟨(encR rs).toArray⟩)) ∧ Below w.heap.size w w') :
    Calls Tryz.prog 21 #[.slice A l.length cap, .int .i64 (h : Int)] w (WPost lines w R) := by
  have HR := Lib.hid hR
  have hmf : ∀ (fn : Fn) (first cap : Array Value) (w : World), (Instr.makeFunc fn first cap).run Tryz.prog w = .ok (.func fn first cap) w := fun _ _ _ _ => rfl
  clear hR
  go_enter Tryz.func21, Tryz.ntmps21
  go_wp2_with fail
  have hW0 : Wd w (((w.alloc (.cells #[.slice A l.length cap] 28)).alloc (.cells #[.int .i64 (h : Int)] 3)).alloc (.cells #[.pointer none, .slice none 0 0] 89)) w.heap.size (w.heap.size + 1) (w.heap.size + 1 + 1) A cap l h [] := by
    refine ⟨?_, ?_, .inl ⟨by omega, .slice none 0 0, ?_, Go.World.ownsRowF_nil _ _ _ _, by simp [Value.ownBlock]⟩, hr0, ?_, by omega, by omega, HL⟩
    · exact (at3 w.heap _ _ _).1
    · exact (at3 w.heap _ _ _).2.1
    · exact (at3 w.heap _ _ _).2.2
    · exact ((((Below.refl _ w).alloc (Nat.le_refl _) _).alloc (by simp) _).alloc (by simp; omega) _)
  have HW0 := Lib.hid hW0
  clear hW0
  go_loopw [9] (fun v9 wr => ∃ (a f : Nat) (acc : List Int), v9 = .int .i64 (a : Int) ∧ Wd w wr w.heap.size (w.heap.size + 1) (w.heap.size + 1 + 1) A cap l h acc ∧ Hid (wideGo l h f a acc = R) ∧ l.length + 5 < a + 2 * f ∧ a ≤ l.length + 4 ∧ acc.length ≤ a) (fun v9 _ => l.length + 8 - slotN v9)
  case atStart => exact ⟨2, l.length + 4, [], rfl, HW0.out, HR, by omega, by omega, by simp⟩
  case round =>
    obtain ⟨a, f, acc, rfl, hWd, hF, hfu, hal, hacl⟩ := hrel
    obtain ⟨f, rfl⟩ : ∃ m, f = m + 1 := ⟨f - 1, by omega⟩
    have hF2 := hF.out
    rw [wideGo] at hF2
    have c2 := hWd.cell2
    have HWd := Lib.hid hWd
    clear hWd hF HW0 HR
    by_cases hlt : l.length ≤ a
    · have d1 : decide ((a : Int) < (l.length : Int)) = false := decide_eq_false (by omega)
      rw [if_pos hlt] at hF2
      obtain rfl := hF2
      go_wp2_with (first
        | (go_at_call 52; refine (write_s HWd.out).mono ?_; rintro e w2 ⟨rfl, hb⟩)
        | (go_at_call 24; refine (hlines acc rfl _ (HL.below hb)).mono ?_; rintro e w3 ⟨rfl, hb3⟩))
      go_ret3
      exact ⟨rfl, hb.trans (hb3.mono hb.size)⟩
    · have d1 : decide ((a : Int) < (l.length : Int)) = true := decide_eq_true (by omega)
      rw [if_neg hlt] at hF2
      by_cases hp : a + 1 < l.length
      · obtain ⟨ad, hA⟩ : ∃ ad, A = some ad := (hr0.2.2 (by omega)).elim fun ad h => ⟨ad, h.1⟩
        subst hA
        obtain ⟨i1, hi1⟩ : ∃ i, a + h = i := ⟨_, rfl⟩
        obtain ⟨i2, hi2⟩ : ∃ i, a + 1 - h = i := ⟨_, rfl⟩
        have k1 : i1 < l.length := by omega
        have k2 : i2 < l.length := by omega
        obtain ⟨x, hx⟩ : ∃ x, l.getD i1 0 = x := ⟨_, rfl⟩
        obtain ⟨y, hy⟩ : ∃ y, l.getD i2 0 = y := ⟨_, rfl⟩
        have hxb : 0 ≤ x ∧ x < 256 := by
          rw [← hx, List.getD_eq_getElem?_getD, List.getElem?_eq_getElem k1]; exact hby _ (List.getElem_mem k1)
        have hyb : 0 ≤ y ∧ y < 256 := by
          rw [← hy, List.getD_eq_getElem?_getD, List.getElem?_eq_getElem k2]; exact hby _ (List.getElem_mem k2)
        have hu : unitV l h a = some (x * 256 + y) := by unfold unitV; rw [if_pos hp, hi1, hi2, hx, hy]
        rw [hu] at hF2
        simp only at hF2
        obtain ⟨r, hr⟩ : ∃ r, x * 256 + y = r := ⟨_, rfl⟩
        rw [hr] at hF2
        have hrb : 0 ≤ r ∧ r < 65536 := by omega
        have hunit := unit_in wr w.heap.size (w.heap.size + 1) ad cap l (h : Int) a i1 i2 x y hz c2 HWd.out.cell3 hp (by omega) (by omega) k1 k2 hxb.1 hxb.2 hyb.1 hyb.2 (by rw [← hx]; exact HWd.out.drew.byte ad rfl i1 k1) (by rw [← hy]; exact HWd.out.drew.byte ad rfl i2 k2)
        rw [hr] at hunit
        have HU := Lib.hid hunit
        have HF := Lib.hid hF2
        clear hunit hF2 hu hx hy hxb hyb hr hi1 hi2 k1 k2
        by_cases hsur : r / 2048 = 27
        · have hsb : (r / 2048 == 27) = true := beq_iff_eq.2 hsur
          have hF3 := HF.out
          rw [if_pos hsur] at hF3
          obtain ⟨low, hlow⟩ : ∃ low, (unitV l h (a + 2)).getD 0 = low := ⟨_, rfl⟩
          have hlb := unitV_bound hh hby (a + 2)
          obtain ⟨bb, hun2⟩ := unit_any HWd.out.drew hh hz hby (a + 2) (by omega) ((a : Int) + 2) (by omega)
          rw [hlow] at hF3 hlb hun2
          have hand1 : bits .and .i32 r 1023 = r % 1024 := bits_mask .i32 31 (by decide) wraps_i32 10 (by decide) r hrb.1 (by omega)
          have hand2 : bits .and .i32 low 1023 = low % 1024 := bits_mask .i32 31 (by decide) wraps_i32 10 (by decide) low hlb.1 (by omega)
          obtain ⟨c, hc⟩ : ∃ c, 65536 + r % 1024 * 1024 + low % 1024 = c := ⟨_, rfl⟩
          have hcb : 0 ≤ c ∧ c ≤ 1114111 := by omega
          have hac : acc.length ≤ 200000000 := by omega
          have HV := Lib.hid hc
          have hisc := fun W => isChar_any c (by omega) (by omega) W
          have HI := Lib.hid hisc
          rw [hc] at hF3
          have HU2 := Lib.hid hun2
          have HF4 := Lib.hid hF3
          clear hun2 hF3 HF hsur hisc hc
          by_cases ho : r / 1024 = 54 ∧ low / 1024 = 55
          · have o1 : (r / 1024 == 54) = true := beq_iff_eq.2 ho.1
            have o2 : (low / 1024 == 55) = true := beq_iff_eq.2 ho.2
            have hF5 := HF4.out
            rw [if_pos ho] at hF5
            by_cases hch : inSpans isCharL c = true
            · rw [if_pos hch] at hF5
              have HF5 := Lib.hid hF5
              clear hF5 HF4 ho
              go_wp2_with (first
                | (go_at_call 49; with_reducible refine HU.out.mono ?_; rintro e w2 ⟨rfl, rfl⟩)
                | (go_at_call 49; with_reducible refine HU2.out.mono ?_; rintro e w2 ⟨rfl, q2, rfl⟩)
                | (go_at_call 50; rw [HV.out]; refine (HI.out _).mono ?_; rintro e w3 ⟨rfl, hb3⟩; have HW3 := Lib.hid ((HWd.out.drewN _).below hb3))
                | (go_at_call 51; refine (write_r HW3.out c hcb.1 hcb.2 hac).mono ?_; rintro e w4 ⟨rfl, hW4⟩; have HW4 := Lib.hid hW4; clear hW4))
              exact ⟨⟨a + 4, f, acc ++ [c], by congr 1, HW4.out, HF5, by omega, by omega, by rw [List.length_append, List.length_singleton]; omega⟩, by rw [show (a : Int) + 2 + 2 = ((a + 4 : Nat) : Int) by omega]; exact turnsN (c := l.length + 8) (i := a) (j := a + 4) (by omega) (by omega)⟩
            · have hch' : inSpans isCharL c = false := eq_false_of_ne_true hch
              rw [if_neg hch] at hF5
              obtain rfl := hF5
              clear HF4 ho hch
              go_wp2_with (first
                | (go_at_call 49; with_reducible refine HU.out.mono ?_; rintro e w2 ⟨rfl, rfl⟩)
                | (go_at_call 49; with_reducible refine HU2.out.mono ?_; rintro e w2 ⟨rfl, q2, rfl⟩)
                | (go_at_call 50; rw [HV.out]; refine (HI.out _).mono ?_; rintro e w3 ⟨rfl, hb3⟩; have HW3 := Lib.hid ((HWd.out.drewN _).below hb3)))
              go_ret3
              exact ⟨rfl, HW3.out.bel⟩
          · have hF5 := HF4.out
            rw [if_neg ho] at hF5
            obtain rfl := hF5
            clear HF4
            by_cases ho1 : r / 1024 = 54
            · have o1 : (r / 1024 == 54) = true := beq_iff_eq.2 ho1
              have o2 : (low / 1024 == 55) = false := beq_eq_false_iff_ne.2 fun h => ho ⟨ho1, h⟩
              clear ho
              go_wp2_with (first
                | (go_at_call 49; with_reducible refine HU.out.mono ?_; rintro e w2 ⟨rfl, rfl⟩)
                | (go_at_call 49; with_reducible refine HU2.out.mono ?_; rintro e w2 ⟨rfl, q2, rfl⟩))
              go_ret3
              exact ⟨rfl, (HWd.out.drewN _).bel⟩
            · have o1 : (r / 1024 == 54) = false := beq_eq_false_iff_ne.2 ho1
              clear ho
              go_wp2_with (first
                | (go_at_call 49; with_reducible refine HU.out.mono ?_; rintro e w2 ⟨rfl, rfl⟩)
                | (go_at_call 49; with_reducible refine HU2.out.mono ?_; rintro e w2 ⟨rfl, q2, rfl⟩))
              go_ret3
              exact ⟨rfl, (HWd.out.drewN _).bel⟩
        · have hsb : (r / 2048 == 27) = false := beq_eq_false_iff_ne.2 hsur
          have hF3 := HF.out
          rw [if_neg hsur] at hF3
          by_cases hch : inSpans isCharL r = true
          · rw [if_pos hch] at hF3
            have HF3 := Lib.hid hF3
            clear hF3 HF
            go_wp2_with (first
              | (go_at_call 49; refine HU.out.mono ?_; rintro e w2 ⟨rfl, rfl⟩)
              | (go_at_call 50; refine (isChar_any _ (by omega) (by omega) _).mono ?_; rintro e w3 ⟨rfl, hb3⟩; have HW3 := Lib.hid (HWd.out.drew.below hb3))
              | (go_at_call 51; refine (write_r HW3.out r (by omega) (by omega) (by omega)).mono ?_; rintro e w4 ⟨rfl, hW4⟩; have HW4 := Lib.hid hW4; clear hW4))
            exact ⟨⟨a + 2, f, acc ++ [r], rfl, HW4.out, HF3, by omega, by omega, by rw [List.length_append, List.length_singleton]; omega⟩, turnsN (c := l.length + 8) (i := a) (j := a + 2) (by omega) (by omega)⟩
          · have hch' : inSpans isCharL r = false := eq_false_of_ne_true hch
            rw [if_neg hch] at hF3
            obtain rfl := hF3
            clear hch HF
            go_wp2_with (first
              | (go_at_call 49; refine HU.out.mono ?_; rintro e w2 ⟨rfl, rfl⟩)
              | (go_at_call 50; refine (isChar_any _ (by omega) (by omega) _).mono ?_; rintro e w3 ⟨rfl, hb3⟩; have HW3 := Lib.hid (HWd.out.drew.below hb3)))
            go_ret3
            exact ⟨rfl, HW3.out.bel⟩
      · have hu : unitV l h a = none := by unfold unitV; rw [if_neg hp]
        rw [hu] at hF2
        simp only at hF2
        obtain rfl := hF2
        go_wp2_with (go_at_call 49; refine (unit_past _ _ _ A cap l a hz (by omega) c2 (by omega)).mono ?_; rintro e w2 ⟨rfl, rfl⟩)
        go_ret3
        exact ⟨rfl, HWd.out.bel⟩
def xchar_wide.f (l0 : List Int) (a1 : Int) : Option (ByteArray × Int × Int) :=
  if (a1 = 0 ∨ a1 = 1) ∧ l0.length ≤ 100000000 ∧ (∀ x ∈ l0, 0 ≤ x ∧ x < 256) then
    match wideGo l0 a1.toNat (l0.length + 4) 2 [] with
    | .error (k, a) => some (⟨#[]⟩, k, (a : Int))
    | .ok rs => (xchar_lines.f ⟨(encR rs).toArray⟩).bind fun t => some (t, 0, 0)
  else none
theorem xchar_wide.calls (A0 : Option Addr) (c0 : Nat) (l0 : List Int) (a1 : Int) (r1 : ByteArray) (r2 r3 : Int) (w : World) (hr0 : Kd.C (Kd.int .u8) w A0 l0.length l0) (hc0 : l0.length ≤ c0) (HL : Laid w) (h : xchar_wide.f l0 a1 = some (r1, r2, r3)) :
    Calls Tryz.prog 21 #[.slice A0 l0.length c0, .int .i64 a1] w fun e w' => e = .returned (.tuple #[.string r1, .int .i64 r2, .int .i64 r3]) ∧ Below w.heap.size w w' := by
  unfold xchar_wide.f at h
  split at h
  · rename_i hc
    obtain ⟨ha, hz, hby⟩ := hc
    obtain ⟨n, hn⟩ : ∃ n : Nat, a1 = (n : Int) := ⟨a1.toNat, by omega⟩
    subst hn
    rw [Int.toNat_natCast] at h
    rcases hg : wideGo l0 n (l0.length + 4) 2 [] with ⟨k, a⟩ | rs
    · rw [hg] at h
      simp only [Option.some.injEq, Prod.mk.injEq] at h
      obtain ⟨rfl, rfl, rfl⟩ := h
      refine (wide_any (fun s => s) A0 c0 l0 n (by omega) hz hby w hr0 HL _ hg (fun rs h => by cases h)).mono ?_
      rintro e w' ⟨he, hb⟩
      exact ⟨he, hb⟩
    · rw [hg] at h
      simp only [Option.bind_eq_some_iff, Option.some.injEq, Prod.mk.injEq] at h
      obtain ⟨t, ht, rfl, rfl, rfl⟩ := h
      refine (wide_any (fun _ => t) A0 c0 l0 n (by omega) hz hby w hr0 HL _ hg (fun rs2 h w2 HL2 => ?_)).mono ?_
      · have e := Except.ok.inj h
        subst e
        exact xchar_lines.calls _ _ w2 HL2 ht
      · rintro e w' ⟨he, hb⟩
        exact ⟨he, hb⟩
  · cases h

end Go.Proofs.YthedigbdkjcpfaaGreatDoor.Print
