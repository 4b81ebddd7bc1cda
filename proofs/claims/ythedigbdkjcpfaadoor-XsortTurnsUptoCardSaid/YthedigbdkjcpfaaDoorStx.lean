/- The worlds of a sort; slices.swapRangeCmpFunc[int], rotateCmpFunc[int], insertionSortCmpFunc[int], walked. -/
import Derived.Shelf.SlSortCmp.Kit1
import Derived.Lib.QuietBelow
import Derived.Test.YthedigbdkjcpfaaDoorProg
import Derived.Test.YthedigbdkjcpfaaDoorSta
import Derived.Sort.WalkA
import Derived.Sort.WalkB2
import Derived.Sort.WalkB12
import Derived.Deep.LoopGhost
import Derived.Shelf.RegionOpenPlain
/- The worlds that a sort passes through, draws not counted; what is asked of its comparison. -/
set_option linter.unusedVariables false
set_option linter.unusedSimpArgs false
namespace Go.Proofs.YthedigbdkjcpfaaDoor.Sta
open Go.Shelf Go.RowKit Go.Lib Go.Sort
variable {P : Program} {α : Type} [Inhabited α] {enc : α → Value} {w0 W W' : World} {blk off : Nat} {dk d0 : Array α}
/-- what is asked of the comparison: it reads, it may lay blocks -/
def CmpB (P : Program) (g : Nat) (cb : Array Value) (enc : α → Value) (cf : α → α → Int) (blk off size : Nat) (w0 : World) : Prop :=
  ∀ (W : World) (dk : Array α), SW enc w0 blk off dk W → dk.size = size → ∀ x y : α, Calls P g (#[enc x, enc y] ++ cb) W fun e W' => e = .returned (.int .i64 (cf x y)) ∧ Below W.heap.size W W'
theorem sw_regrown (h : SW enc w0 blk off dk W) (hz : w0.drawn = 0) (d : Nat) (os : Array Obj) : SW enc w0 blk off dk (grow (redrawn W d) os) := by
  obtain ⟨m, os0, rfl⟩ := h
  refine ⟨d, os0 ++ os, ?_⟩
  unfold sortWorld
  rw [← grow_grow]
  congr 1
  simp [redrawn, grow, putRow, mapBlock, Sort.ahead, hz]
theorem sw_below (h : SW enc w0 blk off dk W) (hz : w0.drawn = 0) (hb : Below W.heap.size W W') : SW enc w0 blk off dk W' := by
  obtain ⟨⟨d, os⟩, rfl⟩ := regrown_of_below hb
  exact sw_regrown h hz d os
theorem sw_cr (h : SW enc w0 blk off dk W) (R : Row1 enc w0 blk off d0) (hs : dk.size = d0.size) (i : Nat) (hi : i < dk.size) (d : Nat) (os : Array Obj) : (grow (redrawn W d) os).cell? ⟨blk, off + i, none⟩ = some (enc dk[i]!) := cell_regrown (h.c1 R hs i hi) d os
theorem sw_cmp {g : Nat} {cb : Array Value} {cf : α → α → Int} {size : Nat} (h : SW enc w0 blk off dk W) (hz : w0.drawn = 0) (hC : CmpB P g cb enc cf blk off size w0) (hs : dk.size = size) (x y : α) (d : Nat) (os : Array Obj) :
    Calls P g (#[enc x, enc y] ++ cb) (grow (redrawn W d) os) fun e w' => e = .returned (.int .i64 (cf x y)) ∧ Below (grow (redrawn W d) os).heap.size (grow (redrawn W d) os) w' :=
  hC _ dk (sw_regrown h hz d os) hs x y
end Go.Proofs.YthedigbdkjcpfaaDoor.Sta
/- slices.swapRangeCmpFunc[int] and slices.rotateCmpFunc[int], walked: from a world of the sort's to a world of the sort's. -/
set_option linter.unusedVariables false
set_option linter.unusedSimpArgs false
namespace Go.Proofs.YthedigbdkjcpfaaDoor.Sta
open Go.Shelf Go.RowKit Go.Lib Go.Sort
variable {α : Type} [Inhabited α]
/-- an element's cell: its number -/
def ev (val : α → Int) (x : α) : Value := .int .i64 (val x)
set_option maxHeartbeats 16000000 in
set_option maxRecDepth 1000000 in
theorem swapRange_s (val : α → Int) (cmp : Value) (blk off cap a b n : Nat) (d0 d : Array α) (w0 w : World) (R : Row1 (ev val) w0 blk off d0) (hs : d0.size = d.size) (S : SW (ev val) w0 blk off d w) (hab : a + n ≤ b) (hb : b + n ≤ d.size) (hsz : d.size < 4611686018427387904) :
    Calls Tryd.prog 105 #[.slice (some ⟨blk, off, none⟩) d.size cap, .int .i64 a, .int .i64 b, .int .i64 n, cmp] w fun e w' => e = .returned (.tuple #[]) ∧ SW (ev val) w0 blk off (swaps d a b n) w' := by
  have mixed : Tryd.prog.follows .mixedOrders = true := by kernel_rfl
  have S0 : Aside _ := S
  clear S
  go_enter Tryd.func105, Tryd.ntmps105
  go_wp2
  go_loopg [10] n (fun g1 vi wr => ∃ (i : Nat), vi = .int .i64 i ∧ i ≤ n ∧ n - i ≤ g1 ∧ Aside (SW (ev val) w0 blk off (swaps d a b i) wr))
  case atStart => exact ⟨0, by go_num, by omega, by omega, S0⟩
  case round =>
    clear S0
    obtain ⟨i, rfl, hin, hg1, S1⟩ := hrel
    have hsk : (swaps d a b i).size = d.size := size_swaps d a b i
    by_cases hlt : i < n
    · have hltz : (i : Int) < (n : Int) := by omega
      obtain ⟨dk, hdk⟩ : ∃ x, x = swaps d a b i := ⟨_, rfl⟩
      rw [← hdk] at S1 hsk
      have HDK : Hid (dk = swaps d a b i) := hdk
      clear hdk
      obtain ⟨iN, hiN⟩ : ∃ q, q = a + i := ⟨_, rfl⟩
      obtain ⟨jN, hjN⟩ : ∃ q, q = b + i := ⟨_, rfl⟩
      have ea : ((a : Int) + (i : Int)).toNat = iN := by omega
      have pa : (0 : Int) ≤ (a : Int) + (i : Int) := by omega
      have ba : (a : Int) + (i : Int) < (d.size : Int) := by omega
      have ra : IntKind.i64.wrap ((a : Int) + (i : Int)) = (a : Int) + (i : Int) := by rw [IntKind.wrap_i64]; omega
      have ec : ((b : Int) + (i : Int)).toNat = jN := by omega
      have pc : (0 : Int) ≤ (b : Int) + (i : Int) := by omega
      have bc : (b : Int) + (i : Int) < (d.size : Int) := by omega
      have rc : IntKind.i64.wrap ((b : Int) + (i : Int)) = (b : Int) + (i : Int) := by rw [IntKind.wrap_i64]; omega
      obtain ⟨x, hx⟩ : ∃ x, x = dk[a + i]! := ⟨_, rfl⟩
      obtain ⟨y, hy⟩ : ∃ x, x = dk[b + i]! := ⟨_, rfl⟩
      have S3 : Aside (SW (ev val) w0 blk off (swp dk (a + i) (b + i)) ((wr.setCell ⟨blk, off + iN, none⟩ (.int .i64 (val y))).setCell ⟨blk, off + jN, none⟩ (.int .i64 (val x))).drew) := by rw [hiN, hjN, hx, hy]; exact S1.out.swapped R (a + i) (b + i) (by omega) (by omega)
      have c1a : wr.cell? ⟨blk, off + iN, none⟩ = some (.int .i64 (val x)) := by rw [hiN, hx]; exact S1.out.c1 R (by omega) (a + i) (by omega)
      have c1b : wr.cell? ⟨blk, off + jN, none⟩ = some (.int .i64 (val y)) := by rw [hjN, hy]; exact S1.out.c1 R (by omega) (b + i) (by omega)
      have f1a : wr.frozen? ⟨blk, off + iN, none⟩ = false := by rw [hiN]; exact S1.out.f1 R (by omega) (a + i) (by omega)
      have f1b : wr.frozen? ⟨blk, off + jN, none⟩ = false := by rw [hjN]; exact S1.out.f1 R (by omega) (b + i) (by omega)
      obtain ⟨u, c1c⟩ : ∃ u, (wr.setCell ⟨blk, off + iN, none⟩ (.int .i64 (val y))).cell? ⟨blk, off + jN, none⟩ = some u := by rw [hiN, hjN]; exact S1.out.c2 R (by omega) (a + i) (b + i) (by omega) (by omega) (ev val y)
      clear S1 hx hy hiN hjN
      go_wp2_with fail
      go_big_region_o
      clear c1a c1b c1c f1a f1b
      generalize ((wr.setCell ⟨blk, off + iN, none⟩ (.int .i64 (val y))).setCell ⟨blk, off + jN, none⟩ (.int .i64 (val x))).drew = w3 at S3 ⊢
      clear ea ec
      go_wp2
      go_roundg (n - (i + 1))
      case measure => omega
      case rel => exact ⟨i + 1, by first | rfl | go_num | (congr 1; omega), by omega, by omega, by rw [swaps, ← HDK.out]; exact S3⟩
    · have hltz : ¬ (i : Int) < (n : Int) := by omega
      have e : i = n := by omega
      subst e
      go_wp2
      go_end0
      exact ⟨rfl, S1.out⟩
theorem i64_in (n : Nat) (h : n < 4611686018427387904) : IntKind.i64.wrap (n : Int) = (n : Int) := by rw [IntKind.wrap_i64]; omega
set_option maxHeartbeats 16000000 in
set_option maxRecDepth 1000000 in
theorem rotate_s (val : α → Int) (cmp : Value) (blk off cap a m b : Nat) (d0 d : Array α) (w0 w : World) (R : Row1 (ev val) w0 blk off d0) (hs : d0.size = d.size) (S : SW (ev val) w0 blk off d w) (ham : a < m) (hmb : m < b) (hb : b ≤ d.size) (hsz : d.size < 1000000000) :
    Calls Tryd.prog 85 #[.slice (some ⟨blk, off, none⟩) d.size cap, .int .i64 a, .int .i64 m, .int .i64 b, cmp] w fun e w' => e = .returned (.tuple #[]) ∧ SW (ev val) w0 blk off (rot d a m b) w' := by
  have C : ∀ (x y n : Nat) (dk : Array α) (wk : World), dk.size = d.size → Aside (SW (ev val) w0 blk off dk wk) → x + n ≤ y → y + n ≤ d.size →
      Calls Tryd.prog 105 #[.slice (some ⟨blk, off, none⟩) d.size cap, .int .i64 x, .int .i64 y, .int .i64 n, cmp] wk fun e w' => e = .returned (.tuple #[]) ∧ Aside (SW (ev val) w0 blk off (swaps dk x y n) w') := fun x y n dk wk h1 h2 h3 h4 => by
    have := swapRange_s val cmp blk off cap x y n d0 dk w0 wk R (by omega) h2 h3 (by omega) (by omega)
    rwa [h1] at this
  have HC : Hid _ := C
  clear C
  have S0 : Aside _ := S
  clear S
  obtain ⟨i0, hi0⟩ : ∃ q, q + a = m := ⟨m - a, by omega⟩
  obtain ⟨j0, hj0⟩ : ∃ q, q + m = b := ⟨b - m, by omega⟩
  have e1 : (m : Int) - (a : Int) = (i0 : Int) := by omega
  have e2 : (b : Int) - (m : Int) = (j0 : Int) := by omega
  have r1 := i64_in i0 (by omega)
  have r2 := i64_in j0 (by omega)
  go_enter Tryd.func85, Tryd.ntmps85
  go_wp2
  clear r1 r2
  go_loopg [10, 11] (i0 + j0) (fun g1 vi vj wr => ∃ (i j : Nat) (dk : Array α), vi = .int .i64 i ∧ vj = .int .i64 j ∧ 0 < i ∧ 0 < j ∧ i ≤ i0 ∧ j ≤ j0 ∧ i + j ≤ g1 ∧ dk.size = d.size ∧ Aside (SW (ev val) w0 blk off dk wr) ∧ Hid (rot dk (m - i) m (m + j) = rot d a m b))
  case atStart => exact ⟨i0, j0, d, rfl, rfl, by omega, by omega, by omega, by omega, by omega, rfl, S0, (show _ = _ by rw [show m - i0 = a by omega, show m + j0 = b by omega])⟩
  case round =>
    clear S0 e1 e2
    obtain ⟨i, j, dk, rfl, rfl, hi, hj, hii, hjj, hg1, hsk, S1, HO⟩ := hrel
    obtain ⟨mi, hmi⟩ : ∃ q, q + i = m := ⟨m - i, by omega⟩
    have e1 : (m : Int) - (i : Int) = (mi : Int) := by omega
    have r1 := i64_in mi (by omega)
    by_cases hne : i = j
    · subst hne
      have c1 := HC.out mi m i dk wr hsk S1 (by omega) (by omega)
      have hrot : swaps dk mi m i = rot d a m b := by rw [← HO.out, show mi = m - i by omega]; exact rot_eq dk m i (by omega) (by omega)
      rw [hrot] at c1
      clear S1
      have HC1 : Hid _ := c1
      clear c1 hrot
      go_wp2_with (go_at_call 105; refine Calls.mono HC1.out ?_; rintro e w1 ⟨rfl, S2⟩)
      go_end0
      exact ⟨rfl, S2.out⟩
    · have hnz : ¬ (i : Int) = (j : Int) := by omega
      by_cases hgt : j < i
      · have hgz : (j : Int) < (i : Int) := by omega
        obtain ⟨ij, hij⟩ : ∃ q, q + j = i := ⟨i - j, by omega⟩
        have e3 : (i : Int) - (j : Int) = (ij : Int) := by omega
        have r3 := i64_in ij (by omega)
        have HC1 : Hid _ := HC.out mi m j dk wr hsk S1 (by omega) (by omega)
        clear S1
        go_wp2_with (go_at_call 105; refine Calls.mono HC1.out ?_; rintro e w1 ⟨rfl, S2⟩)
        clear r1 r3
        go_roundg (ij + j)
        case measure => omega
        case rel => exact ⟨ij, j, swaps dk mi m j, rfl, rfl, by omega, hj, by omega, hjj, by omega, by rw [size_swaps]; exact hsk, S2, (show _ = _ by rw [← HO.out, show mi = m - i by omega, show ij = i - j by omega]; exact rot_step1 dk m i j (by omega) (by omega) hgt)⟩
      · have hgz : ¬ (j : Int) < (i : Int) := by omega
        obtain ⟨ji, hji⟩ : ∃ q, q + i = j := ⟨j - i, by omega⟩
        obtain ⟨mj, hmj⟩ : ∃ q, q + i = m + j := ⟨m + j - i, by omega⟩
        have e3 : (j : Int) - (i : Int) = (ji : Int) := by omega
        have r3 := i64_in ji (by omega)
        have e4 : (m : Int) + (j : Int) - (i : Int) = (mj : Int) := by omega
        have r4 := i64_in mj (by omega)
        have r5 : IntKind.i64.wrap ((m : Int) + (j : Int)) = (m : Int) + (j : Int) := by rw [IntKind.wrap_i64]; omega
        have HC1 : Hid _ := HC.out mi mj i dk wr hsk S1 (by omega) (by omega)
        clear S1
        go_wp2_with (go_at_call 105; refine Calls.mono HC1.out ?_; rintro e w1 ⟨rfl, S2⟩)
        clear r1 r3 r4 r5
        go_roundg (i + ji)
        case measure => omega
        case rel => exact ⟨i, ji, swaps dk mi mj i, rfl, rfl, hi, by omega, hii, by omega, by omega, by rw [size_swaps]; exact hsk, S2, (show _ = _ by rw [← HO.out, show mi = m - i by omega, show mj = m + j - i by omega, show ji = j - i by omega]; exact rot_step2 dk m i j (by omega) (by omega) (by omega))⟩
end Go.Proofs.YthedigbdkjcpfaaDoor.Sta
/- slices.insertionSortCmpFunc[int], walked under a comparison that may lay blocks. -/
set_option linter.unusedVariables false
set_option linter.unusedSimpArgs false
namespace Go.Proofs.YthedigbdkjcpfaaDoor.Sta
open Go.Shelf Go.RowKit Go.Lib Go.Sort
variable {α : Type} [Inhabited α]
set_option maxHeartbeats 16000000 in
set_option maxRecDepth 1000000 in
theorem insertion_s (val : α → Int) (cf : α → α → Int) (g : Nat) (cb : Array Value) (blk off cap a b : Nat) (d0 d : Array α) (w0 w : World) (eg : ∀ args w, (callFunc g args).run Tryd.prog w = .ok (.enter g args) w) (hz : w0.drawn = 0)
    (hcmp : 0 < d.size → CmpB Tryd.prog g cb (ev val) cf blk off d.size w0) (R : Row1 (ev val) w0 blk off d0) (hs : d0.size = d.size) (S : SW (ev val) w0 blk off d w) (hab : a ≤ b) (hb : b ≤ d.size) (hsz : d.size < 1000000000) :
    Calls Tryd.prog 64 #[.slice (some ⟨blk, off, none⟩) d.size cap, .int .i64 a, .int .i64 b, .func (.func g) #[] cb] w fun e w' => e = .returned (.tuple #[]) ∧ SW (ev val) w0 blk off (Sort.insertionSort (ltOf cf) d a b) w' := by
  have mixed : Tryd.prog.follows .mixedOrders = true := by kernel_rfl
  have HZ : Hid _ := hz
  have HC : Aside (0 < d.size → CmpB Tryd.prog g cb (ev val) cf blk off d.size w0) := hcmp
  have S0 : Aside _ := S
  clear S hcmp hz
  have r0 : IntKind.i64.wrap ((a : Int) + 1) = (a : Int) + 1 := by rw [IntKind.wrap_i64]; omega
  go_enter Tryd.func64, Tryd.ntmps64
  go_wp2
  clear r0
  go_loopg [8] (b - a) (fun g1 vi wr => ∃ (i : Nat) (dk : Array α), vi = .int .i64 i ∧ a < i ∧ i ≤ b + 1 ∧ b + 1 - i ≤ g1 + 1 ∧ dk.size = d.size ∧ Aside (SW (ev val) w0 blk off dk wr) ∧ Hid (insOuter (ltOf cf) a b i dk = insOuter (ltOf cf) a b (a + 1) d))
  case atStart => exact ⟨a + 1, d, by go_num, by omega, by omega, by omega, rfl, S0, rfl⟩
  case round =>
    clear S0
    obtain ⟨i, dk, rfl, hai, hib, hg1, hsk, S1, HO⟩ := hrel
    have ri : IntKind.i64.wrap ((i : Int) + 1) = (i : Int) + 1 := by rw [IntKind.wrap_i64]; omega
    by_cases hlt : i < b
    · have hltz : (i : Int) < (b : Int) := by omega
      have HD : CmpB Tryd.prog g cb (ev val) cf blk off d.size w0 := HC.out (by omega)
      have HD2 : Aside (CmpB Tryd.prog g cb (ev val) cf blk off d.size w0) := HD
      clear HD
      go_wp2
      go_loopg [9] i (fun g2 vj wr2 => ∃ (j : Nat) (dj : Array α), vj = .int .i64 j ∧ a ≤ j ∧ j ≤ i ∧ j ≤ g2 ∧ dj.size = d.size ∧ Aside (SW (ev val) w0 blk off dj wr2) ∧ Hid (insInner (ltOf cf) a j dj = insInner (ltOf cf) a i dk))
      case atStart => exact ⟨i, dk, rfl, by omega, Nat.le_refl _, Nat.le_refl _, hsk, S1, rfl⟩
      case round =>
        clear S1
        obtain ⟨j, dj, rfl, haj, hji, hg2, hsj, SJ, HI⟩ := hrel
        have OUT : Aside ((j ≤ a ∨ (ltOf cf) dj[j]! dj[j - 1]! = false) → Hid (insOuter (ltOf cf) a b (i + 1) dj = insOuter (ltOf cf) a b (a + 1) d)) := fun hs => by
          show _ = _
          rw [← HO.out, insOuter_go _ _ _ _ _ hlt, ← HI.out, insInner_stop _ _ _ _ hs]
        by_cases hja : a < j
        · obtain ⟨jp, hjp⟩ : ∃ q, q + 1 = j := ⟨j - 1, by omega⟩
          have zjp : (j : Int) = (jp : Int) + 1 := by omega
          have hjad : decide ((jp : Int) + 1 > (a : Int)) = true := decide_eq_true (by omega)
          have hjaz' : (a : Int) < (jp : Int) + 1 := by omega
          obtain ⟨iN, hiN⟩ : ∃ q, q = j := ⟨_, rfl⟩
          obtain ⟨jN, hjN⟩ : ∃ q, q = j - 1 := ⟨_, rfl⟩
          have ea : ((jp : Int) + 1).toNat = iN := by omega
          have pa : (0 : Int) ≤ (jp : Int) + 1 := by omega
          have ba : (jp : Int) + 1 < (d.size : Int) := by omega
          have ec : ((jp : Int)).toNat = jN := by omega
          have pc : (0 : Int) ≤ (jp : Int) := by omega
          have bc : (jp : Int) < (d.size : Int) := by omega
          have rc : IntKind.i64.wrap ((jp : Int)) = (jp : Int) := by rw [IntKind.wrap_i64]; omega
          obtain ⟨x, hx⟩ : ∃ x, x = dj[j]! := ⟨_, rfl⟩
          obtain ⟨y, hy⟩ : ∃ x, x = dj[j - 1]! := ⟨_, rfl⟩
          have la : ∀ dq os, (grow (redrawn wr dq) os).cell? ⟨blk, off + iN, none⟩ = some (.int .i64 (val x)) := by rw [hx, hiN]; exact sw_cr SJ.out R (by omega) j (by omega)
          have lb : ∀ dq os, (grow (redrawn wr dq) os).cell? ⟨blk, off + jN, none⟩ = some (.int .i64 (val y)) := by rw [hy, hjN]; exact sw_cr SJ.out R (by omega) (j - 1) (by omega)
          have hc := sw_cmp SJ.out HZ.out HD2.out (by omega) x y
          simp only [ev] at hc
          cases hlv : (ltOf cf) dj[j]! dj[j - 1]! with
          | true =>
            have hv : cf x y < 0 := by rw [hx, hy]; exact of_decide_eq_true hlv
            have hd : decide (cf x y < 0) = true := decide_eq_true hv
            have HLV : Hid _ := hlv
            have HXY : Hid (x = dj[j]! ∧ y = dj[j - 1]! ∧ iN = j ∧ jN = j - 1) := ⟨hx, hy, hiN, hjN⟩
            clear hx hy hiN hjN hlv
            go_wp2_with fail
            refine wp_region_quiet_below (by assumption) (by kernel_rfl) ?_
            repeat (quiet_step (first | (go_at_fn g; refine Calls.regrown_of (hc _ _))))
            refine wpQuiet_nil ?_
            intro _ hw'
            obtain ⟨⟨dq, osq⟩, hw''⟩ := hw'
            subst hw''
            have S2 : Aside (SW (ev val) w0 blk off dj (grow (redrawn wr dq) osq)) := sw_regrown SJ.out HZ.out dq osq
            clear la lb hc SJ
            generalize grow (redrawn wr dq) osq = w2 at S2 ⊢
            clear dq osq
            obtain ⟨hx, hy, hiN, hjN⟩ := HXY.out
            have S3 : Aside (SW (ev val) w0 blk off (swp dj (j) (j - 1)) ((w2.setCell ⟨blk, off + iN, none⟩ (.int .i64 (val y))).setCell ⟨blk, off + jN, none⟩ (.int .i64 (val x))).drew) := by rw [hiN, hjN, hx, hy]; exact S2.out.swapped R (j) (j - 1) (by omega) (by omega)
            have c1a : w2.cell? ⟨blk, off + iN, none⟩ = some (.int .i64 (val x)) := by rw [hiN, hx]; exact S2.out.c1 R (by omega) j (by omega)
            have c1b : w2.cell? ⟨blk, off + jN, none⟩ = some (.int .i64 (val y)) := by rw [hjN, hy]; exact S2.out.c1 R (by omega) (j - 1) (by omega)
            have f1a : w2.frozen? ⟨blk, off + iN, none⟩ = false := by rw [hiN]; exact S2.out.f1 R (by omega) j (by omega)
            have f1b : w2.frozen? ⟨blk, off + jN, none⟩ = false := by rw [hjN]; exact S2.out.f1 R (by omega) (j - 1) (by omega)
            obtain ⟨u, c1c⟩ : ∃ u, (w2.setCell ⟨blk, off + iN, none⟩ (.int .i64 (val y))).cell? ⟨blk, off + jN, none⟩ = some u := by rw [hiN, hjN]; exact S2.out.c2 R (by omega) j (j - 1) (by omega) (by omega) (ev val y)
            clear S2 hx hy hiN hjN
            go_wp2_with fail
            go_big_region_o
            clear c1a c1b c1c f1a f1b
            generalize ((w2.setCell ⟨blk, off + iN, none⟩ (.int .i64 (val y))).setCell ⟨blk, off + jN, none⟩ (.int .i64 (val x))).drew = w3 at S3 ⊢
            clear ea ec
            go_wp2
            go_roundg (j - 1)
            case measure => omega
            case rel => exact ⟨j - 1, swp dj j (j - 1), by first | rfl | go_num | (congr 1; omega), by omega, by omega, Nat.le_refl _, by rw [size_swp]; exact hsj, S3, (show _ = _ from by rw [← HI.out, insInner_go (ltOf cf) a j dj hja HLV.out])⟩
          | false =>
            have hv : ¬ cf x y < 0 := by rw [hx, hy]; exact of_decide_eq_false hlv
            have hd : decide (cf x y < 0) = false := decide_eq_false hv
            have HLV : Hid _ := hlv
            clear hx hy hiN hjN hlv
            go_wp2_with fail
            refine wp_region_quiet_below (by assumption) (by kernel_rfl) ?_
            repeat (quiet_step (first | (go_at_fn g; refine Calls.regrown_of (hc _ _))))
            refine wpQuiet_nil ?_
            intro _ hw'
            obtain ⟨⟨dq, osq⟩, hw''⟩ := hw'
            subst hw''
            have S2 : Aside (SW (ev val) w0 blk off dj (grow (redrawn wr dq) osq)) := sw_regrown SJ.out HZ.out dq osq
            clear la lb hc SJ
            generalize grow (redrawn wr dq) osq = w2 at S2 ⊢
            clear dq osq ea ec
            go_wp2
            go_roundg (b - (i + 1))
            case measure => omega
            case rel => exact ⟨i + 1, dj, by first | rfl | go_num | (congr 1; omega), by omega, by omega, by omega, hsj, S2, OUT.out (Or.inr HLV.out)⟩
        · have hjaz : decide ((j : Int) > (a : Int)) = false := decide_eq_false (by omega)
          have hjaz' : ¬ (a : Int) < (j : Int) := by omega
          go_wp2_with fail
          go_big_region_o
          have S2 : Aside (SW (ev val) w0 blk off dj wr.drew) := SJ.out.drew
          clear SJ
          generalize wr.drew = w2 at S2 ⊢
          go_wp2
          go_roundg (b - (i + 1))
          case measure => omega
          case rel => exact ⟨i + 1, dj, by first | rfl | go_num | (congr 1; omega), by omega, by omega, by omega, hsj, S2, OUT.out (Or.inl (by omega))⟩
    · have hltz : ¬ (i : Int) < (b : Int) := by omega
      go_wp2
      go_end0
      exact ⟨rfl, by unfold Sort.insertionSort; rw [← HO.out, insOuter_stop _ _ _ _ _ hlt]; exact S1.out⟩
end Go.Proofs.YthedigbdkjcpfaaDoor.Sta
