-- Laid by xprint.py (ours), out of the seat's translation; Lean checks it.
import Derived.Test.YthedigbdkjcpfaaGreatDoorPrint0
import Derived.Laws.Cover2
import Derived.WalkLawsBesides
import Derived.Laws.IdiomStrings
import Derived.LoopTactic
import Derived.Lib.Hide
import Derived.Test.YthedigbdkjcpfaaGreatDoorFlt
import Derived.Test.YthedigbdkjcpfaaGreatDoorPlain
namespace Go.Proofs.YthedigbdkjcpfaaGreatDoor.Print
open Go.RowKit Go.Proofs.YthedigbdkjcpfaaGreatDoorW.PrintWords Go.Proofs.YthedigbdkjcpfaaGreatDoorW.PrintLast Go.Proofs.YthedigbdkjcpfaaGreatDoorW.PrintMore
attribute [local go_sem] max2_int min2_int max_two min_two max_three min_three max_four min_four   -- for this text's walks alone
open Go.Proofs.YthedigbdkjcpfaaGreatDoor.Plain
set_option linter.unusedVariables false
set_option linter.unusedSimpArgs false

-- GIVEN stencil/xchar.in making
-- GIVEN stencil/xchar.IsChar making
-- GIVEN stencil/xchar.Begins making
-- GIVEN stencil/xchar.GoesOn making
theorem ord3 (a b : Int) : (a < b ∧ compare a b = .lt) ∨ (a ≤ b ∧ b ≤ a ∧ compare a b = .eq) ∨ (b < a ∧ compare a b = .gt) := by
  rcases Go.Proofs.YthedigbdkjcpfaaGreatDoor.Flt.ord_cases a b with ⟨h, e⟩ | ⟨h, e⟩ | ⟨h, e⟩
  · exact .inl ⟨h, e⟩
  · exact .inr (.inl ⟨by omega, by omega, e⟩)
  · exact .inr (.inr ⟨h, e⟩)
set_option maxRecDepth 100000 in
set_option maxHeartbeats 400000 in
theorem in_any (r : Int) (h0 : -2147483648 ≤ r) (h1 : r ≤ 2147483647) (b c : Nat) (l : List (Int × Int)) (w : World) (hl : l.length ≤ 1000)
    (hb : ∀ p ∈ l, p.1.natAbs < 2 ^ 53 ∧ p.2.natAbs < 2 ^ 53)
    (hcell : ∀ j (p : Int × Int), l[j]? = some p → w.cell? ⟨b, j, none⟩ = some (.complex .f64 (FloatKind.f64.nearest p.1) (FloatKind.f64.nearest p.2))) :
    Calls Tryz.prog 86 #[.int .i32 r, .slice (some ⟨b, 0, none⟩) l.length c] w fun e w' => e = .returned (.bool (inSpans l r)) ∧ w' = w := by
  have HC := Lib.hid hcell
  clear hcell
  have HB := Lib.hid hb
  clear hb
  go_enter Tryz.func86, Tryz.ntmps86
  go_wp2
  go_loop [10] (fun i => ∃ k : Nat, k ≤ l.length ∧ i = .int .i64 k ∧ Hid (inSpans (l.take k) r = false)) (fun i => l.length - (intOf i).toNat)
  case atStart => exact ⟨0, Nat.zero_le _, rfl, Lib.hid rfl⟩
  case round =>
    obtain ⟨k, hk, rfl, HN⟩ := hrel
    by_cases hlt : k < l.length
    · obtain ⟨lo, hi, hp⟩ : ∃ lo hi, l[k]? = some (lo, hi) := ⟨_, _, List.getElem?_eq_getElem hlt⟩
      have hcell := HC.out k _ hp
      have hb1 := HB.out (lo, hi) (List.mem_of_getElem? hp)
      have o1 := Go.Proofs.YthedigbdkjcpfaaGreatDoor.Flt.order_nearest r lo (by omega) hb1.1
      have o2 := Go.Proofs.YthedigbdkjcpfaaGreatDoor.Flt.order_nearest r hi (by omega) hb1.2
      have HP := Lib.hid hp
      clear hp hb1 HC HB
      simp only at hcell
      rcases ord3 r lo with ⟨q1, p1⟩ | ⟨q1, q1', p1⟩ | ⟨q1, p1⟩ <;> rcases ord3 r hi with ⟨q2, p2⟩ | ⟨q2, q2', p2⟩ | ⟨q2, p2⟩
      all_goals
        rw [p1] at o1
        rw [p2] at o2
        clear p1 p2
        replace o1 : FloatKind.f64.format.order (floatOfInt .f64 r) (FloatKind.f64.nearest lo) = _ := o1
        replace o2 : FloatKind.f64.format.order (floatOfInt .f64 r) (FloatKind.f64.nearest hi) = _ := o2
        go_wp2
        all_goals first
        | (go_ret
           exact ⟨congrArg (fun b => Ending.returned (.bool b)) (inSpans_hit l r lo hi k HP.out (by omega) (by omega)).symm, rfl⟩)
        | exact ⟨⟨k + 1, by omega, by go_num, Lib.hid (inSpans_step l r lo hi k HP.out HN.out (by omega))⟩, by simp [intOf]; omega⟩
    · have hge : l.length ≤ k := by omega
      clear hlt
      go_wp2
      go_ret
      exact ⟨congrArg (fun b => Ending.returned (.bool b)) (inSpans_end l r k hge HN.out).symm, rfl⟩
theorem isCharL_small : ∀ p ∈ isCharL, p.1.natAbs < 2 ^ 53 ∧ p.2.natAbs < 2 ^ 53 := by decide
def isCharLCells : List Value := [.complex .f64 4621256167635550208 4621819117588971520, .complex .f64 4623507967449235456 4623507967449235456, .complex .f64 4629700416936869888 4677832500515438592, .complex .f64 4678114112931102720 4679239600521084928, .complex .f64 4679240012837945344 4697535882029170688]
theorem isCharL_cells : isCharL.map (fun p => Value.complex .f64 (FloatKind.f64.nearest p.1) (FloatKind.f64.nearest p.2)) = isCharLCells := by kernel_rfl
theorem beginsL_small : ∀ p ∈ beginsL, p.1.natAbs < 2 ^ 53 ∧ p.2.natAbs < 2 ^ 53 := by decide
def beginsLCells : List Value := [.complex .f64 4640959416005296128 4641733472191250432, .complex .f64 4641803840935428096 4642859372098093056, .complex .f64 4642929740842270720 4649957819167014912, .complex .f64 4650951777678524416 4651066126887813120, .complex .f64 4651083719073857536 4665728114444206080, .complex .f64 4665735811025600512 4665736360781414400, .complex .f64 4665790786606989312 4665948566525575168, .complex .f64 4667418063816097792 4667971667920683008, .complex .f64 4667981563525332992 4677832500515438592, .complex .f64 4678993722233323520 4679162909585047552, .complex .f64 4679167445070512128 4679239600521084928, .complex .f64 4679240012837945344 4696691452804071424]
theorem beginsL_cells : beginsL.map (fun p => Value.complex .f64 (FloatKind.f64.nearest p.1) (FloatKind.f64.nearest p.2)) = beginsLCells := by kernel_rfl
theorem goesOnL_small : ∀ p ∈ goesOnL, p.1.natAbs < 2 ^ 53 ∧ p.2.natAbs < 2 ^ 53 := by decide
def goesOnLCells : List Value := [.complex .f64 4649966615260037120 4650942981585502208, .complex .f64 4665763848572108800 4665764398327922688]
theorem goesOnL_cells : goesOnL.map (fun p => Value.complex .f64 (FloatKind.f64.nearest p.1) (FloatKind.f64.nearest p.2)) = goesOnLCells := by kernel_rfl

theorem cells_at (l : List (Int × Int)) (cs : List Value) (h : l.map (fun p => Value.complex .f64 (FloatKind.f64.nearest p.1) (FloatKind.f64.nearest p.2)) = cs) (w : World) (t : TypeId) (fz : Nat × Nat) (j : Nat) (p : Int × Int) (hj : l[j]? = some p) :
    (w.alloc (.cells cs.toArray t fz)).cell? ⟨w.heap.size, j, none⟩ = some (.complex .f64 (FloatKind.f64.nearest p.1) (FloatKind.f64.nearest p.2)) := by
  subst h
  rw [World.cell?_alloc_mark]
  simp [hj]
set_option maxRecDepth 100000 in
set_option maxHeartbeats 400000 in
theorem isChar_any (r : Int) (h0 : -2147483648 ≤ r) (h1 : r ≤ 2147483647) (w : World) :
    Calls Tryz.prog 50 #[.int .i32 r] w fun e w' => e = .returned (.bool (inSpans isCharL r)) ∧ Below w.heap.size w w' := by
  have HC : Hid (∀ j (p : Int × Int), isCharL[j]? = some p → (w.alloc (.cells isCharLCells.toArray 123 (0, 0))).cell? ⟨w.heap.size, j, none⟩ = _) := cells_at isCharL _ isCharL_cells w 123 (0, 0)
  go_enter Tryz.func50, Tryz.ntmps50
  go_wp2_with (go_at_call 86; refine (in_any r h0 h1 w.heap.size 5 isCharL _ (by decide) isCharL_small HC).mono ?_; rintro e w' ⟨rfl, rfl⟩)
  go_ret
  exact ⟨rfl, (Below.refl _ _).alloc (Nat.le_refl _) _⟩
def xchar_IsChar.f (a0 : Int) : Option Bool := if -2147483648 ≤ a0 ∧ a0 ≤ 2147483647 then some (inSpans isCharL a0) else none
theorem xchar_IsChar.calls (a0 : Int) (r : Bool) (w : World) (HL : Laid w) (h : xchar_IsChar.f a0 = some r) :
    Calls Tryz.prog 50 #[.int .i32 a0] w fun e w' => e = .returned (.bool r) ∧ Below w.heap.size w w' := by
  unfold xchar_IsChar.f at h
  split at h
  · rename_i hs
    obtain rfl := Option.some.inj h
    exact isChar_any a0 hs.1 hs.2 w
  · cases h

end Go.Proofs.YthedigbdkjcpfaaGreatDoor.Print
