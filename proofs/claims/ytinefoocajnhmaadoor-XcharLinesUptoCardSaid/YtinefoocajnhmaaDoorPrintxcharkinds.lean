-- Laid by xprint.py (ours), out of the seat's translation; Lean checks it.
import Derived.Test.YtinefoocajnhmaaDoorPrint0
import Derived.Laws.Cover2
import Derived.WalkLawsBesides
import Derived.Laws.IdiomStrings
import Derived.LoopTactic
import Derived.Lib.Hide
import Derived.Test.YtinefoocajnhmaaDoorFlt
import Derived.Test.YtinefoocajnhmaaDoorPlain
namespace Go.Proofs.YtinefoocajnhmaaDoor.Print
open Go.RowKit Go.Proofs.YtinefoocajnhmaaDoorW.PrintWords Go.Proofs.YtinefoocajnhmaaDoorW.PrintLast Go.Proofs.YtinefoocajnhmaaDoorW.PrintMore
attribute [local go_sem] max2_int min2_int max_two min_two max_three min_three max_four min_four   -- for this text's walks alone
open Go.Proofs.YtinefoocajnhmaaDoor.Plain
set_option linter.unusedVariables false
set_option linter.unusedSimpArgs false

-- GIVEN stencil/xchar.in making
-- GIVEN stencil/xchar.IsChar making
-- GIVEN stencil/xchar.Begins making
-- GIVEN stencil/xchar.GoesOn making
theorem ord3 (a b : Int) : (a < b ∧ compare a b = .lt) ∨ (a ≤ b ∧ b ≤ a ∧ compare a b = .eq) ∨ (b < a ∧ compare a b = .gt) := by
  rcases Go.Proofs.YtinefoocajnhmaaDoor.Flt.ord_cases a b with ⟨h, e⟩ | ⟨h, e⟩ | ⟨h, e⟩
  · exact .inl ⟨h, e⟩
  · exact .inr (.inl ⟨by omega, by omega, e⟩)
  · exact .inr (.inr ⟨h, e⟩)
set_option maxRecDepth 100000 in
set_option maxHeartbeats 400000 in
theorem in_any (r : Int) (h0 : -2147483648 ≤ r) (h1 : r ≤ 2147483647) (b c : Nat) (l : List (Int × Int)) (w : World) (hl : l.length ≤ 1000)
    (hb : ∀ p ∈ l, p.1.natAbs < 2 ^ 53 ∧ p.2.natAbs < 2 ^ 53)
    (hcell : ∀ j (p : Int × Int), l[j]? = some p → w.cell? ⟨b, j, none⟩ = some (.complex .f64 (FloatKind.f64.nearest p.1) (FloatKind.f64.nearest p.2))) :
    Calls Tryd.prog 63 #[.int .i32 r, .slice (some ⟨b, 0, none⟩) l.length c] w fun e w' => e = .returned (.bool (inSpans l r)) ∧ w' = w := by
  have HC := Lib.hid hcell
  clear hcell
  have HB := Lib.hid hb
  clear hb
  go_enter Tryd.func63, Tryd.ntmps63
  go_wp2
  go_loop [10] (fun i => ∃ k : Nat, k ≤ l.length ∧ i = .int .i64 k ∧ Hid (inSpans (l.take k) r = false)) (fun i => l.length - (intOf i).toNat)
  case atStart => exact ⟨0, Nat.zero_le _, rfl, Lib.hid rfl⟩
  case round =>
    obtain ⟨k, hk, rfl, HN⟩ := hrel
    by_cases hlt : k < l.length
    · obtain ⟨lo, hi, hp⟩ : ∃ lo hi, l[k]? = some (lo, hi) := ⟨_, _, List.getElem?_eq_getElem hlt⟩
      have hcell := HC.out k _ hp
      have hb1 := HB.out (lo, hi) (List.mem_of_getElem? hp)
      have o1 := Go.Proofs.YtinefoocajnhmaaDoor.Flt.order_nearest r lo (by omega) hb1.1
      have o2 := Go.Proofs.YtinefoocajnhmaaDoor.Flt.order_nearest r hi (by omega) hb1.2
      have HP := Lib.hid hp
      clear hp hb1 HC HB
      simp only at hcell
      rcases ord3 r lo with ⟨q1, p1⟩ | ⟨q1, q1', p1⟩ | ⟨q1, p1⟩ <;> rcases ord3 r hi with ⟨q2, p2⟩ | ⟨q2, q2', p2⟩ | ⟨q2, p2⟩
      all_goals
        rw [p1] at o1
        rw [p2] at o2
        clear p1 p2
        replace o1 : FloatKind.f64.format.order (floatOfInt .f64 r) (FloatKind.f64.nearest lo) = _ := o1
        replace o2 : FloatKind.f64.format.order (floatOfInt .f64 r) (FloatKind.f64.nearest hi) = _ := o2
        go_wp2
        all_goals first
        | (go_ret
           exact ⟨congrArg (fun b => Ending.returned (.bool b)) (inSpans_hit l r lo hi k HP.out (by omega) (by omega)).symm, rfl⟩)
        | exact ⟨⟨k + 1, by omega, by go_num, Lib.hid (inSpans_step l r lo hi k HP.out HN.out (by omega))⟩, by simp [intOf]; omega⟩
    · have hge : l.length ≤ k := by omega
      clear hlt
      go_wp2
      go_ret
      exact ⟨congrArg (fun b => Ending.returned (.bool b)) (inSpans_end l r k hge HN.out).symm, rfl⟩
theorem isCharL_small : ∀ p ∈ isCharL, p.1.natAbs < 2 ^ 53 ∧ p.2.natAbs < 2 ^ 53 := by decide
def isCharLCells : List Value := [.complex .f64 4621256167635550208 4621819117588971520, .complex .f64 4623507967449235456 4623507967449235456, .complex .f64 4629700416936869888 4677832500515438592, .complex .f64 4678114112931102720 4679239600521084928, .complex .f64 4679240012837945344 4697535882029170688]
theorem isCharL_cells : isCharL.map (fun p => Value.complex .f64 (FloatKind.f64.nearest p.1) (FloatKind.f64.nearest p.2)) = isCharLCells := by kernel_rfl
theorem beginsL_small : ∀ p ∈ beginsL, p.1.natAbs < 2 ^ 53 ∧ p.2.natAbs < 2 ^ 53 := by decide
def beginsLCells : List Value := [.complex .f64 4640959416005296128 4641733472191250432, .complex .f64 4641803840935428096 4642859372098093056, .complex .f64 4642929740842270720 4649957819167014912, .complex .f64 4650951777678524416 4651066126887813120, .complex .f64 4651083719073857536 4665728114444206080, .complex .f64 4665735811025600512 4665736360781414400, .complex .f64 4665790786606989312 4665948566525575168, .complex .f64 4667418063816097792 4667971667920683008, .complex .f64 4667981563525332992 4677832500515438592, .complex .f64 4678993722233323520 4679162909585047552, .complex .f64 4679167445070512128 4679239600521084928, .complex .f64 4679240012837945344 4696691452804071424]
theorem beginsL_cells : beginsL.map (fun p => Value.complex .f64 (FloatKind.f64.nearest p.1) (FloatKind.f64.nearest p.2)) = beginsLCells := by kernel_rfl
theorem goesOnL_small : ∀ p ∈ goesOnL, p.1.natAbs < 2 ^ 53 ∧ p.2.natAbs < 2 ^ 53 := by decide
def goesOnLCells : List Value := [.complex .f64 4649966615260037120 4650942981585502208, .complex .f64 4665763848572108800 4665764398327922688]
theorem goesOnL_cells : goesOnL.map (fun p => Value.complex .f64 (FloatKind.f64.nearest p.1) (FloatKind.f64.nearest p.2)) = goesOnLCells := by kernel_rfl

theorem cells_at (l : List (Int × Int)) (cs : List Value) (h : l.map (fun p => Value.complex .f64 (FloatKind.f64.nearest p.1) (FloatKind.f64.nearest p.2)) = cs) (w : World) (t : TypeId) (fz : Nat × Nat) (j : Nat) (p : Int × Int) (hj : l[j]? = some p) :
    (w.alloc (.cells cs.toArray t fz)).cell? ⟨w.heap.size, j, none⟩ = some (.complex .f64 (FloatKind.f64.nearest p.1) (FloatKind.f64.nearest p.2)) := by
  subst h
  rw [World.cell?_alloc_mark]
  simp [hj]
set_option maxRecDepth 100000 in
set_option maxHeartbeats 400000 in
theorem isChar_any (r : Int) (h0 : -2147483648 ≤ r) (h1 : r ≤ 2147483647) (w : World) :
    Calls Tryd.prog 30 #[.int .i32 r] w fun e w' => e = .returned (.bool (inSpans isCharL r)) ∧ Below w.heap.size w w' := by
  have HC : Hid (∀ j (p : Int × Int), isCharL[j]? = some p → (w.alloc (.cells isCharLCells.toArray 68 (0, 0))).cell? ⟨w.heap.size, j, none⟩ = _) := cells_at isCharL _ isCharL_cells w 68 (0, 0)
  go_enter Tryd.func30, Tryd.ntmps30
  go_wp2_with (go_at_call 63; refine (in_any r h0 h1 w.heap.size 5 isCharL _ (by decide) isCharL_small HC).mono ?_; rintro e w' ⟨rfl, rfl⟩)
  go_ret
  exact ⟨rfl, (Below.refl _ _).alloc (Nat.le_refl _) _⟩
set_option maxRecDepth 100000 in
set_option maxHeartbeats 400000 in
theorem begins_any (r : Int) (h0 : -2147483648 ≤ r) (h1 : r ≤ 2147483647) (w : World) :
    Calls Tryd.prog 34 #[.int .i32 r] w fun e w' => e = .returned (.bool (beginsS r)) ∧ Below w.heap.size w w' := by
  have HC : Hid (∀ j (p : Int × Int), beginsL[j]? = some p → (w.alloc (.cells beginsLCells.toArray 68 (0, 0))).cell? ⟨w.heap.size, j, none⟩ = _) := cells_at beginsL _ beginsL_cells w 68 (0, 0)
  by_cases hr : r < 128
  · have HF : Hid (beginsS r = asciiB r) := by show _ = _; unfold beginsS; rw [if_pos hr]
    clear HC
    have HA : Hid (asciiB r = (decide (97 ≤ r ∧ r ≤ 122) || decide (65 ≤ r ∧ r ≤ 90) || decide (r = 95))) := rfl
    go_enter Tryd.func34, Tryd.ntmps34
    go_wp2
    all_goals go_ret
    all_goals refine ⟨congrArg (fun b => Ending.returned (.bool b)) ?_, Below.refl _ _⟩
    all_goals rw [HF.out, HA.out]
    all_goals (rw [Bool.eq_iff_iff]; simp; omega)
  · have HF : Hid (beginsS r = inSpans beginsL r) := by show _ = _; unfold beginsS; rw [if_neg hr]
    have hr' : 128 ≤ r := by omega
    clear hr
    go_enter Tryd.func34, Tryd.ntmps34
    go_wp2_with (go_at_call 63; refine (in_any r h0 h1 w.heap.size 12 beginsL _ (by decide) beginsL_small HC).mono ?_; rintro e w' ⟨rfl, rfl⟩)
    go_ret
    exact ⟨congrArg (fun b => Ending.returned (.bool b)) HF.out.symm, (Below.refl _ _).alloc (Nat.le_refl _) _⟩

set_option maxRecDepth 100000 in
set_option maxHeartbeats 400000 in
theorem goesOn_any (r : Int) (h0 : -2147483648 ≤ r) (h1 : r ≤ 2147483647) (w : World) :
    Calls Tryd.prog 36 #[.int .i32 r] w fun e w' => e = .returned (.bool (goesOnS r)) ∧ Below w.heap.size w w' := by
  have HC : Hid (∀ (w : World) j (p : Int × Int), goesOnL[j]? = some p → (w.alloc (.cells goesOnLCells.toArray 68 (0, 0))).cell? ⟨w.heap.size, j, none⟩ = _) := fun w => cells_at goesOnL _ goesOnL_cells w 68 (0, 0)
  by_cases hb : beginsS r = true
  · have HF : Hid (goesOnS r = true) := by show _ = _; unfold goesOnS; rw [hb]; rfl
    clear HC
    go_enter Tryd.func36, Tryd.ntmps36
    go_wp2_with (go_at_call 34; refine (begins_any r h0 h1 _).mono ?_; rintro e w' ⟨rfl, hB⟩)
    all_goals go_ret
    all_goals exact ⟨congrArg (fun b => Ending.returned (.bool b)) HF.out.symm, hB⟩
  · have hb' : beginsS r = false := by simpa using hb
    clear hb
    by_cases ha : goesOnA r = true
    · have HF : Hid (goesOnS r = true) := by show _ = _; unfold goesOnS; rw [hb', ha]; rfl
      have HA : Hid (r = 45 ∨ r = 46 ∨ (48 ≤ r ∧ r ≤ 57) ∨ r = 183) := by
        show _ ∨ _
        unfold goesOnA at ha
        simpa [or_assoc] using ha
      clear ha HC
      go_enter Tryd.func36, Tryd.ntmps36
      rcases HA.out with h | h | ⟨h, h'⟩ | h
      · subst h
        go_wp2_with (go_at_call 34; refine (begins_any _ h0 h1 _).mono ?_; rintro e w' ⟨rfl, hB⟩)
        all_goals go_ret
        all_goals exact ⟨congrArg (fun b => Ending.returned (.bool b)) HF.out.symm, hB⟩
      · subst h
        go_wp2_with (go_at_call 34; refine (begins_any _ h0 h1 _).mono ?_; rintro e w' ⟨rfl, hB⟩)
        all_goals go_ret
        all_goals exact ⟨congrArg (fun b => Ending.returned (.bool b)) HF.out.symm, hB⟩
      · have f1 : (r == 45) = false := beq_eq_false_iff_ne.2 (by omega)
        have f2 : (r == 46) = false := beq_eq_false_iff_ne.2 (by omega)
        go_wp2_with (go_at_call 34; refine (begins_any _ h0 h1 _).mono ?_; rintro e w' ⟨rfl, hB⟩)
        all_goals go_ret
        all_goals exact ⟨congrArg (fun b => Ending.returned (.bool b)) HF.out.symm, hB⟩
      · subst h
        go_wp2_with (go_at_call 34; refine (begins_any _ h0 h1 _).mono ?_; rintro e w' ⟨rfl, hB⟩)
        all_goals go_ret
        all_goals exact ⟨congrArg (fun b => Ending.returned (.bool b)) HF.out.symm, hB⟩
    · have ha' : goesOnA r = false := by simpa using ha
      have HF : Hid (goesOnS r = inSpans goesOnL r) := by show _ = _; unfold goesOnS; rw [hb', ha']; rfl
      obtain ⟨f1, f2, f3, f4⟩ : (r == 45) = false ∧ (r == 46) = false ∧ (r < 48 ∨ 57 < r) ∧ (r == 183) = false := by
        unfold goesOnA at ha'
        simp at ha'
        refine ⟨beq_eq_false_iff_ne.2 (by omega), beq_eq_false_iff_ne.2 (by omega), by omega, beq_eq_false_iff_ne.2 (by omega)⟩
      clear ha ha'
      rcases f3 with f3 | f3
      all_goals
        go_enter Tryd.func36, Tryd.ntmps36
        go_wp2_with (first
          | (go_at_call 34; refine (begins_any _ h0 h1 _).mono ?_; rintro e w' ⟨rfl, hB⟩)
          | (go_at_call 63; refine (in_any r h0 h1 _ 2 goesOnL _ (by decide) goesOnL_small (HC _)).mono ?_; rintro e w' ⟨rfl, rfl⟩))
        all_goals go_ret
        all_goals first
          | exact ⟨congrArg (fun b => Ending.returned (.bool b)) HF.out.symm, hB.alloc hB.size _⟩
          | exact ⟨congrArg (fun b => Ending.returned (.bool b)) (by rw [HF.out, decide_eq_false (show ¬ r ≤ 57 from by omega)]; rfl), hB.alloc hB.size _⟩
def xchar_IsChar.f (a0 : Int) : Option Bool := if -2147483648 ≤ a0 ∧ a0 ≤ 2147483647 then some (inSpans isCharL a0) else none
theorem xchar_IsChar.calls (a0 : Int) (r : Bool) (w : World) (HL : Laid w) (h : xchar_IsChar.f a0 = some r) :
    Calls Tryd.prog 30 #[.int .i32 a0] w fun e w' => e = .returned (.bool r) ∧ Below w.heap.size w w' := by
  unfold xchar_IsChar.f at h
  split at h
  · rename_i hs
    obtain rfl := Option.some.inj h
    exact isChar_any a0 hs.1 hs.2 w
  · cases h
def xchar_Begins.f (a0 : Int) : Option Bool := if -2147483648 ≤ a0 ∧ a0 ≤ 2147483647 then some (beginsS a0) else none
theorem xchar_Begins.calls (a0 : Int) (r : Bool) (w : World) (HL : Laid w) (h : xchar_Begins.f a0 = some r) :
    Calls Tryd.prog 34 #[.int .i32 a0] w fun e w' => e = .returned (.bool r) ∧ Below w.heap.size w w' := by
  unfold xchar_Begins.f at h
  split at h
  · rename_i hs
    obtain rfl := Option.some.inj h
    exact begins_any a0 hs.1 hs.2 w
  · cases h
def xchar_GoesOn.f (a0 : Int) : Option Bool := if -2147483648 ≤ a0 ∧ a0 ≤ 2147483647 then some (goesOnS a0) else none
theorem xchar_GoesOn.calls (a0 : Int) (r : Bool) (w : World) (HL : Laid w) (h : xchar_GoesOn.f a0 = some r) :
    Calls Tryd.prog 36 #[.int .i32 a0] w fun e w' => e = .returned (.bool r) ∧ Below w.heap.size w w' := by
  unfold xchar_GoesOn.f at h
  split at h
  · rename_i hs
    obtain rfl := Option.some.inj h
    exact goesOn_any a0 hs.1 hs.2 w
  · cases h

end Go.Proofs.YtinefoocajnhmaaDoor.Print
