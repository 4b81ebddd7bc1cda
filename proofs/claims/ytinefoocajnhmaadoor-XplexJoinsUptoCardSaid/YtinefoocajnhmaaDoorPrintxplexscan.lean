-- Laid by xprint.py (ours), out of the seat's translation; Lean checks it.
import Derived.Test.YtinefoocajnhmaaDoorPrint0
import Derived.Test.YtinefoocajnhmaaDoorPrintxcharkinds
import Derived.Test.YtinefoocajnhmaaDoorPrintlibdecode
import Derived.Test.YtinefoocajnhmaaDoorPrintf83
import Derived.Test.YtinefoocajnhmaaDoorPrintlibtrimleft
import Derived.Test.YtinefoocajnhmaaDoorPrintf98
import Derived.Test.YtinefoocajnhmaaDoorPrintlibindex
import Derived.Test.YtinefoocajnhmaaDoorPrintxplexname
import Derived.Test.YtinefoocajnhmaaDoorPrintf78
import Derived.LoopTactic
import Derived.Deep.RegionHeld3
import Derived.Deep.QuietTactic
import Derived.BigQuiet
import Derived.WalkMore
import Derived.ScopeJumps
import Derived.Lib.Hide
import Derived.Test.YtinefoocajnhmaaDoorPlain
import Derived.Test.YtinefoocajnhmaaDoorPlainB
namespace Go.Proofs.YtinefoocajnhmaaDoor.Print
open Go.RowKit Go.Proofs.YtinefoocajnhmaaDoorW.PrintWords Go.Proofs.YtinefoocajnhmaaDoorW.PrintLast Go.Proofs.YtinefoocajnhmaaDoorW.PrintMore
attribute [local go_sem] max2_int min2_int max_two min_two max_three min_three max_four min_four   -- for this text's walks alone
open Go.Proofs.YtinefoocajnhmaaDoor.Plain
set_option linter.unusedVariables false
set_option linter.unusedSimpArgs false

-- GIVEN stencil/xplex.Scan making
/-- the scanner's block -/
def scnObj (s : ByteArray) (a : Nat) (v : Value) (n : Int) : Obj := .cells #[.string s, .int .i64 (a : Int), v, .int .i64 n] 60 (0, 0)
structure Scn (w0 W : World) (g : Nat) (s : ByteArray) (a : Nat) (v : Value) (L : List S30) (n : Int) : Prop where
  blk : W.heap[g]? = some (scnObj s a v n)
  ge : w0.heap.size ≤ g
  row : k30.R 30 W w0.heap.size (fun k => k ≠ g) v L
  bel : Below w0.heap.size w0 W
  laid : Laid w0
theorem Scn.cell0 {w0 W : World} {g : Nat} {s : ByteArray} {a : Nat} {v : Value} {L : List S30} {n : Int} (h : Scn w0 W g s a v L n) : W.cell? ⟨g, 0, none⟩ = some (.string s) := (blk_cell h.blk 0).trans rfl
theorem Scn.cell1 {w0 W : World} {g : Nat} {s : ByteArray} {a : Nat} {v : Value} {L : List S30} {n : Int} (h : Scn w0 W g s a v L n) : W.cell? ⟨g, 1, none⟩ = some (.int .i64 (a : Int)) := (blk_cell h.blk 1).trans rfl
theorem Scn.cell2 {w0 W : World} {g : Nat} {s : ByteArray} {a : Nat} {v : Value} {L : List S30} {n : Int} (h : Scn w0 W g s a v L n) : W.cell? ⟨g, 2, none⟩ = some v := (blk_cell h.blk 2).trans rfl
theorem Scn.cell3 {w0 W : World} {g : Nat} {s : ByteArray} {a : Nat} {v : Value} {L : List S30} {n : Int} (h : Scn w0 W g s a v L n) : W.cell? ⟨g, 3, none⟩ = some (.int .i64 n) := (blk_cell h.blk 3).trans rfl
theorem Scn.below {w0 W W1 : World} {g : Nat} {s : ByteArray} {a : Nat} {v : Value} {L : List S30} {n : Int} (h : Scn w0 W g s a v L n) (hb : Below W.heap.size W W1) : Scn w0 W1 g s a v L n :=
  ⟨(hb.block g (blk_lt h.blk)).trans h.blk, h.ge, Kd.R_below h.row hb, below_from h.bel h.bel.size hb, h.laid⟩
theorem Scn.drewN {w0 W : World} {g : Nat} {s : ByteArray} {a : Nat} {v : Value} {L : List S30} {n : Int} (h : Scn w0 W g s a v L n) (q : Nat) : Scn w0 (W.drewN q) g s a v L n :=
  ⟨h.blk, h.ge, Kd.R_drewN h.row q, pw_below_drewN h.bel q, h.laid⟩
theorem Scn.drew {w0 W : World} {g : Nat} {s : ByteArray} {a : Nat} {v : Value} {L : List S30} {n : Int} (h : Scn w0 W g s a v L n) : Scn w0 W.drew g s a v L n :=
  ⟨h.blk, h.ge, Kd.R_drew h.row, below_drew1 h.bel, h.laid⟩
theorem Scn.laid' {w0 W : World} {g : Nat} {s : ByteArray} {a : Nat} {v : Value} {L : List S30} {n : Int} (h : Scn w0 W g s a v L n) : Laid W := h.laid.below h.bel
theorem Scn.set1 {w0 W : World} {g : Nat} {s : ByteArray} {a : Nat} {v : Value} {L : List S30} {n : Int} (h : Scn w0 W g s a v L n) (a2 : Nat) : Scn w0 (W.setCell ⟨g, 1, none⟩ (.int .i64 (a2 : Int))) g s a2 v L n :=
  ⟨by simpa [scnObj] using blk_set h.blk 1 (.int .i64 (a2 : Int)), h.ge, Kd.R_far h.row (fun k hk => hk) _, below_set h.bel h.ge, h.laid⟩
theorem Scn.set3 {w0 W : World} {g : Nat} {s : ByteArray} {a : Nat} {v : Value} {L : List S30} {n : Int} (h : Scn w0 W g s a v L n) (n2 : Int) : Scn w0 (W.setCell ⟨g, 3, none⟩ (.int .i64 n2)) g s a v L n2 :=
  ⟨by simpa [scnObj] using blk_set h.blk 3 (.int .i64 n2), h.ge, Kd.R_far h.row (fun k hk => hk) _, below_set h.bel h.ge, h.laid⟩
set_option maxRecDepth 100000 in
set_option maxHeartbeats 1000000 in
theorem rest_any (w : World) (g : Nat) (s : ByteArray) (a : Nat) (h0 : w.cell? ⟨g, 0, none⟩ = some (.string s)) (h1 : w.cell? ⟨g, 1, none⟩ = some (.int .i64 (a : Int))) (ha : a ≤ s.size) :
    Calls Tryd.prog 74 #[.pointer (some ⟨g, 0, none⟩)] w fun e w' => e = .returned (.string (s.extract a s.size)) ∧ ∃ q, w' = w.drewN q := by
  have b0 : (0 : Int) ≤ (a : Int) := by omega
  have b1 : (a : Int) ≤ (s.size : Int) := by omega
  go_enter Tryd.func74, Tryd.ntmps74
  go_wp2
  repeat (go_quiet (fail); try go_wp2)
  go_ret
  exact ⟨by first | rfl | (simp; done), ⟨_, rfl⟩⟩
/-- what stands behind blanks -/
def trimB (s : ByteArray) : ByteArray := ⟨(Lib.trimLeftS s.data.toList [9, 10, 13, 32]).toArray⟩
theorem trimB_calls (x : ByteArray) (w : World) (HL : Laid w) : Calls Tryd.prog 73 #[.string x, .string ⟨#[9, 10, 13, 32]⟩] w fun e w' => e = .returned (.string (trimB x)) ∧ Below w.heap.size w w' :=
  strings_TrimLeft.calls x ⟨#[9, 10, 13, 32]⟩ (trimB x) w HL (by unfold strings_TrimLeft.f; rw [if_pos ⟨by decide, by decide⟩]; rfl)
set_option maxRecDepth 100000 in
set_option maxHeartbeats 4000000 in
theorem blanks_any (w0 w : World) (g : Nat) (s : ByteArray) (a : Nat) (v : Value) (L : List S30) (n : Int) (hS : Scn w0 w g s a v L n) (ha : a ≤ s.size) (a2 : Nat) (he : (s.size : Int) - (trimB (s.extract a s.size)).size = (a2 : Int)) (hs : s.size ≤ 1000000000) (hs2 : (trimB (s.extract a s.size)).size ≤ s.size) :
    Calls Tryd.prog 52 #[.pointer (some ⟨g, 0, none⟩)] w fun e w' => e = .returned (.tuple #[]) ∧ Scn w0 w' g s a2 v L n := by
  have c0 := hS.cell0
  go_enter Tryd.func52, Tryd.ntmps52
  go_wp2_with fail
  refine start_ (n := 14) (S := fun w' => w'.cell? ⟨g, 0, none⟩ = some (.string s) ∧ Scn w0 w' g s a v L n) (ds := [13]) #[false, false, false, false, false, false, false, false, false, false, false, false, false, false] (by kernel_rfl) rfl rfl ⟨hS.drew.cell0, hS.drew⟩ (fun hHeld => ?_)
  refine pure_ (i := 0) (N := some 2) (v := ?_) (a' := ?_) #[true, false, false, false, false, false, false, false, false, false, false, false, false, false] rfl rfl (by kernel_rfl) (fun _ _ _ h => h) (Or.inl ⟨by rfl, ?_⟩) ?_ ?_
  rotate_left
  · intro w'
    go_simp
    with_reducible rfl
  rotate_left
  · simp only [Act.put, List.setIfInBounds_toArray, List.set_cons_zero, List.set_cons_succ, i64_w, i32_w]
    rfl
  refine pure_ (i := 1) (N := some 3) (v := ?_) (a' := ?_) #[true, true, false, false, false, false, false, false, false, false, false, false, false, false] rfl rfl (by kernel_rfl) (fun _ _ _ h => h) (Or.inl ⟨by rfl, ?_⟩) ?_ ?_
  rotate_left
  · intro w'
    go_simp
    with_reducible rfl
  rotate_left
  · simp only [Act.put, List.setIfInBounds_toArray, List.set_cons_zero, List.set_cons_succ, i64_w, i32_w]
    rfl
  refine pure_ (i := 2) (N := some 4) (v := ?_) (a' := ?_) #[true, true, true, false, false, false, false, false, false, false, false, false, false, false] rfl rfl (by kernel_rfl) (fun _ _ _ h => h) (Or.inl ⟨by rfl, ?_⟩) ?_ ?_
  rotate_left
  · intro w'
    go_simp
    with_reducible rfl
  rotate_left
  · simp only [Act.put, List.setIfInBounds_toArray, List.set_cons_zero, List.set_cons_succ, i64_w, i32_w]
    rfl
  refine pure_ (i := 3) (N := some 5) (v := ?_) (a' := ?_) #[true, true, true, true, false, false, false, false, false, false, false, false, false, false] rfl rfl (by kernel_rfl) (fun _ _ _ h => h) (Or.inl ⟨by rfl, ?_⟩) ?_ ?_
  rotate_left
  · intro w'
    go_simp
    with_reducible rfl
  rotate_left
  · simp only [Act.put, List.setIfInBounds_toArray, List.set_cons_zero, List.set_cons_succ, i64_w, i32_w]
    rfl
  refine pure_ (i := 6) (N := some 8) (v := ?_) (a' := ?_) #[true, true, true, true, false, false, true, false, false, false, false, false, false, false] rfl rfl (by kernel_rfl) (fun _ _ _ h => h) (Or.inl ⟨by rfl, ?_⟩) ?_ ?_
  rotate_left
  · intro w'
    go_simp
    with_reducible rfl
  rotate_left
  · simp only [Act.put, List.setIfInBounds_toArray, List.set_cons_zero, List.set_cons_succ, i64_w, i32_w]
    rfl
  refine take_ (i := 4) (N := some 6) (v := ?_) (a' := ?_) #[true, true, true, true, true, false, true, false, false, false, false, false, false, false] rfl rfl (by kernel_rfl) (fun _ _ _ h => h) (Or.inl ⟨by rfl, ?_⟩) hHeld ?_ ?_
  rotate_left
  · rintro w' ⟨s0, s1⟩
    go_simp
    with_reducible rfl
  rotate_left
  · simp only [Act.put, List.setIfInBounds_toArray, List.set_cons_zero, List.set_cons_succ, i64_w, i32_w]
    rfl
  refine pure_ (i := 5) (N := some 7) (v := ?_) (a' := ?_) #[true, true, true, true, true, true, true, false, false, false, false, false, false, false] rfl rfl (by kernel_rfl) (fun _ _ _ h => h) (Or.inl ⟨by rfl, ?_⟩) ?_ ?_
  rotate_left
  · intro w'
    go_simp
    with_reducible rfl
  rotate_left
  · simp only [Act.put, List.setIfInBounds_toArray, List.set_cons_zero, List.set_cons_succ, i64_w, i32_w]
    rfl
  refine one_ (i := 7) (N := some 9) #[true, true, true, true, true, true, true, true, false, false, false, false, false, false] rfl rfl (by kernel_rfl) (by decide) (fun K hK => ?_)
  refine goes_ Tryd.func74 (by kernel_rfl) rfl #[.pointer (some ⟨g, 0, none⟩)] (by rfl) rfl rfl (by simp only [List.map_toArray, List.map_cons, List.map_nil]; rfl) ?_
  with_reducible refine (rest_any _ g s a hHeld.2.cell0 hHeld.2.cell1 ha).mono ?_
  rintro e w3 ⟨rfl, q3, rfl⟩
  refine ⟨_, rfl, ?_⟩
  refine hK.out _ _ ⟨(hHeld.2.drewN q3).cell0, hHeld.2.drewN q3⟩ (fun hHeld => ?_)
  clear hK K
  refine norm_ (a' := ?_) ?_ ?_
  rotate_left
  · show Act.put _ (some 9) _ = _
    simp only [Act.put, List.setIfInBounds_toArray, List.set_cons_zero, List.set_cons_succ, i64_w, i32_w]
    rfl
  refine one_ (i := 8) (N := some 10) #[true, true, true, true, true, true, true, true, true, false, false, false, false, false] rfl rfl (by kernel_rfl) (by decide) (fun K hK => ?_)
  refine goes_ Tryd.func73 (by kernel_rfl) rfl #[.string (s.extract a s.size), .string ⟨#[9, 10, 13, 32]⟩] (by rfl) rfl rfl (by simp only [List.map_toArray, List.map_cons, List.map_nil]; rfl) ?_
  with_reducible refine (trimB_calls _ _ hHeld.2.laid').mono ?_
  rintro e w4 ⟨rfl, hb⟩
  refine ⟨_, rfl, ?_⟩
  refine hK.out _ _ ⟨(hHeld.2.below hb).cell0, hHeld.2.below hb⟩ (fun hHeld => ?_)
  clear hK K
  refine norm_ (a' := ?_) ?_ ?_
  rotate_left
  · show Act.put _ (some 10) _ = _
    simp only [Act.put, List.setIfInBounds_toArray, List.set_cons_zero, List.set_cons_succ, i64_w, i32_w]
    rfl
  refine pure_ (i := 9) (N := some 11) (v := ?_) (a' := ?_) #[true, true, true, true, true, true, true, true, true, true, false, false, false, false] rfl rfl (by kernel_rfl) (fun _ _ _ h => h) (Or.inl ⟨by rfl, ?_⟩) ?_ ?_
  rotate_left
  · intro w'
    go_simp
    with_reducible rfl
  rotate_left
  · simp only [Act.put, List.setIfInBounds_toArray, List.set_cons_zero, List.set_cons_succ, i64_w, i32_w]
    rfl
  refine pure_ (i := 10) (N := some 12) (v := ?_) (a' := ?_) #[true, true, true, true, true, true, true, true, true, true, true, false, false, false] rfl rfl (by kernel_rfl) (fun _ _ _ h => h) (Or.inl ⟨by rfl, ?_⟩) ?_ ?_
  rotate_left
  · intro w'
    go_simp
    with_reducible rfl
  rotate_left
  · simp only [Act.put, List.setIfInBounds_toArray, List.set_cons_zero, List.set_cons_succ, i64_w, i32_w]
    rfl
  refine pure_ (i := 11) (N := some 13) (v := ?_) (a' := ?_) #[true, true, true, true, true, true, true, true, true, true, true, true, false, false] rfl rfl (by kernel_rfl) (fun _ _ _ h => h) (Or.inl ⟨by rfl, ?_⟩) ?_ ?_
  rotate_left
  · intro w'
    go_simp
    with_reducible rfl
  rotate_left
  · simp only [Act.put, List.setIfInBounds_toArray, List.set_cons_zero, List.set_cons_succ, i64_w, i32_w]
    rfl
  refine pure_ (i := 12) (N := some 14) (v := ?_) (a' := ?_) #[true, true, true, true, true, true, true, true, true, true, true, true, true, false] rfl rfl (by kernel_rfl) (fun _ _ _ h => h) (Or.inl ⟨by rfl, ?_⟩) ?_ ?_
  rotate_left
  · intro w'
    go_simp
    with_reducible rfl
  rotate_left
  · simp only [Act.put, List.setIfInBounds_toArray, List.set_cons_zero, List.set_cons_succ, i64_w, i32_w]
    rfl
  refine last_ (i := 13) (N := none) #[true, true, true, true, true, true, true, true, true, true, true, true, true, true] rfl rfl (by kernel_rfl) (by decide) (fun K hK => ?_)
  have hs1 := hHeld.2.cell1
  have hf1 := blk_frozen hHeld.2.blk 1
  refine skip_ (w1 := ?_) (by rfl) rfl ?_ ?_
  rotate_left
  · go_simp
    rfl
  refine hK.out _ _ ?_
  clear hK K
  refine done_ (by kernel_rfl) ?_
  have hw : wrap64 (a2 : Int) = (a2 : Int) := by unfold wrap64; omega
  rw [hw]
  go_end0
  exact ⟨rfl, hHeld.2.set1 a2⟩
theorem Scn.alloc {w0 W : World} {g : Nat} {s : ByteArray} {a : Nat} {v : Value} {L : List S30} {n : Int} (h : Scn w0 W g s a v L n) (o : Obj) : Scn w0 (W.alloc o) g s a v L n := h.below (below_alloc (Below.refl _ _) o)
theorem Scn.ne {w0 W : World} {g : Nat} {s : ByteArray} {a : Nat} {v : Value} {L : List S30} {n : Int} (h : Scn w0 W g s a v L n) : some g ≠ v.ownBlock := fun e => h.row.1 g e.symm rfl
theorem scnInfo : (Tryd.prog.info? 30).map (fun i => (i.zero, i.size, i.bytes)) = some (some (.agg #[.int .i64 0, .string ⟨#[]⟩, .int .i64 0]), 3, 32) := by kernel_rfl
theorem litReps (W : World) (base : Nat) (ok : Nat → Prop) : ∀ xs : List ByteArray, Reps (Kd.string.M W base ok) 1 xs (xs.map Value.string)
  | [] => Reps.none _ _
  | x :: t => Reps.one (show Kd.M Kd.string _ _ _ x [.string x] from rfl) (litReps W base ok t)
theorem litC (W : World) (xs : List ByteArray) (h : xs.length ≤ 1000) : Kd.C Kd.string (W.alloc (.cells (xs.map Value.string).toArray 9)) (some ⟨W.heap.size, 0, none⟩) xs.length xs := by
  refine (Kd.R_reads' (d := Kd.string) (e := 9) (base := 0) (ok := fun _ => True) (n := xs.length) (c := xs.length) ⟨fun _ _ => trivial, xs.map Value.string, ?_, litReps _ _ _ xs⟩).2.2
  have h2 := World.ownsRow_lit (base := 0) (e := 9) (size := 1) W (xs.map Value.string).toArray xs.length (Nat.zero_le _) (by simp only [maxLen]; omega) (by simp)
  have h3 : (W.alloc (.cells (xs.map Value.string).toArray 9)).ownsRow 0 9 1 (.slice (some ⟨W.heap.size, 0, none⟩) xs.length xs.length) xs.length (xs.map Value.string) := by simpa using h2
  exact h3
def memB (x : ByteArray) (xs : List ByteArray) : Bool := xs.any fun y => x.data.toList == y.data.toList
theorem index_l0 (x : ByteArray) : ∀ (m l : List ByteArray) (j k : Nat), l.drop j = m → j ≤ l.length → l.length ≤ 1000 → m.length < k →
    ∃ r : Int, slices_Index_string_string.l0 k l x (l.length : Int) (j : Int) = some r ∧ decide (r ≥ 0) = memB x m := by
  intro m
  induction m with
  | nil =>
    intro l j k hd hj hl hk
    obtain ⟨k, rfl⟩ : ∃ n, k = n + 1 := ⟨k - 1, by omega⟩
    have hlen : l.length ≤ j := by have := congrArg List.length hd; simp at this; omega
    refine ⟨-1, ?_, by simp [memB]⟩
    simp only [slices_Index_string_string.l0]
    rw [if_neg (by omega)]
  | cons y t ih =>
    intro l j k hd hj hl hk
    obtain ⟨k, rfl⟩ : ∃ n, k = n + 1 := ⟨k - 1, by omega⟩
    have hlen : l.length = j + (t.length + 1) := by have := congrArg List.length hd; simp at this; omega
    have hy : rdOf ByteArray.empty l (j : Int) = y := by
      have h1 : l[j]? = some y := by rw [← List.head?_drop, hd]; rfl
      simp [rdOf, List.getD, h1]
    have hd2 : l.drop (j + 1) = t := by rw [← List.drop_drop, hd]; rfl
    simp only [slices_Index_string_string.l0]
    rw [if_pos (by omega), if_pos (by omega), if_pos (by omega), hy]
    by_cases hx : x = y
    · subst hx
      exact ⟨j, by rw [if_pos rfl], by simp [memB]⟩
    · have hne : x.toList ≠ y.toList := fun e => hx (by
        have h1 : x.data.toList = y.data.toList := by rw [← Lib.toList_data x, ← Lib.toList_data y, e]
        cases x; cases y; simp at h1; simp [h1])
      rw [if_neg hne]
      have hw : wrap64 ((j : Int) + 1) = ((j + 1 : Nat) : Int) := by unfold wrap64; omega
      rw [hw]
      obtain ⟨r, hr, he⟩ := ih l (j + 1) k hd2 (by omega) hl (by simp at hk; omega)
      exact ⟨r, hr, by rw [he]; have h2 : (x.data.toList == y.data.toList) = false := beq_eq_false_iff_ne.2 (fun e => hne (by rw [Lib.toList_data, Lib.toList_data, e])); simp only [memB, List.any_cons, h2, Bool.false_or]⟩
theorem contains_any (W : World) (xs : List ByteArray) (hx : xs.length ≤ 1000) (t : ByteArray) (HL : Laid W) :
    Calls Tryd.prog 99 #[.slice (some ⟨W.heap.size, 0, none⟩) xs.length xs.length, .string t] (W.alloc (.cells (xs.map Value.string).toArray 9)) fun e w' => e = .returned (.bool (memB t xs)) ∧ Drawn0 (W.alloc (.cells (xs.map Value.string).toArray 9)) w' := by
  obtain ⟨r, hr, he⟩ := index_l0 t xs xs 0 (xs.length + 1) rfl (Nat.zero_le _) hx (by omega)
  refine slices_Contains_string_string.calls (xs.length + 1) _ _ xs t _ _ (litC W xs hx) (Nat.le_refl _) (HL.below (below_alloc (Below.refl _ _) _)) ?_
  unfold slices_Contains_string_string.f slices_Index_string_string.f
  have hr' : slices_Index_string_string.l0 (xs.length + 1) xs t (xs.length : Int) 0 = some r := hr
  rw [hr', Option.bind_some, he]
def signsOpen : List ByteArray := [⟨#[64]⟩, ⟨#[58, 58]⟩, ⟨#[40]⟩, ⟨#[91]⟩, ⟨#[44]⟩]
theorem contains5 (W : World) (N : Nat) (hN : W.heap.size = N) (t : ByteArray) (HL : Laid W) (b : Bool) (hb : memB t signsOpen = b) :
    Calls Tryd.prog 99 #[.slice (some ⟨N, 0, none⟩) 5 5, .string t] (W.alloc (.cells #[.string ⟨#[64]⟩, .string ⟨#[58, 58]⟩, .string ⟨#[40]⟩, .string ⟨#[91]⟩, .string ⟨#[44]⟩] 9)) fun e w' => e = .returned (.bool b) ∧ ∃ q, w' = (W.alloc (.cells #[.string ⟨#[64]⟩, .string ⟨#[58, 58]⟩, .string ⟨#[40]⟩, .string ⟨#[91]⟩, .string ⟨#[44]⟩] 9)).drewN q := by
  subst hN hb
  have h := contains_any W signsOpen (by decide) t HL
  simp only [signsOpen, List.length_cons, List.length_nil, List.map_cons, List.map_nil] at h
  refine h.mono ?_
  rintro e w' ⟨rfl, ⟨q, rfl⟩⟩
  exact ⟨rfl, q, rfl⟩
def nextOf (k : Int) (t : ByteArray) : Int := if k = 8 then 0 else if k = 9 ∧ memB t signsOpen = true then 0 else 1
set_option maxRecDepth 100000 in
set_option maxHeartbeats 8000000 in
theorem add_any (w0 w : World) (g : Nat) (s : ByteArray) (a : Nat) (v : Value) (L : List S30) (n : Int) (hS : Scn w0 w g s a v L n) (kk : Int) (tx : ByteArray) (m : Nat) (hl : (L.length + 1) * 32 ≤ 140737488355328) (ham : a + m ≤ 1000000000) :
    Calls Tryd.prog 76 #[.pointer (some ⟨g, 0, none⟩), .int .i64 kk, .string tx, .int .i64 (m : Int)] w fun e w' => e = .returned (.tuple #[]) ∧ ∃ v', Scn w0 w' g s (a + m) v' (L ++ [⟨kk, tx, (a : Int)⟩]) (nextOf kk tx) := by
  have aP : k30.M w.drew w0.heap.size (fun _ => False) (⟨kk, tx, (a : Int)⟩ : S30) [.int .i64 kk, .string tx, .int .i64 (a : Int)] :=
    ⟨[.int .i64 kk], [.string tx, .int .i64 (a : Int)], rfl, rfl, ⟨[.string tx], [.int .i64 (a : Int)], rfl, rfl, rfl⟩⟩
  have aF : ∀ k, w.drew.heap.size ≤ k → k ≠ g := fun k hk => by have := blk_lt hS.drew.blk; omega
  have aL : (L.length + 1) * 32 ≤ 140737488355328 := hl
  have hw : wrap64 ((a : Int) + (m : Int)) = ((a + m : Nat) : Int) := by unfold wrap64; omega
  have HW := Lib.hid hw
  clear hw
  go_enter Tryd.func76, Tryd.ntmps76
  go_wp2_with fail
  refine start_ (n := 17) (S := fun w' => w'.cell? ⟨g, 1, none⟩ = some (.int .i64 (a : Int)) ∧ w'.cell? ⟨g, 2, none⟩ = some v ∧ w'.heap[g]? = some (scnObj s a v n)) (ds := [16]) #[false, false, false, false, false, false, false, false, false, false, false, false, false, false, false, false, false] (by kernel_rfl) rfl rfl ⟨hS.drew.cell1, hS.drew.cell2, hS.drew.blk⟩ (fun hHeld => ?_)
  refine pure_ (i := 0) (N := some 8) (v := ?_) (a' := ?_) #[true, false, false, false, false, false, false, false, false, false, false, false, false, false, false, false, false] rfl rfl (by kernel_rfl) (fun _ _ _ h => h) (Or.inl ⟨by rfl, ?_⟩) ?_ ?_
  rotate_left
  · intro w'
    go_simp
    with_reducible rfl
  rotate_left
  · simp only [Act.put, List.setIfInBounds_toArray, List.set_cons_zero, List.set_cons_succ, i64_w, i32_w]
    rfl
  refine pure_ (i := 1) (N := some 9) (v := ?_) (a' := ?_) #[true, true, false, false, false, false, false, false, false, false, false, false, false, false, false, false, false] rfl rfl (by kernel_rfl) (fun _ _ _ h => h) (Or.inl ⟨by rfl, ?_⟩) ?_ ?_
  rotate_left
  · intro w'
    go_simp
    with_reducible rfl
  rotate_left
  · simp only [Act.put, List.setIfInBounds_toArray, List.set_cons_zero, List.set_cons_succ, i64_w, i32_w]
    rfl
  refine pure_ (i := 2) (N := some 10) (v := ?_) (a' := ?_) #[true, true, true, false, false, false, false, false, false, false, false, false, false, false, false, false, false] rfl rfl (by kernel_rfl) (fun _ _ _ h => h) (Or.inl ⟨by rfl, ?_⟩) ?_ ?_
  rotate_left
  · intro w'
    go_simp
    with_reducible rfl
  rotate_left
  · simp only [Act.put, List.setIfInBounds_toArray, List.set_cons_zero, List.set_cons_succ, i64_w, i32_w]
    rfl
  refine pure_ (i := 3) (N := some 11) (v := ?_) (a' := ?_) #[true, true, true, true, false, false, false, false, false, false, false, false, false, false, false, false, false] rfl rfl (by kernel_rfl) (fun _ _ _ h => h) (Or.inl ⟨by rfl, ?_⟩) ?_ ?_
  rotate_left
  · intro w'
    go_simp
    with_reducible rfl
  rotate_left
  · simp only [Act.put, List.setIfInBounds_toArray, List.set_cons_zero, List.set_cons_succ, i64_w, i32_w]
    rfl
  refine pure_ (i := 5) (N := some 13) (v := ?_) (a' := ?_) #[true, true, true, true, false, true, false, false, false, false, false, false, false, false, false, false, false] rfl rfl (by kernel_rfl) (fun _ _ _ h => h) (Or.inl ⟨by rfl, ?_⟩) ?_ ?_
  rotate_left
  · intro w'
    go_simp
    with_reducible rfl
  rotate_left
  · simp only [Act.put, List.setIfInBounds_toArray, List.set_cons_zero, List.set_cons_succ, i64_w, i32_w]
    rfl
  refine pure_ (i := 6) (N := some 14) (v := ?_) (a' := ?_) #[true, true, true, true, false, true, true, false, false, false, false, false, false, false, false, false, false] rfl rfl (by kernel_rfl) (fun _ _ _ h => h) (Or.inl ⟨by rfl, ?_⟩) ?_ ?_
  rotate_left
  · intro w'
    go_simp
    with_reducible rfl
  rotate_left
  · simp only [Act.put, List.setIfInBounds_toArray, List.set_cons_zero, List.set_cons_succ, i64_w, i32_w]
    rfl
  refine pure_ (i := 7) (N := some 15) (v := ?_) (a' := ?_) #[true, true, true, true, false, true, true, true, false, false, false, false, false, false, false, false, false] rfl rfl (by kernel_rfl) (fun _ _ _ h => h) (Or.inl ⟨by rfl, ?_⟩) ?_ ?_
  rotate_left
  · intro w'
    go_simp
    with_reducible rfl
  rotate_left
  · simp only [Act.put, List.setIfInBounds_toArray, List.set_cons_zero, List.set_cons_succ, i64_w, i32_w]
    rfl
  refine pure_ (i := 8) (N := some 16) (v := ?_) (a' := ?_) #[true, true, true, true, false, true, true, true, true, false, false, false, false, false, false, false, false] rfl rfl (by kernel_rfl) (fun _ _ _ h => h) (Or.inl ⟨by rfl, ?_⟩) ?_ ?_
  rotate_left
  · intro w'
    go_simp
    with_reducible rfl
  rotate_left
  · simp only [Act.put, List.setIfInBounds_toArray, List.set_cons_zero, List.set_cons_succ, i64_w, i32_w]
    rfl
  refine pure_ (i := 9) (N := some 17) (v := ?_) (a' := ?_) #[true, true, true, true, false, true, true, true, true, true, false, false, false, false, false, false, false] rfl rfl (by kernel_rfl) (fun _ _ _ h => h) (Or.inl ⟨by rfl, ?_⟩) ?_ ?_
  rotate_left
  · intro w'
    go_simp
    with_reducible rfl
  rotate_left
  · simp only [Act.put, List.setIfInBounds_toArray, List.set_cons_zero, List.set_cons_succ, i64_w, i32_w]
    rfl
  refine take_ (i := 4) (N := some 12) (v := ?_) (a' := ?_) #[true, true, true, true, true, true, true, true, true, true, false, false, false, false, false, false, false] rfl rfl (by kernel_rfl) (fun _ _ _ h => h) (Or.inl ⟨by rfl, ?_⟩) hHeld ?_ ?_
  rotate_left
  · rintro w' ⟨s0, s1, s2⟩
    go_simp
    with_reducible rfl
  rotate_left
  · simp only [Act.put, List.setIfInBounds_toArray, List.set_cons_zero, List.set_cons_succ, i64_w, i32_w]
    rfl
  refine take_ (i := 10) (N := some 18) (v := ?_) (a' := ?_) #[true, true, true, true, true, true, true, true, true, true, true, false, false, false, false, false, false] rfl rfl (by kernel_rfl) (fun _ _ _ h => h) (Or.inl ⟨by rfl, ?_⟩) hHeld ?_ ?_
  rotate_left
  · rintro w' ⟨s0, s1, s2⟩
    go_simp
    with_reducible rfl
  rotate_left
  · simp only [Act.put, List.setIfInBounds_toArray, List.set_cons_zero, List.set_cons_succ, i64_w, i32_w]
    rfl
  refine pure_ (i := 11) (N := some 19) (v := ?_) (a' := ?_) #[true, true, true, true, true, true, true, true, true, true, true, true, false, false, false, false, false] rfl rfl (by kernel_rfl) (fun _ _ _ h => h) (Or.inl ⟨by rfl, ?_⟩) ?_ ?_
  rotate_left
  · intro w'
    go_simp
    with_reducible rfl
  rotate_left
  · simp only [Act.put, List.setIfInBounds_toArray, List.set_cons_zero, List.set_cons_succ, i64_w, i32_w]
    rfl
  refine one_ (i := 12) (N := some 20) #[true, true, true, true, true, true, true, true, true, true, true, true, true, false, false, false, false] rfl rfl (by kernel_rfl) (by decide) (fun K hK => ?_)
  have hA := hS.drew.alloc (.cells #[.int .i64 kk, .string tx, .int .i64 (a : Int)] 30)
  refine value_ (w1 := ?_) (v := ?_) (by rfl) rfl ?_ ?_
  rotate_left 2
  · go_simp
    constructor
    · rfl
    · rfl
  refine hK.out _ _ ⟨hA.cell1, hA.cell2, hA.blk⟩ (fun hHeld => ?_)
  clear hK K
  refine norm_ (a' := ?_) ?_ ?_
  rotate_left
  · show Act.put _ (some 20) _ = _
    simp only [Act.put, List.setIfInBounds_toArray, List.set_cons_zero, List.set_cons_succ, i64_w, i32_w]
    rfl
  refine one_ (i := 13) (N := some 21) #[true, true, true, true, true, true, true, true, true, true, true, true, true, true, false, false, false] rfl rfl (by kernel_rfl) (by decide) (fun K hK => ?_)
  refine Kd.R_append_step k30 (w0 := w0) (W := w.drew) w0.heap.size (by rfl) (.tmp 12) (.tmp 20) 22 30 _ 32 (by rfl) Tryd.underlying22 scnInfo (by rfl) (by decide) (by omega) v L ⟨kk, tx, (a : Int)⟩ [.int .i64 kk, .string tx, .int .i64 (a : Int)] (fun k => k ≠ g) (fun _ => False) (by rfl) (by rfl) ?aP (fun _ hk => hk.elim) ?aF hS.drew.row hS.drew.bel hS.drew.bel.size ?aL ?_
  case aP => exact aP
  case aF => exact aF
  case aL => exact aL
  intro v1 w1 hown1 hb1 hg1 hat1
  have hB1 := blk_grown hS.drew.blk hg1 hS.drew.ne
  obtain ⟨A1, c1, hv1⟩ := Kd.R_slice hown1
  rw [List.length_append, List.length_singleton] at hv1
  subst hv1
  refine hK.out _ _ ⟨(blk_cell hB1 1).trans rfl, (blk_cell hB1 2).trans rfl, hB1⟩ (fun hHeld => ?_)
  clear hK K
  refine norm_ (a' := ?_) ?_ ?_
  rotate_left
  · show Act.put _ (some 21) _ = _
    simp only [Act.put, List.setIfInBounds_toArray, List.set_cons_zero, List.set_cons_succ, i64_w, i32_w]
    rfl
  refine pure_ (i := 14) (N := some 22) (v := ?_) (a' := ?_) #[true, true, true, true, true, true, true, true, true, true, true, true, true, true, true, false, false] rfl rfl (by kernel_rfl) (fun _ _ _ h => h) (Or.inl ⟨by rfl, ?_⟩) ?_ ?_
  rotate_left
  · intro w'
    go_simp
    with_reducible rfl
  rotate_left
  · simp only [Act.put, List.setIfInBounds_toArray, List.set_cons_zero, List.set_cons_succ, i64_w, i32_w]
    rfl
  refine pure_ (i := 15) (N := some 23) (v := ?_) (a' := ?_) #[true, true, true, true, true, true, true, true, true, true, true, true, true, true, true, true, false] rfl rfl (by kernel_rfl) (fun _ _ _ h => h) (Or.inl ⟨by rfl, ?_⟩) ?_ ?_
  rotate_left
  · intro w'
    go_simp
    with_reducible rfl
  rotate_left
  · simp only [Act.put, List.setIfInBounds_toArray, List.set_cons_zero, List.set_cons_succ, i64_w, i32_w]
    rfl
  refine last_ (i := 16) (N := none) #[true, true, true, true, true, true, true, true, true, true, true, true, true, true, true, true, true] rfl rfl (by kernel_rfl) (by decide) (fun K hK => ?_)
  have hs1 := hHeld.2.1
  have hf1 := blk_frozen hHeld.2.2 2
  refine skip_ (w1 := ?_) (by rfl) rfl ?_ ?_
  rotate_left
  · go_simp
    rfl
  refine hK.out _ _ ?_
  clear hK K
  refine done_ (by kernel_rfl) ?_
  have h1 : Scn w0 (w1.setCell ⟨g, 2, none⟩ (.slice A1 (L.length + 1) c1)) g s a (.slice A1 (L.length + 1) c1) (L ++ [⟨kk, tx, (a : Int)⟩]) n :=
    ⟨by simpa [scnObj] using blk_set hB1 2 (.slice A1 (L.length + 1) c1), hS.ge, Kd.R_far hown1 (fun k hk => hk) _, below_set hb1 hS.ge, hS.laid⟩
  clear hs1 hf1 hHeld hB1 hown1 hb1 hg1 hat1 hA aP aF aL
  obtain ⟨W2, hW2⟩ : ∃ W2, w1.setCell ⟨g, 2, none⟩ (.slice A1 (L.length + 1) c1) = W2 := ⟨_, rfl⟩
  rw [hW2] at h1 ⊢
  clear hW2
  have d1 := h1.cell1
  have d2 := blk_frozen h1.blk 1
  have d3 := blk_frozen h1.blk 3
  have d4 := h1.cell3
  have HS1 := Lib.hid h1
  clear hS h1 ham hl
  by_cases h8 : kk = 8
  · have HN : Hid (nextOf kk tx = 0) := by show _ = _; rw [nextOf, if_pos h8]
    have e8 : (kk == 8) = true := beq_iff_eq.2 h8
    clear h8
    go_wp2
    rw [HW.out]
    go_end0
    exact ⟨rfl, _, by rw [HN.out]; exact ((HS1.out.set1 (a + m)).set3 1).set3 0⟩
  · have e8 : (kk == 8) = false := beq_eq_false_iff_ne.2 h8
    by_cases h9 : kk = 9
    · obtain ⟨b, hb⟩ : ∃ b, memB tx signsOpen = b := ⟨_, rfl⟩
      have HN : Hid (nextOf kk tx = if b = true then 0 else 1) := by
        show _ = _
        rw [nextOf, if_neg h8, hb]
        simp [h9]
      have e9 : (kk == 9) = true := beq_iff_eq.2 h9
      have HL2 := HS1.out.laid'
      clear h8 h9
      have key : ∀ q w', w' = (((W2.setCell ⟨g, 1, none⟩ (.int .i64 (wrap64 ((a : Int) + (m : Int))))).setCell ⟨g, 3, none⟩ (.int .i64 1)).alloc (.cells #[.string ⟨#[64]⟩, .string ⟨#[58, 58]⟩, .string ⟨#[40]⟩, .string ⟨#[91]⟩, .string ⟨#[44]⟩] 9)).drewN q →
          Scn w0 w' g s (a + m) (.slice A1 (L.length + 1) c1) (L ++ [⟨kk, tx, (a : Int)⟩]) 1 := by
        intro q w' e
        subst e
        rw [HW.out]
        exact (((HS1.out.set1 (a + m)).set3 1).alloc _).drewN _
      have HK := Lib.hid key
      clear key
      cases b
      · go_wp2_with (go_at_call 99; refine (contains5 _ _ (by simp) tx ?hL _ hb).mono ?_; (case hL => exact HS1.out.laid.below (below_set (below_set HS1.out.bel HS1.out.ge) HS1.out.ge)); rintro e w' ⟨rfl, q, hq⟩; have h3 := HK.out q _ hq; clear hq)
        go_end0
        exact ⟨rfl, _, by rw [HN.out]; exact h3⟩
      · go_wp2_with (go_at_call 99; refine (contains5 _ _ (by simp) tx ?hL _ hb).mono ?_; (case hL => exact HS1.out.laid.below (below_set (below_set HS1.out.bel HS1.out.ge) HS1.out.ge)); rintro e w' ⟨rfl, q, hq⟩; have h3 := HK.out q _ hq; clear hq; have d5 := h3.cell3; have d6 := blk_frozen h3.blk 3)
        go_end0
        exact ⟨rfl, _, by rw [HN.out]; exact h3.set3 0⟩
    · have HN : Hid (nextOf kk tx = 1) := by show _ = _; rw [nextOf, if_neg h8, if_neg (fun h => h9 h.1)]
      have e9 : (kk == 9) = false := beq_eq_false_iff_ne.2 h9
      clear h8 h9
      go_wp2
      rw [HW.out]
      go_end0
      exact ⟨rfl, _, by rw [HN.out]; exact (HS1.out.set1 (a + m)).set3 1⟩
/-! ### the lengths that the scanner reckons, of lists -/
def hasL (l p : List UInt8) : Bool := l.take p.length == p
def digitsL (l : List UInt8) : Nat := l.length - (Lib.trimLeftS l [48, 49, 50, 51, 52, 53, 54, 55, 56, 57]).length
def numberL (l : List UInt8) : Nat :=
  if hasL (l.drop (digitsL l)) [46] = true then
    if digitsL l + digitsL (l.drop (digitsL l + 1)) = 0 then 0 else digitsL l + 1 + digitsL (l.drop (digitsL l + 1))
  else digitsL l
def qnameL (l : List UInt8) : Nat :=
  if 0 < nameL l.length l 0 ∧ hasL (l.drop (nameL l.length l 0)) [58] = true ∧ 0 < nameL (l.drop (nameL l.length l 0 + 1)).length (l.drop (nameL l.length l 0 + 1)) 0 then
    nameL l.length l 0 + 1 + nameL (l.drop (nameL l.length l 0 + 1)).length (l.drop (nameL l.length l 0 + 1)) 0
  else nameL l.length l 0
theorem sz (s : ByteArray) : s.data.toList.length = s.size := by rw [Array.length_toList]; rfl
theorem ext_drop (s : ByteArray) (a : Nat) : (s.extract a s.size).data.toList = s.data.toList.drop a := by
  rw [Lib.extract_data, List.take_of_length_le (by rw [List.length_drop, sz]; omega)]
theorem ext_size (s : ByteArray) (a : Nat) (h : a ≤ s.size) : (s.extract a s.size).size = s.size - a := by rw [← sz, ext_drop, List.length_drop, sz]
theorem hasPrefix_f (x p : ByteArray) : strings_HasPrefix.f x p = some (hasL x.data.toList p.data.toList) := by
  have hx := sz x
  have hp := sz p
  have e : stringslite_HasPrefix.f x p = some (hasL x.data.toList p.data.toList) := by
    unfold stringslite_HasPrefix.f
    by_cases h : (x.size : Int) ≥ (p.size : Int)
    · rw [if_pos h, if_pos (by omega), if_pos (by omega), Int.toNat_natCast]
      congr 1
      rw [Lib.toList_data, Lib.toList_data, Lib.extract_data, List.drop_zero, Nat.sub_zero, hasL, hp]
    · rw [if_neg h]
      congr 1
      symm
      rw [hasL, List.take_of_length_le (by omega)]
      exact beq_eq_false_iff_ne.2 fun e => by have := congrArg List.length e; omega
  unfold strings_HasPrefix.f
  rw [e]; rfl
theorem trim_le (l cs : List UInt8) : (Lib.trimLeftS l cs).length ≤ l.length := (List.dropWhile_sublist _).length_le
theorem digits_f (x : ByteArray) (h : x.size ≤ 1000000000) : xplex_digits.f x = some (digitsL x.data.toList : Int) := by
  have ht := trim_le x.data.toList [48, 49, 50, 51, 52, 53, 54, 55, 56, 57]
  have hx := sz x
  unfold xplex_digits.f strings_TrimLeft.f
  rw [if_pos ⟨by decide, by decide⟩]
  simp only [Option.bind_some, digitsL]
  congr 1
  have e : (⟨(Lib.trimLeftS x.data.toList [48, 49, 50, 51, 52, 53, 54, 55, 56, 57]).toArray⟩ : ByteArray).size = (Lib.trimLeftS x.data.toList [48, 49, 50, 51, 52, 53, 54, 55, 56, 57]).length := by rw [← sz]
  show wrap64 ((x.size : Int) - ((⟨(Lib.trimLeftS x.data.toList [48, 49, 50, 51, 52, 53, 54, 55, 56, 57]).toArray⟩ : ByteArray).size : Int)) = _
  rw [e]
  unfold wrap64
  omega
theorem digits_le (l : List UInt8) : digitsL l ≤ l.length := by unfold digitsL; omega
theorem number_f (x : ByteArray) (h : x.size ≤ 1000000000) : xplex_number.f x = some (numberL x.data.toList : Int) := by
  have hx := sz x
  have hd := digits_le x.data.toList
  have hd2 := digits_le (x.data.toList.drop (digitsL x.data.toList + 1))
  rw [List.length_drop] at hd2
  obtain ⟨D, hD⟩ : ∃ D, digitsL x.data.toList = D := ⟨_, rfl⟩
  unfold xplex_number.f numberL
  rw [digits_f x h, Option.bind_some]
  rw [hD] at hd hd2 ⊢
  obtain ⟨E, hE⟩ : ∃ E, digitsL (x.data.toList.drop (D + 1)) = E := ⟨_, rfl⟩
  rw [hE] at hd2 ⊢
  rw [if_pos (by omega), if_pos (by omega), hasPrefix_f, Option.bind_some, Int.toNat_natCast, ext_drop]
  by_cases hp : hasL (x.data.toList.drop D) [46] = true
  · have hlt : D < x.size := by
      refine Nat.lt_of_not_le fun hge => ?_
      rw [List.drop_of_length_le (by omega)] at hp
      simp [hasL] at hp
    have hw : wrap64 ((D : Int) + 1) = ((D + 1 : Nat) : Int) := by unfold wrap64; omega
    rw [if_pos hp, if_pos hp, hw, if_pos (by omega), if_pos (by omega), Int.toNat_natCast, digits_f _ (by rw [ext_size _ _ (by omega)]; omega), ext_drop, hE, Option.bind_some]
    have hw2 : wrap64 ((D : Int) + (E : Int)) = ((D + E : Nat) : Int) := by unfold wrap64; omega
    have hw3 : wrap64 (((D + 1 : Nat) : Int) + (E : Int)) = ((D + 1 + E : Nat) : Int) := by unfold wrap64; omega
    rw [hw2, hw3]
    by_cases h0 : D + E = 0
    · rw [if_pos (by omega), if_pos h0]; rfl
    · rw [if_neg (by omega), if_neg h0]
  · rw [if_neg hp, if_neg hp]
theorem name_le : ∀ (f : Nat) (l : List UInt8) (a : Nat), nameL f l a ≤ a + l.length := by
  intro f
  induction f with
  | zero => intro l a; simp [nameL]
  | succ f ih =>
    intro l a
    rw [nameL]
    split
    · omega
    · rename_i hne
      split
      · omega
      · have h1 := ih (l.drop (Lib.decodeL l).2) (a + (Lib.decodeL l).2)
        have h2 := Lib.decodeL_le l hne
        rw [List.length_drop] at h1
        omega
def nmL (l : List UInt8) : Nat := nameL l.length l 0
theorem nm_le (l : List UInt8) : nmL l ≤ l.length := by have := name_le l.length l 0; unfold nmL; omega
theorem name_f (x : ByteArray) (h : x.size ≤ 1000000000) : xplex_name.f x = some (nmL x.data.toList : Int) := by
  unfold xplex_name.f nmL
  rw [if_pos (by omega), sz]
theorem qname_le (l : List UInt8) : qnameL l ≤ l.length := by
  have h1 := nm_le l
  have h2 := nm_le (l.drop (nmL l + 1))
  rw [List.length_drop] at h2
  unfold qnameL
  show (if 0 < nmL l ∧ hasL (l.drop (nmL l)) [58] = true ∧ 0 < nmL (l.drop (nmL l + 1)) then nmL l + 1 + nmL (l.drop (nmL l + 1)) else nmL l) ≤ _
  split
  · rename_i h
    omega
  · omega
theorem qname_f (x : ByteArray) (h : x.size ≤ 1000000000) : xplex_qname.f 1 x = some (qnameL x.data.toList : Int) := by
  have hx := sz x
  have hd := nm_le x.data.toList
  have hd2 := nm_le (x.data.toList.drop (nmL x.data.toList + 1))
  rw [List.length_drop] at hd2
  have hq : qnameL x.data.toList = if 0 < nmL x.data.toList ∧ hasL (x.data.toList.drop (nmL x.data.toList)) [58] = true ∧ 0 < nmL (x.data.toList.drop (nmL x.data.toList + 1)) then nmL x.data.toList + 1 + nmL (x.data.toList.drop (nmL x.data.toList + 1)) else nmL x.data.toList := rfl
  obtain ⟨D, hD⟩ : ∃ D, nmL x.data.toList = D := ⟨_, rfl⟩
  unfold xplex_qname.f
  rw [hq, name_f x h, Option.bind_some]
  clear hq
  rw [hD] at hd hd2 ⊢
  obtain ⟨E, hE⟩ : ∃ E, nmL (x.data.toList.drop (D + 1)) = E := ⟨_, rfl⟩
  rw [hE] at hd2 ⊢
  by_cases h0 : 0 < D
  · rw [if_pos (by omega), if_pos (by omega), if_pos (by omega), hasPrefix_f, Option.bind_some, Int.toNat_natCast, ext_drop]
    simp only [xplex_qname.j0]
    by_cases hp : hasL (x.data.toList.drop D) [58] = true
    · have hlt : D < x.size := by
        refine Nat.lt_of_not_le fun hge => ?_
        rw [List.drop_of_length_le (by omega)] at hp
        simp [hasL] at hp
      have hw : wrap64 ((D : Int) + 1) = ((D + 1 : Nat) : Int) := by unfold wrap64; omega
      have hw3 : wrap64 (((D + 1 : Nat) : Int) + (E : Int)) = ((D + 1 + E : Nat) : Int) := by unfold wrap64; omega
      rw [if_pos hp, hw, if_pos (by omega), if_pos (by omega), Int.toNat_natCast, name_f _ (by rw [ext_size _ _ (by omega)]; omega), ext_drop, hE, Option.bind_some, hw3]
      by_cases he : 0 < E
      · rw [if_pos (by omega), if_pos ⟨h0, hp, he⟩]
      · rw [if_neg (by omega), if_neg (fun h => he h.2.2)]
    · rw [if_neg hp, if_neg (fun h => hp h.2.1)]
  · rw [if_neg (by omega), if_neg (fun h => h0 h.1)]
    simp [xplex_qname.j0]
/-! ### what stands behind so many bytes, and blanks -/
set_option maxRecDepth 100000 in
set_option maxHeartbeats 1000000 in
theorem behind_any (w0 w : World) (g : Nat) (s : ByteArray) (a : Nat) (v : Value) (L : List S30) (n : Int) (hS : Scn w0 w g s a v L n) (ha : a ≤ s.size) (hs : s.size ≤ 1000000000) (m : Nat) (hm : a + m ≤ s.size) :
    Calls Tryd.prog 101 #[.pointer (some ⟨g, 0, none⟩), .int .i64 (m : Int)] w fun e w' => e = .returned (.string (trimB ((s.extract a s.size).extract m (s.extract a s.size).size))) ∧ Below w.heap.size w w' := by
  obtain ⟨x, hx⟩ : ∃ x, s.extract a s.size = x := ⟨_, rfl⟩
  have hxs : x.size = s.size - a := by rw [← hx, ext_size _ _ ha]
  rw [hx]
  have b0 : (0 : Int) ≤ (m : Int) := by omega
  have b1 : (m : Int) ≤ (x.size : Int) := by omega
  have hr := rest_any w g s a hS.cell0 hS.cell1 ha
  rw [hx] at hr
  have HL := hS.laid'
  clear hS hx hxs
  go_enter Tryd.func101, Tryd.ntmps101
  go_wp2_with (first
    | (go_at_call 74; refine hr.mono ?_; rintro e w' ⟨rfl, q, rfl⟩)
    | (go_at_call 73; refine (trimB_calls _ _ (HL.drewN q)).mono ?_; rintro e w' ⟨rfl, hb⟩))
  go_ret
  exact ⟨by first | rfl | (simp; done), (pw_below_drewN (Below.refl _ _) q).then_ hb⟩
theorem add_int (w0 w : World) (g : Nat) (s : ByteArray) (a : Nat) (v : Value) (L : List S30) (n : Int) (hS : Scn w0 w g s a v L n) (kk : Int) (tx : ByteArray) (m : Nat) (hl : (L.length + 1) * 32 ≤ 140737488355328) (ham : a + m ≤ 1000000000) (mi : Int) (hmi : (m : Int) = mi) (nx : Int) (hnx : nextOf kk tx = nx) :
    Calls Tryd.prog 76 #[.pointer (some ⟨g, 0, none⟩), .int .i64 kk, .string tx, .int .i64 mi] w fun e w' => e = .returned (.tuple #[]) ∧ ∃ v', Scn w0 w' g s (a + m) v' (L ++ [⟨kk, tx, (a : Int)⟩]) nx := by
  subst hmi hnx
  exact add_any w0 w g s a v L n hS kk tx m hl ham
theorem prefix_any (w : World) (x p : ByteArray) (b : Bool) (HL : Laid w) (hb : hasL x.data.toList p.data.toList = b) :
    Calls Tryd.prog 56 #[.string x, .string p] w fun e w' => e = .returned (.bool b) ∧ Drawn0 w w' :=
  strings_HasPrefix.calls x p b w HL (by rw [hasPrefix_f, hb])
def opNames : List ByteArray := [⟨#[97, 110, 100]⟩, ⟨#[111, 114]⟩, ⟨#[100, 105, 118]⟩, ⟨#[109, 111, 100]⟩]
theorem containsOps (W : World) (N : Nat) (hN : W.heap.size = N) (t : ByteArray) (HL : Laid W) (b : Bool) (hb : memB t opNames = b) :
    Calls Tryd.prog 99 #[.slice (some ⟨N, 0, none⟩) 4 4, .string t] (W.alloc (.cells #[.string ⟨#[97, 110, 100]⟩, .string ⟨#[111, 114]⟩, .string ⟨#[100, 105, 118]⟩, .string ⟨#[109, 111, 100]⟩] 9)) fun e w' => e = .returned (.bool b) ∧ ∃ q, w' = (W.alloc (.cells #[.string ⟨#[97, 110, 100]⟩, .string ⟨#[111, 114]⟩, .string ⟨#[100, 105, 118]⟩, .string ⟨#[109, 111, 100]⟩] 9)).drewN q := by
  subst hN hb
  have h := contains_any W opNames (by decide) t HL
  simp only [opNames, List.length_cons, List.length_nil, List.map_cons, List.map_nil] at h
  refine h.mono ?_
  rintro e w' ⟨rfl, ⟨q, rfl⟩⟩
  exact ⟨rfl, q, rfl⟩
set_option maxRecDepth 100000 in
set_option maxHeartbeats 4000000 in
theorem word_op (w0 w : World) (g : Nat) (s : ByteArray) (a : Nat) (v : Value) (L : List S30) (hS : Scn w0 w g s a v L 1) (ha : a ≤ s.size) (hs : s.size ≤ 100000000) (x : ByteArray) (hx : s.extract a s.size = x) (m : Nat) (hm : m ≤ x.size) (hl : (L.length + 1) * 32 ≤ 140737488355328) (b : Bool) (hb : memB (x.extract 0 m) opNames = b) :
    Calls Tryd.prog 80 #[.pointer (some ⟨g, 0, none⟩), .int .i64 (m : Int)] w fun e w' => if b = true then e = .returned (.bool true) ∧ ∃ v', Scn w0 w' g s (a + m) v' (L ++ [⟨8, x.extract 0 m, (a : Int)⟩]) 0 else e = .returned (.bool false) ∧ Scn w0 w' g s a v L 1 := by
  have hxs : x.size = s.size - a := by rw [← hx, ext_size _ _ ha]
  have b0 : (0 : Int) ≤ (m : Int) := by omega
  have b1 : (m : Int) ≤ (x.size : Int) := by omega
  have ham : a + m ≤ 1000000000 := by omega
  have hr := fun w (h : Scn w0 w g s a v L 1) => rest_any w g s a h.cell0 h.cell1 ha
  rw [hx] at hr
  have c3 := hS.cell3
  have HS := Lib.hid hS
  have HH := Lib.hid ham
  have HL := Lib.hid hl
  clear hS hx hxs ham hl
  go_enter Tryd.func80, Tryd.ntmps80
  cases b
  · go_wp2_with (first
      | (go_at_call 74; refine (hr _ HS.out).mono ?_; rintro e w' ⟨rfl, q, rfl⟩)
      | (go_at_call 99; refine (containsOps _ _ (by simp) _ (HS.out.drewN _).laid' _ hb).mono ?_; rintro e w' ⟨rfl, q2, rfl⟩))
    go_ret
    exact ⟨rfl, ((HS.out.drewN q).alloc _).drewN q2⟩
  · go_wp2_with (first
      | (go_at_call 74; refine (hr _ HS.out).mono ?_; rintro e w' ⟨rfl, q, rfl⟩)
      | (go_at_call 99; refine (containsOps _ _ (by simp) _ (HS.out.drewN _).laid' _ hb).mono ?_; rintro e w' ⟨rfl, q2, rfl⟩)
      | (go_at_call 76; refine (add_any w0 _ g s a v L 1 (((HS.out.drewN q).alloc _).drewN q2) 8 (x.extract 0 m) m HL.out HH.out).mono ?_; rintro e w' ⟨rfl, v', h2⟩))
    go_ret
    exact ⟨rfl, v', h2⟩
theorem next_six (t : ByteArray) : nextOf 6 t = 1 := by simp [nextOf]
theorem next_three (t : ByteArray) : nextOf 3 t = 1 := by simp [nextOf]
set_option maxRecDepth 100000 in
set_option maxHeartbeats 4000000 in
theorem word_axis (w0 w : World) (g : Nat) (s : ByteArray) (a : Nat) (v : Value) (L : List S30) (hS : Scn w0 w g s a v L 0) (ha : a ≤ s.size) (hs : s.size ≤ 100000000) (x : ByteArray) (hx : s.extract a s.size = x) (m : Nat) (hm : m ≤ x.size) (hl : (L.length + 1) * 32 ≤ 140737488355328)
    (h1 : hasL (trimB (x.extract m x.size)).data.toList [58, 58] = true) :
    Calls Tryd.prog 80 #[.pointer (some ⟨g, 0, none⟩), .int .i64 (m : Int)] w fun e w' => e = .returned (.bool true) ∧ ∃ v', Scn w0 w' g s (a + m) v' (L ++ [⟨6, x.extract 0 m, (a : Int)⟩]) 1 := by
  have hxs : x.size = s.size - a := by rw [← hx, ext_size _ _ ha]
  have b0 : (0 : Int) ≤ (m : Int) := by omega
  have b1 : (m : Int) ≤ (x.size : Int) := by omega
  have ham : a + m ≤ 1000000000 := by omega
  have ham2 : a + m ≤ s.size := by omega
  have hr := fun w (h : Scn w0 w g s a v L 0) => rest_any w g s a h.cell0 h.cell1 ha
  have hbh := fun w (h : Scn w0 w g s a v L 0) => behind_any w0 w g s a v L 0 h ha (by omega) m ham2
  simp only [hx] at hr hbh
  have c3 := hS.cell3
  have HS := Lib.hid hS
  have HH := Lib.hid ham
  have HL := Lib.hid hl
  clear hS hx hxs ham hl ham2
  go_enter Tryd.func80, Tryd.ntmps80
  go_wp2_with (first
      | (go_at_call 74; refine (hr _ HS.out).mono ?_; rintro e w' ⟨rfl, q, rfl⟩)
      | (go_at_call 101; refine (hbh _ (HS.out.drewN q)).mono ?_; rintro e w2 ⟨rfl, hb2⟩; have HS2 := Lib.hid ((HS.out.drewN q).below hb2))
      | (go_at_call 56; refine (prefix_any _ _ _ true HS2.out.laid' h1).mono ?_; rintro e w' ⟨rfl, ⟨q2, rfl⟩⟩)
      | (go_at_call 76; refine (add_int w0 _ g s a v L 0 (HS2.out.drewN q2) 6 (x.extract 0 m) m HL.out HH.out _ rfl 1 (next_six _)).mono ?_; rintro e w' ⟨rfl, v', h2⟩))
  go_ret
  exact ⟨rfl, v', h2⟩
set_option maxRecDepth 100000 in
set_option maxHeartbeats 4000000 in
theorem word_star (w0 w : World) (g : Nat) (s : ByteArray) (a : Nat) (v : Value) (L : List S30) (hS : Scn w0 w g s a v L 0) (ha : a ≤ s.size) (hs : s.size ≤ 100000000) (x : ByteArray) (hx : s.extract a s.size = x) (m : Nat) (hm : m ≤ x.size) (hl : (L.length + 1) * 32 ≤ 140737488355328)
    (h1 : hasL (trimB (x.extract m x.size)).data.toList [58, 58] = false) (h2 : hasL (x.extract m x.size).data.toList [58, 42] = true) :
    Calls Tryd.prog 80 #[.pointer (some ⟨g, 0, none⟩), .int .i64 (m : Int)] w fun e w' => e = .returned (.bool true) ∧ ∃ v', Scn w0 w' g s (a + (m + 2)) v' (L ++ [⟨3, x.extract 0 m ++ ⟨#[58, 42]⟩, (a : Int)⟩]) 1 := by
  have hxs : x.size = s.size - a := by rw [← hx, ext_size _ _ ha]
  have b0 : (0 : Int) ≤ (m : Int) := by omega
  have b1 : (m : Int) ≤ (x.size : Int) := by omega
  have b2 : m < 100000001 := by omega
  have b3 : (x.extract 0 m).size + 2 ≤ 9223372036854775807 := by
    rw [ByteArray.size_extract]; omega
  have ham : a + (m + 2) ≤ 1000000000 := by omega
  have ham2 : a + m ≤ s.size := by omega
  have hmi : ((m + 2 : Nat) : Int) = (m : Int) + 2 := by omega
  have hr := fun w (h : Scn w0 w g s a v L 0) => rest_any w g s a h.cell0 h.cell1 ha
  have hbh := fun w (h : Scn w0 w g s a v L 0) => behind_any w0 w g s a v L 0 h ha (by omega) m ham2
  simp only [hx] at hr hbh
  have c3 := hS.cell3
  have HS := Lib.hid hS
  have HH := Lib.hid ham
  have HL := Lib.hid hl
  have HM := Lib.hid hmi
  clear hS hx hxs ham hl ham2 hmi
  go_enter Tryd.func80, Tryd.ntmps80
  go_wp2_with (first
      | (go_at_call 74; refine (hr _ HS.out).mono ?_; rintro e w' ⟨rfl, q, rfl⟩)
      | (go_at_call 101; refine (hbh _ (HS.out.drewN q)).mono ?_; rintro e w2 ⟨rfl, hb2⟩; have HS2 := Lib.hid ((HS.out.drewN q).below hb2))
      | (go_at_call 56; refine (prefix_any _ _ _ false HS2.out.laid' h1).mono ?_; rintro e w' ⟨rfl, ⟨q2, rfl⟩⟩)
      | (go_at_call 56; refine (prefix_any _ _ _ true (HS2.out.drewN _).laid' h2).mono ?_; rintro e w' ⟨rfl, ⟨q3, rfl⟩⟩)
      | (go_at_call 76; refine (add_int w0 _ g s a v L 0 (HS2.out.drewN _) 3 _ (m + 2) HL.out HH.out _ HM.out 1 (next_three _)).mono ?_; rintro e w' ⟨rfl, v', h3⟩))
  go_ret
  exact ⟨rfl, v', h3⟩
def typeNames : List ByteArray := [⟨#[99, 111, 109, 109, 101, 110, 116]⟩, ⟨#[116, 101, 120, 116]⟩, ⟨#[112, 114, 111, 99, 101, 115, 115, 105, 110, 103, 45, 105, 110, 115, 116, 114, 117, 99, 116, 105, 111, 110]⟩, ⟨#[110, 111, 100, 101]⟩]
theorem containsTypes (W : World) (N : Nat) (hN : W.heap.size = N) (t : ByteArray) (HL : Laid W) (b : Bool) (hb : memB t typeNames = b) :
    Calls Tryd.prog 99 #[.slice (some ⟨N, 0, none⟩) 4 4, .string t] (W.alloc (.cells #[.string ⟨#[99, 111, 109, 109, 101, 110, 116]⟩, .string ⟨#[116, 101, 120, 116]⟩, .string ⟨#[112, 114, 111, 99, 101, 115, 115, 105, 110, 103, 45, 105, 110, 115, 116, 114, 117, 99, 116, 105, 111, 110]⟩, .string ⟨#[110, 111, 100, 101]⟩] 9)) fun e w' => e = .returned (.bool b) ∧ ∃ q, w' = (W.alloc (.cells #[.string ⟨#[99, 111, 109, 109, 101, 110, 116]⟩, .string ⟨#[116, 101, 120, 116]⟩, .string ⟨#[112, 114, 111, 99, 101, 115, 115, 105, 110, 103, 45, 105, 110, 115, 116, 114, 117, 99, 116, 105, 111, 110]⟩, .string ⟨#[110, 111, 100, 101]⟩] 9)).drewN q := by
  subst hN hb
  have h := contains_any W typeNames (by decide) t HL
  simp only [typeNames, List.length_cons, List.length_nil, List.map_cons, List.map_nil] at h
  refine h.mono ?_
  rintro e w' ⟨rfl, ⟨q, rfl⟩⟩
  exact ⟨rfl, q, rfl⟩
theorem next_45 (k : Int) (hk : k = 3 ∨ k = 4 ∨ k = 5) (t : ByteArray) : nextOf k t = 1 := by
  rcases hk with rfl | rfl | rfl <;> simp [nextOf]
set_option maxRecDepth 100000 in
set_option maxHeartbeats 16000000 in
theorem word_name (w0 w : World) (g : Nat) (s : ByteArray) (a : Nat) (v : Value) (L : List S30) (hS : Scn w0 w g s a v L 0) (ha : a ≤ s.size) (hs : s.size ≤ 100000000) (x : ByteArray) (hx : s.extract a s.size = x) (m : Nat) (hm : m ≤ x.size) (hl : (L.length + 1) * 32 ≤ 140737488355328)
    (h1 : hasL (trimB (x.extract m x.size)).data.toList [58, 58] = false) (h2 : hasL (x.extract m x.size).data.toList [58, 42] = false) (y : Nat) (hy : qnameL x.data.toList = y)
    (b4 : Bool) (h4 : hasL (trimB (x.extract y x.size)).data.toList [40] = b4) (b5 : Bool) (h5 : memB (x.extract 0 y) typeNames = b5) (kk : Int) (hk : (if b4 = true then (if b5 = true then 5 else 4) else 3) = kk) :
    Calls Tryd.prog 80 #[.pointer (some ⟨g, 0, none⟩), .int .i64 (m : Int)] w fun e w' => e = .returned (.bool true) ∧ ∃ v', Scn w0 w' g s (a + y) v' (L ++ [⟨kk, x.extract 0 y, (a : Int)⟩]) 1 := by
  have hxs : x.size = s.size - a := by rw [← hx, ext_size _ _ ha]
  have hyl : y ≤ x.size := by rw [← hy, ← sz]; exact qname_le _
  have b0 : (0 : Int) ≤ (m : Int) := by omega
  have b1 : (m : Int) ≤ (x.size : Int) := by omega
  have d0 : (0 : Int) ≤ (y : Int) := by omega
  have d1 : (y : Int) ≤ (x.size : Int) := by omega
  have ham : a + y ≤ 1000000000 := by omega
  have ham2 : a + m ≤ s.size := by omega
  have ham3 : a + y ≤ s.size := by omega
  have hqn := qname_f x (by omega)
  rw [hy] at hqn
  have hr := fun w (h : Scn w0 w g s a v L 0) => rest_any w g s a h.cell0 h.cell1 ha
  have hbh := fun w (h : Scn w0 w g s a v L 0) => behind_any w0 w g s a v L 0 h ha (by omega) m ham2
  have hbh2 := fun w (h : Scn w0 w g s a v L 0) => behind_any w0 w g s a v L 0 h ha (by omega) y ham3
  simp only [hx] at hr hbh hbh2
  have c3 := hS.cell3
  have HS := Lib.hid hS
  have HH := Lib.hid ham
  have HL := Lib.hid hl
  have HQ := Lib.hid hqn
  clear hS hx hxs ham hl ham2 ham3 hqn hy hyl
  cases b4
  · obtain rfl : (3 : Int) = kk := by simpa using hk
    go_enter Tryd.func80, Tryd.ntmps80
    go_wp2_with (first
      | (go_at_call 74; refine (hr _ HS.out).mono ?_; rintro e w' ⟨rfl, q, rfl⟩)
      | (go_at_call 101; refine (hbh _ (HS.out.drewN q)).mono ?_; rintro e w2 ⟨rfl, hb2⟩; have HS2 := Lib.hid ((HS.out.drewN q).below hb2))
      | (go_at_call 56; refine (prefix_any _ _ _ false HS2.out.laid' h1).mono ?_; rintro e w' ⟨rfl, ⟨q2, rfl⟩⟩)
      | (go_at_call 56; refine (prefix_any _ _ _ false (HS2.out.drewN _).laid' h2).mono ?_; rintro e w' ⟨rfl, ⟨q3, rfl⟩⟩)
      | (go_at_call 78; refine (xplex_qname.calls 1 x y _ (HS2.out.drewN _).laid' HQ.out).mono ?_; rintro e w3 ⟨rfl, hb3⟩; have HS3 := Lib.hid ((HS2.out.drewN _).below hb3))
      | (go_at_call 101; refine (hbh2 _ HS3.out).mono ?_; rintro e w4 ⟨rfl, hb4⟩; have HS4 := Lib.hid (HS3.out.below hb4))
      | (go_at_call 56; refine (prefix_any _ _ _ false HS4.out.laid' h4).mono ?_; rintro e w' ⟨rfl, ⟨q5, rfl⟩⟩)
      | (go_at_call 76; refine (add_int w0 _ g s a v L 0 (HS4.out.drewN _) 3 _ y HL.out HH.out _ rfl 1 (next_three _)).mono ?_; rintro e w' ⟨rfl, v', h3⟩))
    go_ret
    exact ⟨rfl, v', h3⟩
  · cases b5
    · obtain rfl : (4 : Int) = kk := by simpa using hk
      go_enter Tryd.func80, Tryd.ntmps80
      go_wp2_with (first
        | (go_at_call 74; refine (hr _ HS.out).mono ?_; rintro e w' ⟨rfl, q, rfl⟩)
        | (go_at_call 101; refine (hbh _ (HS.out.drewN q)).mono ?_; rintro e w2 ⟨rfl, hb2⟩; have HS2 := Lib.hid ((HS.out.drewN q).below hb2))
        | (go_at_call 56; refine (prefix_any _ _ _ false HS2.out.laid' h1).mono ?_; rintro e w' ⟨rfl, ⟨q2, rfl⟩⟩)
        | (go_at_call 56; refine (prefix_any _ _ _ false (HS2.out.drewN _).laid' h2).mono ?_; rintro e w' ⟨rfl, ⟨q3, rfl⟩⟩)
        | (go_at_call 78; refine (xplex_qname.calls 1 x y _ (HS2.out.drewN _).laid' HQ.out).mono ?_; rintro e w3 ⟨rfl, hb3⟩; have HS3 := Lib.hid ((HS2.out.drewN _).below hb3))
        | (go_at_call 101; refine (hbh2 _ HS3.out).mono ?_; rintro e w4 ⟨rfl, hb4⟩; have HS4 := Lib.hid (HS3.out.below hb4))
        | (go_at_call 56; refine (prefix_any _ _ _ true HS4.out.laid' h4).mono ?_; rintro e w' ⟨rfl, ⟨q5, rfl⟩⟩)
        | (go_at_call 99; refine (containsTypes _ _ (by simp) _ (HS4.out.drewN _).laid' _ h5).mono ?_; rintro e w' ⟨rfl, q6, rfl⟩)
        | (go_at_call 76; refine (add_int w0 _ g s a v L 0 (((HS4.out.drewN _).alloc _).drewN _) 4 _ y HL.out HH.out _ rfl 1 (next_45 _ (by simp) _)).mono ?_; rintro e w' ⟨rfl, v', h3⟩))
      go_ret
      exact ⟨rfl, v', h3⟩
    · obtain rfl : (5 : Int) = kk := by simpa using hk
      go_enter Tryd.func80, Tryd.ntmps80
      go_wp2_with (first
        | (go_at_call 74; refine (hr _ HS.out).mono ?_; rintro e w' ⟨rfl, q, rfl⟩)
        | (go_at_call 101; refine (hbh _ (HS.out.drewN q)).mono ?_; rintro e w2 ⟨rfl, hb2⟩; have HS2 := Lib.hid ((HS.out.drewN q).below hb2))
        | (go_at_call 56; refine (prefix_any _ _ _ false HS2.out.laid' h1).mono ?_; rintro e w' ⟨rfl, ⟨q2, rfl⟩⟩)
        | (go_at_call 56; refine (prefix_any _ _ _ false (HS2.out.drewN _).laid' h2).mono ?_; rintro e w' ⟨rfl, ⟨q3, rfl⟩⟩)
        | (go_at_call 78; refine (xplex_qname.calls 1 x y _ (HS2.out.drewN _).laid' HQ.out).mono ?_; rintro e w3 ⟨rfl, hb3⟩; have HS3 := Lib.hid ((HS2.out.drewN _).below hb3))
        | (go_at_call 101; refine (hbh2 _ HS3.out).mono ?_; rintro e w4 ⟨rfl, hb4⟩; have HS4 := Lib.hid (HS3.out.below hb4))
        | (go_at_call 56; refine (prefix_any _ _ _ true HS4.out.laid' h4).mono ?_; rintro e w' ⟨rfl, ⟨q5, rfl⟩⟩)
        | (go_at_call 99; refine (containsTypes _ _ (by simp) _ (HS4.out.drewN _).laid' _ h5).mono ?_; rintro e w' ⟨rfl, q6, rfl⟩)
        | (go_at_call 76; refine (add_int w0 _ g s a v L 0 (((HS4.out.drewN _).alloc _).drewN _) 5 _ y HL.out HH.out _ rfl 1 (next_45 _ (by simp) _)).mono ?_; rintro e w' ⟨rfl, v', h3⟩))
      go_ret
      exact ⟨rfl, v', h3⟩
/-- the five literal rows of sign, from block B on -/
structure Signs (B : Nat) (W : World) : Prop where
  r0 : W.heap[B]? = some (.cells #[.string ⟨#[58, 58]⟩, .string ⟨#[46, 46]⟩] 9 (0, 0))
  r1 : W.heap[B + 1]? = some (.cells #[.string ⟨#[47, 47]⟩, .string ⟨#[33, 61]⟩, .string ⟨#[60, 61]⟩, .string ⟨#[62, 61]⟩] 9 (0, 0))
  r2 : W.heap[B + 2]? = some (.cells #[.string ⟨#[40]⟩, .string ⟨#[41]⟩, .string ⟨#[91]⟩, .string ⟨#[93]⟩, .string ⟨#[46]⟩, .string ⟨#[64]⟩, .string ⟨#[44]⟩] 9 (0, 0))
  r3 : W.heap[B + 3]? = some (.cells #[.string ⟨#[47]⟩, .string ⟨#[124]⟩, .string ⟨#[43]⟩, .string ⟨#[45]⟩, .string ⟨#[61]⟩, .string ⟨#[60]⟩, .string ⟨#[62]⟩] 9 (0, 0))
  rr : W.heap[B + 4]? = some (.cells #[.slice (some ⟨B, 0, none⟩) 2 2, .slice (some ⟨B + 1, 0, none⟩) 4 4, .slice (some ⟨B + 2, 0, none⟩) 7 7, .slice (some ⟨B + 3, 0, none⟩) 7 7] 27 (0, 0))
theorem Signs.drewN {B : Nat} {W : World} (h : Signs B W) (q : Nat) : Signs B (W.drewN q) := ⟨h.r0, h.r1, h.r2, h.r3, h.rr⟩
theorem heap5 (w : World) (o0 o1 o2 o3 o4 : Obj) : (((((w.alloc o0).alloc o1).alloc o2).alloc o3).alloc o4).heap = ((((w.heap.push o0).push o1).push o2).push o3).push o4 := rfl
theorem at5 {α : Type} (h : Array α) (o0 o1 o2 o3 o4 : α) : (((((h.push o0).push o1).push o2).push o3).push o4)[h.size]? = some o0 ∧ (((((h.push o0).push o1).push o2).push o3).push o4)[h.size + 1]? = some o1 ∧ (((((h.push o0).push o1).push o2).push o3).push o4)[h.size + 2]? = some o2 ∧ (((((h.push o0).push o1).push o2).push o3).push o4)[h.size + 3]? = some o3 ∧ (((((h.push o0).push o1).push o2).push o3).push o4)[h.size + 4]? = some o4 := by
  have e : ∀ (x : Array α) (i : Nat) (o : α), (x.push o)[i]? = if i = x.size then some o else x[i]? := fun x i o => Array.getElem?_push
  simp only [e, Array.size_push]
  refine ⟨?_, ?_, ?_, ?_, ?_⟩
  · rw [if_neg (by omega), if_neg (by omega), if_neg (by omega), if_neg (by omega)]; simp
  · rw [if_neg (by omega), if_neg (by omega), if_neg (by omega)]; simp
  · rw [if_neg (by omega), if_neg (by omega)]; simp
  · rw [if_neg (by omega)]; simp
  · simp
def signTab : List (Int × ByteArray) := [(9, ⟨#[58, 58]⟩), (9, ⟨#[46, 46]⟩), (8, ⟨#[47, 47]⟩), (8, ⟨#[33, 61]⟩), (8, ⟨#[60, 61]⟩), (8, ⟨#[62, 61]⟩), (9, ⟨#[40]⟩), (9, ⟨#[41]⟩), (9, ⟨#[91]⟩), (9, ⟨#[93]⟩), (9, ⟨#[46]⟩), (9, ⟨#[64]⟩), (9, ⟨#[44]⟩), (8, ⟨#[47]⟩), (8, ⟨#[124]⟩), (8, ⟨#[43]⟩), (8, ⟨#[45]⟩), (8, ⟨#[61]⟩), (8, ⟨#[60]⟩), (8, ⟨#[62]⟩)]
def signOff : Nat → Nat
  | 0 => 0
  | 1 => 2
  | 2 => 6
  | 3 => 13
  | _ => 20
def signFind (x : ByteArray) (c : Nat) : Option (Int × ByteArray) := (signTab.drop c).find? fun p => hasL x.data.toList p.2.data.toList
theorem lit_cell (W : World) (cs : Array Value) (t : Nat) (q k : Nat) : ((W.drewN q).alloc (.cells cs t)).cell? ⟨W.heap.size, k, none⟩ = cs[k]? := by
  have h : ((W.drewN q).alloc (.cells cs t)).heap[W.heap.size]? = some (.cells cs t (0, 0)) := by
    show (W.heap.push _)[W.heap.size]? = _
    simp
  exact blk_cell h k
def slotNat : Value → Nat
  | .int _ i => i.toNat
  | _ => 0
theorem turns {c i j : Nat} (h : i < c) (hj : i < j) : c - slotNat (.int .i64 (j : Int)) < c - slotNat (.int .i64 (i : Int)) := by
  simp only [slotNat, Int.toNat_natCast]; omega
def SignPost (w0 : World) (g : Nat) (s : ByteArray) (a : Nat) (v : Value) (L : List S30) (n : Int) (R : Option (Int × ByteArray)) (e : Ending) (w' : World) : Prop :=
  match R with
  | none => e = .returned (.bool false) ∧ Scn w0 w' g s a v L n
  | some (k, t) => e = .returned (.bool true) ∧ ∃ v', Scn w0 w' g s (a + t.size) v' (L ++ [⟨k, t, (a : Int)⟩]) (nextOf k t)
theorem signFind_cons {x : ByteArray} {c : Nat} (k : Int) (t : ByteArray) (ht : signTab[c]? = some (k, t)) : signFind x c = if hasL x.data.toList t.data.toList = true then some (k, t) else signFind x (c + 1) := by
  rw [signFind, List.drop_eq_getElem_cons (List.getElem?_eq_some_iff.1 ht).1, (List.getElem?_eq_some_iff.1 ht).2, List.find?_cons]
  by_cases hb : hasL x.data.toList t.data.toList = true
  · simp [hb]
  · simp [hb, signFind]
theorem signFind_hit {x : ByteArray} {c : Nat} {R : Option (Int × ByteArray)} (k : Int) (t : ByteArray) (h : Hid (signFind x c = R)) (ht : signTab[c]? = some (k, t)) (hb : hasL x.data.toList t.data.toList = true) : R = some (k, t) := by
  have h := h.out
  rw [signFind_cons k t ht, if_pos hb] at h
  exact h.symm
theorem signFind_miss {x : ByteArray} {c : Nat} {R : Option (Int × ByteArray)} (k : Int) (t : ByteArray) (h : Hid (signFind x c = R)) (ht : signTab[c]? = some (k, t)) (hb : hasL x.data.toList t.data.toList = false) : Hid (signFind x (c + 1) = R) := by
  have h := h.out
  rw [signFind_cons k t ht, if_neg (by simp [hb])] at h
  exact h
set_option maxRecDepth 100000 in
set_option maxHeartbeats 16000000 in
theorem sign_any (w0 w : World) (g : Nat) (s : ByteArray) (a : Nat) (v : Value) (L : List S30) (n : Int) (hS : Scn w0 w g s a v L n) (ha : a ≤ s.size) (hs : s.size ≤ 100000000) (hl : (L.length + 1) * 32 ≤ 140737488355328) (R : Option (Int × ByteArray)) (hR : signFind (s.extract a s.size) 0 = R) :
    Calls Tryd.prog 81 #[.pointer (some ⟨g, 0, none⟩)] w (SignPost w0 g s a v L n R) := by
  obtain ⟨x, hx⟩ : ∃ x, s.extract a s.size = x := ⟨_, rfl⟩
  have hr := fun w (h : Scn w0 w g s a v L n) => rest_any w g s a h.cell0 h.cell1 ha
  rw [hx] at hr hR
  have HRR := Lib.hid hR
  have HS := Lib.hid hS
  clear hS hR hx
  go_enter Tryd.func81, Tryd.ntmps81
  go_wp2
  go_loopw [13] (fun v13 wr => ∃ i : Nat, v13 = .int .i64 (i : Int) ∧ i ≤ 4 ∧ Signs w.heap.size wr ∧ Scn w0 wr g s a v L n ∧ Hid (signFind x (signOff i) = R)) (fun v13 _ => 4 - slotNat v13)
  case atStart =>
    refine ⟨0, rfl, by omega, ⟨(at5 w.heap _ _ _ _ _).1, (at5 w.heap _ _ _ _ _).2.1, (at5 w.heap _ _ _ _ _).2.2.1, (at5 w.heap _ _ _ _ _).2.2.2.1, (at5 w.heap _ _ _ _ _).2.2.2.2⟩, ((((HS.out.alloc _).alloc _).alloc _).alloc _).alloc _, HRR⟩
  case round =>
    obtain ⟨i, rfl, hi, hSg, hSc, hF⟩ := hrel
    have c0 := fun k => blk_cell hSg.rr k
    have HSg := Lib.hid hSg
    have HSc := Lib.hid hSc
    clear hSg hSc
    obtain rfl | rfl | rfl | rfl | rfl : i = 0 ∨ i = 1 ∨ i = 2 ∨ i = 3 ∨ i = 4 := by omega
    · have c1 : wr.cell? ⟨w.heap.size + 4, 0, none⟩ = some (.slice (some ⟨w.heap.size, 0, none⟩) 2 2) := (c0 0).trans rfl
      clear c0 HS HRR
      go_wp2
      go_loopw [20] (fun v20 wr2 => ∃ j : Nat, v20 = .int .i64 (j : Int) ∧ j ≤ 2 ∧ Signs w.heap.size wr2 ∧ Scn w0 wr2 g s a v L n ∧ Hid (signFind x (0 + j) = R)) (fun v20 _ => 2 - slotNat v20)
      case atStart => exact ⟨0, rfl, by omega, HSg.out, HSc.out, hF⟩
      case round =>
        obtain ⟨j, rfl, hj, hSg2, hSc2, hF2⟩ := hrel
        have cr := fun k => blk_cell hSg2.r0 k
        have HSg2 := Lib.hid hSg2
        have HSc2 := Lib.hid hSc2
        clear hSg2 hSc2 HSg HSc hF
        obtain rfl | rfl | rfl : j = 0 ∨ j = 1 ∨ j = 2 := by omega
        · have cc := (cr 0).trans (b := some (Value.string ⟨#[58, 58]⟩)) rfl
          clear cr
          obtain ⟨b, hb⟩ : ∃ b, hasL x.data.toList [58, 58] = b := ⟨_, rfl⟩
          cases b
          · have hF3 := signFind_miss 9 ⟨#[58, 58]⟩ hF2 rfl hb
            clear hF2
            go_wp2_with (first
              | (go_at_call 74; refine (hr _ HSc2.out).mono ?_; rintro e w' ⟨rfl, q, rfl⟩)
              | (go_at_call 56; refine (prefix_any _ _ _ false (HSc2.out.drewN _).laid' hb).mono ?_; rintro e w2 ⟨rfl, ⟨q2, rfl⟩⟩))
            exact ⟨⟨_, _, _, _, _, _, _, _, _, _, _, _, _, _, _, _, _, _, _, _, _, ⟨1, rfl, by omega, HSg2.out.drewN _, HSc2.out.drewN _, hF3⟩, rfl⟩, turns (c := 2) (i := 0) (j := 1) (by omega) (by omega)⟩
          · have hl2 : ∀ q : Nat, ((wr.drewN q).alloc (.cells #[.int .i64 9, .int .i64 8] 28)).cell? ⟨wr.heap.size, 0, none⟩ = some (.int .i64 9) := fun q => lit_cell wr _ _ q 0
            obtain rfl := signFind_hit 9 ⟨#[58, 58]⟩ hF2 rfl hb
            clear hF2
            go_wp2_with (first
              | (go_at_call 74; refine (hr _ HSc2.out).mono ?_; rintro e w' ⟨rfl, q, rfl⟩)
              | (go_at_call 56; refine (prefix_any _ _ _ true (HSc2.out.drewN _).laid' hb).mono ?_; rintro e w2 ⟨rfl, ⟨q2, rfl⟩⟩)
              | (go_at_call 76; refine (add_int w0 _ g s a v L n ((HSc2.out.drewN _).alloc _) 9 ⟨#[58, 58]⟩ 2 hl (by omega) _ rfl _ rfl).mono ?_; rintro e w' ⟨rfl, v', h2⟩))
            go_ret
            exact ⟨rfl, v', h2⟩
        · have cc := (cr 1).trans (b := some (Value.string ⟨#[46, 46]⟩)) rfl
          clear cr
          obtain ⟨b, hb⟩ : ∃ b, hasL x.data.toList [46, 46] = b := ⟨_, rfl⟩
          cases b
          · have hF3 := signFind_miss 9 ⟨#[46, 46]⟩ hF2 rfl hb
            clear hF2
            go_wp2_with (first
              | (go_at_call 74; refine (hr _ HSc2.out).mono ?_; rintro e w' ⟨rfl, q, rfl⟩)
              | (go_at_call 56; refine (prefix_any _ _ _ false (HSc2.out.drewN _).laid' hb).mono ?_; rintro e w2 ⟨rfl, ⟨q2, rfl⟩⟩))
            exact ⟨⟨_, _, _, _, _, _, _, _, _, _, _, _, _, _, _, _, _, _, _, _, _, ⟨2, rfl, by omega, HSg2.out.drewN _, HSc2.out.drewN _, hF3⟩, rfl⟩, turns (c := 2) (i := 1) (j := 2) (by omega) (by omega)⟩
          · have hl2 : ∀ q : Nat, ((wr.drewN q).alloc (.cells #[.int .i64 9, .int .i64 8] 28)).cell? ⟨wr.heap.size, 0, none⟩ = some (.int .i64 9) := fun q => lit_cell wr _ _ q 0
            obtain rfl := signFind_hit 9 ⟨#[46, 46]⟩ hF2 rfl hb
            clear hF2
            go_wp2_with (first
              | (go_at_call 74; refine (hr _ HSc2.out).mono ?_; rintro e w' ⟨rfl, q, rfl⟩)
              | (go_at_call 56; refine (prefix_any _ _ _ true (HSc2.out.drewN _).laid' hb).mono ?_; rintro e w2 ⟨rfl, ⟨q2, rfl⟩⟩)
              | (go_at_call 76; refine (add_int w0 _ g s a v L n ((HSc2.out.drewN _).alloc _) 9 ⟨#[46, 46]⟩ 2 hl (by omega) _ rfl _ rfl).mono ?_; rintro e w' ⟨rfl, v', h2⟩))
            go_ret
            exact ⟨rfl, v', h2⟩
        · clear cr
          go_wp2
          exact ⟨⟨1, rfl, by omega, HSg2.out, HSc2.out, hF2⟩, turns (c := 4) (i := 0) (j := 1) (by omega) (by omega)⟩
    · have c1 : wr.cell? ⟨w.heap.size + 4, 1, none⟩ = some (.slice (some ⟨w.heap.size + 1, 0, none⟩) 4 4) := (c0 1).trans rfl
      clear c0 HS HRR
      go_wp2
      go_loopw [20] (fun v20 wr2 => ∃ j : Nat, v20 = .int .i64 (j : Int) ∧ j ≤ 4 ∧ Signs w.heap.size wr2 ∧ Scn w0 wr2 g s a v L n ∧ Hid (signFind x (2 + j) = R)) (fun v20 _ => 4 - slotNat v20)
      case atStart => exact ⟨0, rfl, by omega, HSg.out, HSc.out, hF⟩
      case round =>
        obtain ⟨j, rfl, hj, hSg2, hSc2, hF2⟩ := hrel
        have cr := fun k => blk_cell hSg2.r1 k
        have HSg2 := Lib.hid hSg2
        have HSc2 := Lib.hid hSc2
        clear hSg2 hSc2 HSg HSc hF
        obtain rfl | rfl | rfl | rfl | rfl : j = 0 ∨ j = 1 ∨ j = 2 ∨ j = 3 ∨ j = 4 := by omega
        · have cc := (cr 0).trans (b := some (Value.string ⟨#[47, 47]⟩)) rfl
          clear cr
          obtain ⟨b, hb⟩ : ∃ b, hasL x.data.toList [47, 47] = b := ⟨_, rfl⟩
          cases b
          · have hF3 := signFind_miss 8 ⟨#[47, 47]⟩ hF2 rfl hb
            clear hF2
            go_wp2_with (first
              | (go_at_call 74; refine (hr _ HSc2.out).mono ?_; rintro e w' ⟨rfl, q, rfl⟩)
              | (go_at_call 56; refine (prefix_any _ _ _ false (HSc2.out.drewN _).laid' hb).mono ?_; rintro e w2 ⟨rfl, ⟨q2, rfl⟩⟩))
            exact ⟨⟨_, _, _, _, _, _, _, _, _, _, _, _, _, _, _, _, _, _, _, _, _, ⟨1, rfl, by omega, HSg2.out.drewN _, HSc2.out.drewN _, hF3⟩, rfl⟩, turns (c := 4) (i := 0) (j := 1) (by omega) (by omega)⟩
          · have hl2 : ∀ q : Nat, ((wr.drewN q).alloc (.cells #[.int .i64 9, .int .i64 8] 28)).cell? ⟨wr.heap.size, 1, none⟩ = some (.int .i64 8) := fun q => lit_cell wr _ _ q 1
            obtain rfl := signFind_hit 8 ⟨#[47, 47]⟩ hF2 rfl hb
            clear hF2
            go_wp2_with (first
              | (go_at_call 74; refine (hr _ HSc2.out).mono ?_; rintro e w' ⟨rfl, q, rfl⟩)
              | (go_at_call 56; refine (prefix_any _ _ _ true (HSc2.out.drewN _).laid' hb).mono ?_; rintro e w2 ⟨rfl, ⟨q2, rfl⟩⟩)
              | (go_at_call 76; refine (add_int w0 _ g s a v L n ((HSc2.out.drewN _).alloc _) 8 ⟨#[47, 47]⟩ 2 hl (by omega) _ rfl _ rfl).mono ?_; rintro e w' ⟨rfl, v', h2⟩))
            go_ret
            exact ⟨rfl, v', h2⟩
        · have cc := (cr 1).trans (b := some (Value.string ⟨#[33, 61]⟩)) rfl
          clear cr
          obtain ⟨b, hb⟩ : ∃ b, hasL x.data.toList [33, 61] = b := ⟨_, rfl⟩
          cases b
          · have hF3 := signFind_miss 8 ⟨#[33, 61]⟩ hF2 rfl hb
            clear hF2
            go_wp2_with (first
              | (go_at_call 74; refine (hr _ HSc2.out).mono ?_; rintro e w' ⟨rfl, q, rfl⟩)
              | (go_at_call 56; refine (prefix_any _ _ _ false (HSc2.out.drewN _).laid' hb).mono ?_; rintro e w2 ⟨rfl, ⟨q2, rfl⟩⟩))
            exact ⟨⟨_, _, _, _, _, _, _, _, _, _, _, _, _, _, _, _, _, _, _, _, _, ⟨2, rfl, by omega, HSg2.out.drewN _, HSc2.out.drewN _, hF3⟩, rfl⟩, turns (c := 4) (i := 1) (j := 2) (by omega) (by omega)⟩
          · have hl2 : ∀ q : Nat, ((wr.drewN q).alloc (.cells #[.int .i64 9, .int .i64 8] 28)).cell? ⟨wr.heap.size, 1, none⟩ = some (.int .i64 8) := fun q => lit_cell wr _ _ q 1
            obtain rfl := signFind_hit 8 ⟨#[33, 61]⟩ hF2 rfl hb
            clear hF2
            go_wp2_with (first
              | (go_at_call 74; refine (hr _ HSc2.out).mono ?_; rintro e w' ⟨rfl, q, rfl⟩)
              | (go_at_call 56; refine (prefix_any _ _ _ true (HSc2.out.drewN _).laid' hb).mono ?_; rintro e w2 ⟨rfl, ⟨q2, rfl⟩⟩)
              | (go_at_call 76; refine (add_int w0 _ g s a v L n ((HSc2.out.drewN _).alloc _) 8 ⟨#[33, 61]⟩ 2 hl (by omega) _ rfl _ rfl).mono ?_; rintro e w' ⟨rfl, v', h2⟩))
            go_ret
            exact ⟨rfl, v', h2⟩
        · have cc := (cr 2).trans (b := some (Value.string ⟨#[60, 61]⟩)) rfl
          clear cr
          obtain ⟨b, hb⟩ : ∃ b, hasL x.data.toList [60, 61] = b := ⟨_, rfl⟩
          cases b
          · have hF3 := signFind_miss 8 ⟨#[60, 61]⟩ hF2 rfl hb
            clear hF2
            go_wp2_with (first
              | (go_at_call 74; refine (hr _ HSc2.out).mono ?_; rintro e w' ⟨rfl, q, rfl⟩)
              | (go_at_call 56; refine (prefix_any _ _ _ false (HSc2.out.drewN _).laid' hb).mono ?_; rintro e w2 ⟨rfl, ⟨q2, rfl⟩⟩))
            exact ⟨⟨_, _, _, _, _, _, _, _, _, _, _, _, _, _, _, _, _, _, _, _, _, ⟨3, rfl, by omega, HSg2.out.drewN _, HSc2.out.drewN _, hF3⟩, rfl⟩, turns (c := 4) (i := 2) (j := 3) (by omega) (by omega)⟩
          · have hl2 : ∀ q : Nat, ((wr.drewN q).alloc (.cells #[.int .i64 9, .int .i64 8] 28)).cell? ⟨wr.heap.size, 1, none⟩ = some (.int .i64 8) := fun q => lit_cell wr _ _ q 1
            obtain rfl := signFind_hit 8 ⟨#[60, 61]⟩ hF2 rfl hb
            clear hF2
            go_wp2_with (first
              | (go_at_call 74; refine (hr _ HSc2.out).mono ?_; rintro e w' ⟨rfl, q, rfl⟩)
              | (go_at_call 56; refine (prefix_any _ _ _ true (HSc2.out.drewN _).laid' hb).mono ?_; rintro e w2 ⟨rfl, ⟨q2, rfl⟩⟩)
              | (go_at_call 76; refine (add_int w0 _ g s a v L n ((HSc2.out.drewN _).alloc _) 8 ⟨#[60, 61]⟩ 2 hl (by omega) _ rfl _ rfl).mono ?_; rintro e w' ⟨rfl, v', h2⟩))
            go_ret
            exact ⟨rfl, v', h2⟩
        · have cc := (cr 3).trans (b := some (Value.string ⟨#[62, 61]⟩)) rfl
          clear cr
          obtain ⟨b, hb⟩ : ∃ b, hasL x.data.toList [62, 61] = b := ⟨_, rfl⟩
          cases b
          · have hF3 := signFind_miss 8 ⟨#[62, 61]⟩ hF2 rfl hb
            clear hF2
            go_wp2_with (first
              | (go_at_call 74; refine (hr _ HSc2.out).mono ?_; rintro e w' ⟨rfl, q, rfl⟩)
              | (go_at_call 56; refine (prefix_any _ _ _ false (HSc2.out.drewN _).laid' hb).mono ?_; rintro e w2 ⟨rfl, ⟨q2, rfl⟩⟩))
            exact ⟨⟨_, _, _, _, _, _, _, _, _, _, _, _, _, _, _, _, _, _, _, _, _, ⟨4, rfl, by omega, HSg2.out.drewN _, HSc2.out.drewN _, hF3⟩, rfl⟩, turns (c := 4) (i := 3) (j := 4) (by omega) (by omega)⟩
          · have hl2 : ∀ q : Nat, ((wr.drewN q).alloc (.cells #[.int .i64 9, .int .i64 8] 28)).cell? ⟨wr.heap.size, 1, none⟩ = some (.int .i64 8) := fun q => lit_cell wr _ _ q 1
            obtain rfl := signFind_hit 8 ⟨#[62, 61]⟩ hF2 rfl hb
            clear hF2
            go_wp2_with (first
              | (go_at_call 74; refine (hr _ HSc2.out).mono ?_; rintro e w' ⟨rfl, q, rfl⟩)
              | (go_at_call 56; refine (prefix_any _ _ _ true (HSc2.out.drewN _).laid' hb).mono ?_; rintro e w2 ⟨rfl, ⟨q2, rfl⟩⟩)
              | (go_at_call 76; refine (add_int w0 _ g s a v L n ((HSc2.out.drewN _).alloc _) 8 ⟨#[62, 61]⟩ 2 hl (by omega) _ rfl _ rfl).mono ?_; rintro e w' ⟨rfl, v', h2⟩))
            go_ret
            exact ⟨rfl, v', h2⟩
        · clear cr
          go_wp2
          exact ⟨⟨2, rfl, by omega, HSg2.out, HSc2.out, hF2⟩, turns (c := 4) (i := 1) (j := 2) (by omega) (by omega)⟩
    · have c1 : wr.cell? ⟨w.heap.size + 4, 2, none⟩ = some (.slice (some ⟨w.heap.size + 2, 0, none⟩) 7 7) := (c0 2).trans rfl
      clear c0 HS HRR
      go_wp2
      go_loopw [20] (fun v20 wr2 => ∃ j : Nat, v20 = .int .i64 (j : Int) ∧ j ≤ 7 ∧ Signs w.heap.size wr2 ∧ Scn w0 wr2 g s a v L n ∧ Hid (signFind x (6 + j) = R)) (fun v20 _ => 7 - slotNat v20)
      case atStart => exact ⟨0, rfl, by omega, HSg.out, HSc.out, hF⟩
      case round =>
        obtain ⟨j, rfl, hj, hSg2, hSc2, hF2⟩ := hrel
        have cr := fun k => blk_cell hSg2.r2 k
        have HSg2 := Lib.hid hSg2
        have HSc2 := Lib.hid hSc2
        clear hSg2 hSc2 HSg HSc hF
        obtain rfl | rfl | rfl | rfl | rfl | rfl | rfl | rfl : j = 0 ∨ j = 1 ∨ j = 2 ∨ j = 3 ∨ j = 4 ∨ j = 5 ∨ j = 6 ∨ j = 7 := by omega
        · have cc := (cr 0).trans (b := some (Value.string ⟨#[40]⟩)) rfl
          clear cr
          obtain ⟨b, hb⟩ : ∃ b, hasL x.data.toList [40] = b := ⟨_, rfl⟩
          cases b
          · have hF3 := signFind_miss 9 ⟨#[40]⟩ hF2 rfl hb
            clear hF2
            go_wp2_with (first
              | (go_at_call 74; refine (hr _ HSc2.out).mono ?_; rintro e w' ⟨rfl, q, rfl⟩)
              | (go_at_call 56; refine (prefix_any _ _ _ false (HSc2.out.drewN _).laid' hb).mono ?_; rintro e w2 ⟨rfl, ⟨q2, rfl⟩⟩))
            exact ⟨⟨_, _, _, _, _, _, _, _, _, _, _, _, _, _, _, _, _, _, _, _, _, ⟨1, rfl, by omega, HSg2.out.drewN _, HSc2.out.drewN _, hF3⟩, rfl⟩, turns (c := 7) (i := 0) (j := 1) (by omega) (by omega)⟩
          · have hl2 : ∀ q : Nat, ((wr.drewN q).alloc (.cells #[.int .i64 9, .int .i64 8] 28)).cell? ⟨wr.heap.size, 0, none⟩ = some (.int .i64 9) := fun q => lit_cell wr _ _ q 0
            obtain rfl := signFind_hit 9 ⟨#[40]⟩ hF2 rfl hb
            clear hF2
            go_wp2_with (first
              | (go_at_call 74; refine (hr _ HSc2.out).mono ?_; rintro e w' ⟨rfl, q, rfl⟩)
              | (go_at_call 56; refine (prefix_any _ _ _ true (HSc2.out.drewN _).laid' hb).mono ?_; rintro e w2 ⟨rfl, ⟨q2, rfl⟩⟩)
              | (go_at_call 76; refine (add_int w0 _ g s a v L n ((HSc2.out.drewN _).alloc _) 9 ⟨#[40]⟩ 1 hl (by omega) _ rfl _ rfl).mono ?_; rintro e w' ⟨rfl, v', h2⟩))
            go_ret
            exact ⟨rfl, v', h2⟩
        · have cc := (cr 1).trans (b := some (Value.string ⟨#[41]⟩)) rfl
          clear cr
          obtain ⟨b, hb⟩ : ∃ b, hasL x.data.toList [41] = b := ⟨_, rfl⟩
          cases b
          · have hF3 := signFind_miss 9 ⟨#[41]⟩ hF2 rfl hb
            clear hF2
            go_wp2_with (first
              | (go_at_call 74; refine (hr _ HSc2.out).mono ?_; rintro e w' ⟨rfl, q, rfl⟩)
              | (go_at_call 56; refine (prefix_any _ _ _ false (HSc2.out.drewN _).laid' hb).mono ?_; rintro e w2 ⟨rfl, ⟨q2, rfl⟩⟩))
            exact ⟨⟨_, _, _, _, _, _, _, _, _, _, _, _, _, _, _, _, _, _, _, _, _, ⟨2, rfl, by omega, HSg2.out.drewN _, HSc2.out.drewN _, hF3⟩, rfl⟩, turns (c := 7) (i := 1) (j := 2) (by omega) (by omega)⟩
          · have hl2 : ∀ q : Nat, ((wr.drewN q).alloc (.cells #[.int .i64 9, .int .i64 8] 28)).cell? ⟨wr.heap.size, 0, none⟩ = some (.int .i64 9) := fun q => lit_cell wr _ _ q 0
            obtain rfl := signFind_hit 9 ⟨#[41]⟩ hF2 rfl hb
            clear hF2
            go_wp2_with (first
              | (go_at_call 74; refine (hr _ HSc2.out).mono ?_; rintro e w' ⟨rfl, q, rfl⟩)
              | (go_at_call 56; refine (prefix_any _ _ _ true (HSc2.out.drewN _).laid' hb).mono ?_; rintro e w2 ⟨rfl, ⟨q2, rfl⟩⟩)
              | (go_at_call 76; refine (add_int w0 _ g s a v L n ((HSc2.out.drewN _).alloc _) 9 ⟨#[41]⟩ 1 hl (by omega) _ rfl _ rfl).mono ?_; rintro e w' ⟨rfl, v', h2⟩))
            go_ret
            exact ⟨rfl, v', h2⟩
        · have cc := (cr 2).trans (b := some (Value.string ⟨#[91]⟩)) rfl
          clear cr
          obtain ⟨b, hb⟩ : ∃ b, hasL x.data.toList [91] = b := ⟨_, rfl⟩
          cases b
          · have hF3 := signFind_miss 9 ⟨#[91]⟩ hF2 rfl hb
            clear hF2
            go_wp2_with (first
              | (go_at_call 74; refine (hr _ HSc2.out).mono ?_; rintro e w' ⟨rfl, q, rfl⟩)
              | (go_at_call 56; refine (prefix_any _ _ _ false (HSc2.out.drewN _).laid' hb).mono ?_; rintro e w2 ⟨rfl, ⟨q2, rfl⟩⟩))
            exact ⟨⟨_, _, _, _, _, _, _, _, _, _, _, _, _, _, _, _, _, _, _, _, _, ⟨3, rfl, by omega, HSg2.out.drewN _, HSc2.out.drewN _, hF3⟩, rfl⟩, turns (c := 7) (i := 2) (j := 3) (by omega) (by omega)⟩
          · have hl2 : ∀ q : Nat, ((wr.drewN q).alloc (.cells #[.int .i64 9, .int .i64 8] 28)).cell? ⟨wr.heap.size, 0, none⟩ = some (.int .i64 9) := fun q => lit_cell wr _ _ q 0
            obtain rfl := signFind_hit 9 ⟨#[91]⟩ hF2 rfl hb
            clear hF2
            go_wp2_with (first
              | (go_at_call 74; refine (hr _ HSc2.out).mono ?_; rintro e w' ⟨rfl, q, rfl⟩)
              | (go_at_call 56; refine (prefix_any _ _ _ true (HSc2.out.drewN _).laid' hb).mono ?_; rintro e w2 ⟨rfl, ⟨q2, rfl⟩⟩)
              | (go_at_call 76; refine (add_int w0 _ g s a v L n ((HSc2.out.drewN _).alloc _) 9 ⟨#[91]⟩ 1 hl (by omega) _ rfl _ rfl).mono ?_; rintro e w' ⟨rfl, v', h2⟩))
            go_ret
            exact ⟨rfl, v', h2⟩
        · have cc := (cr 3).trans (b := some (Value.string ⟨#[93]⟩)) rfl
          clear cr
          obtain ⟨b, hb⟩ : ∃ b, hasL x.data.toList [93] = b := ⟨_, rfl⟩
          cases b
          · have hF3 := signFind_miss 9 ⟨#[93]⟩ hF2 rfl hb
            clear hF2
            go_wp2_with (first
              | (go_at_call 74; refine (hr _ HSc2.out).mono ?_; rintro e w' ⟨rfl, q, rfl⟩)
              | (go_at_call 56; refine (prefix_any _ _ _ false (HSc2.out.drewN _).laid' hb).mono ?_; rintro e w2 ⟨rfl, ⟨q2, rfl⟩⟩))
            exact ⟨⟨_, _, _, _, _, _, _, _, _, _, _, _, _, _, _, _, _, _, _, _, _, ⟨4, rfl, by omega, HSg2.out.drewN _, HSc2.out.drewN _, hF3⟩, rfl⟩, turns (c := 7) (i := 3) (j := 4) (by omega) (by omega)⟩
          · have hl2 : ∀ q : Nat, ((wr.drewN q).alloc (.cells #[.int .i64 9, .int .i64 8] 28)).cell? ⟨wr.heap.size, 0, none⟩ = some (.int .i64 9) := fun q => lit_cell wr _ _ q 0
            obtain rfl := signFind_hit 9 ⟨#[93]⟩ hF2 rfl hb
            clear hF2
            go_wp2_with (first
              | (go_at_call 74; refine (hr _ HSc2.out).mono ?_; rintro e w' ⟨rfl, q, rfl⟩)
              | (go_at_call 56; refine (prefix_any _ _ _ true (HSc2.out.drewN _).laid' hb).mono ?_; rintro e w2 ⟨rfl, ⟨q2, rfl⟩⟩)
              | (go_at_call 76; refine (add_int w0 _ g s a v L n ((HSc2.out.drewN _).alloc _) 9 ⟨#[93]⟩ 1 hl (by omega) _ rfl _ rfl).mono ?_; rintro e w' ⟨rfl, v', h2⟩))
            go_ret
            exact ⟨rfl, v', h2⟩
        · have cc := (cr 4).trans (b := some (Value.string ⟨#[46]⟩)) rfl
          clear cr
          obtain ⟨b, hb⟩ : ∃ b, hasL x.data.toList [46] = b := ⟨_, rfl⟩
          cases b
          · have hF3 := signFind_miss 9 ⟨#[46]⟩ hF2 rfl hb
            clear hF2
            go_wp2_with (first
              | (go_at_call 74; refine (hr _ HSc2.out).mono ?_; rintro e w' ⟨rfl, q, rfl⟩)
              | (go_at_call 56; refine (prefix_any _ _ _ false (HSc2.out.drewN _).laid' hb).mono ?_; rintro e w2 ⟨rfl, ⟨q2, rfl⟩⟩))
            exact ⟨⟨_, _, _, _, _, _, _, _, _, _, _, _, _, _, _, _, _, _, _, _, _, ⟨5, rfl, by omega, HSg2.out.drewN _, HSc2.out.drewN _, hF3⟩, rfl⟩, turns (c := 7) (i := 4) (j := 5) (by omega) (by omega)⟩
          · have hl2 : ∀ q : Nat, ((wr.drewN q).alloc (.cells #[.int .i64 9, .int .i64 8] 28)).cell? ⟨wr.heap.size, 0, none⟩ = some (.int .i64 9) := fun q => lit_cell wr _ _ q 0
            obtain rfl := signFind_hit 9 ⟨#[46]⟩ hF2 rfl hb
            clear hF2
            go_wp2_with (first
              | (go_at_call 74; refine (hr _ HSc2.out).mono ?_; rintro e w' ⟨rfl, q, rfl⟩)
              | (go_at_call 56; refine (prefix_any _ _ _ true (HSc2.out.drewN _).laid' hb).mono ?_; rintro e w2 ⟨rfl, ⟨q2, rfl⟩⟩)
              | (go_at_call 76; refine (add_int w0 _ g s a v L n ((HSc2.out.drewN _).alloc _) 9 ⟨#[46]⟩ 1 hl (by omega) _ rfl _ rfl).mono ?_; rintro e w' ⟨rfl, v', h2⟩))
            go_ret
            exact ⟨rfl, v', h2⟩
        · have cc := (cr 5).trans (b := some (Value.string ⟨#[64]⟩)) rfl
          clear cr
          obtain ⟨b, hb⟩ : ∃ b, hasL x.data.toList [64] = b := ⟨_, rfl⟩
          cases b
          · have hF3 := signFind_miss 9 ⟨#[64]⟩ hF2 rfl hb
            clear hF2
            go_wp2_with (first
              | (go_at_call 74; refine (hr _ HSc2.out).mono ?_; rintro e w' ⟨rfl, q, rfl⟩)
              | (go_at_call 56; refine (prefix_any _ _ _ false (HSc2.out.drewN _).laid' hb).mono ?_; rintro e w2 ⟨rfl, ⟨q2, rfl⟩⟩))
            exact ⟨⟨_, _, _, _, _, _, _, _, _, _, _, _, _, _, _, _, _, _, _, _, _, ⟨6, rfl, by omega, HSg2.out.drewN _, HSc2.out.drewN _, hF3⟩, rfl⟩, turns (c := 7) (i := 5) (j := 6) (by omega) (by omega)⟩
          · have hl2 : ∀ q : Nat, ((wr.drewN q).alloc (.cells #[.int .i64 9, .int .i64 8] 28)).cell? ⟨wr.heap.size, 0, none⟩ = some (.int .i64 9) := fun q => lit_cell wr _ _ q 0
            obtain rfl := signFind_hit 9 ⟨#[64]⟩ hF2 rfl hb
            clear hF2
            go_wp2_with (first
              | (go_at_call 74; refine (hr _ HSc2.out).mono ?_; rintro e w' ⟨rfl, q, rfl⟩)
              | (go_at_call 56; refine (prefix_any _ _ _ true (HSc2.out.drewN _).laid' hb).mono ?_; rintro e w2 ⟨rfl, ⟨q2, rfl⟩⟩)
              | (go_at_call 76; refine (add_int w0 _ g s a v L n ((HSc2.out.drewN _).alloc _) 9 ⟨#[64]⟩ 1 hl (by omega) _ rfl _ rfl).mono ?_; rintro e w' ⟨rfl, v', h2⟩))
            go_ret
            exact ⟨rfl, v', h2⟩
        · have cc := (cr 6).trans (b := some (Value.string ⟨#[44]⟩)) rfl
          clear cr
          obtain ⟨b, hb⟩ : ∃ b, hasL x.data.toList [44] = b := ⟨_, rfl⟩
          cases b
          · have hF3 := signFind_miss 9 ⟨#[44]⟩ hF2 rfl hb
            clear hF2
            go_wp2_with (first
              | (go_at_call 74; refine (hr _ HSc2.out).mono ?_; rintro e w' ⟨rfl, q, rfl⟩)
              | (go_at_call 56; refine (prefix_any _ _ _ false (HSc2.out.drewN _).laid' hb).mono ?_; rintro e w2 ⟨rfl, ⟨q2, rfl⟩⟩))
            exact ⟨⟨_, _, _, _, _, _, _, _, _, _, _, _, _, _, _, _, _, _, _, _, _, ⟨7, rfl, by omega, HSg2.out.drewN _, HSc2.out.drewN _, hF3⟩, rfl⟩, turns (c := 7) (i := 6) (j := 7) (by omega) (by omega)⟩
          · have hl2 : ∀ q : Nat, ((wr.drewN q).alloc (.cells #[.int .i64 9, .int .i64 8] 28)).cell? ⟨wr.heap.size, 0, none⟩ = some (.int .i64 9) := fun q => lit_cell wr _ _ q 0
            obtain rfl := signFind_hit 9 ⟨#[44]⟩ hF2 rfl hb
            clear hF2
            go_wp2_with (first
              | (go_at_call 74; refine (hr _ HSc2.out).mono ?_; rintro e w' ⟨rfl, q, rfl⟩)
              | (go_at_call 56; refine (prefix_any _ _ _ true (HSc2.out.drewN _).laid' hb).mono ?_; rintro e w2 ⟨rfl, ⟨q2, rfl⟩⟩)
              | (go_at_call 76; refine (add_int w0 _ g s a v L n ((HSc2.out.drewN _).alloc _) 9 ⟨#[44]⟩ 1 hl (by omega) _ rfl _ rfl).mono ?_; rintro e w' ⟨rfl, v', h2⟩))
            go_ret
            exact ⟨rfl, v', h2⟩
        · clear cr
          go_wp2
          exact ⟨⟨3, rfl, by omega, HSg2.out, HSc2.out, hF2⟩, turns (c := 4) (i := 2) (j := 3) (by omega) (by omega)⟩
    · have c1 : wr.cell? ⟨w.heap.size + 4, 3, none⟩ = some (.slice (some ⟨w.heap.size + 3, 0, none⟩) 7 7) := (c0 3).trans rfl
      clear c0 HS HRR
      go_wp2
      go_loopw [20] (fun v20 wr2 => ∃ j : Nat, v20 = .int .i64 (j : Int) ∧ j ≤ 7 ∧ Signs w.heap.size wr2 ∧ Scn w0 wr2 g s a v L n ∧ Hid (signFind x (13 + j) = R)) (fun v20 _ => 7 - slotNat v20)
      case atStart => exact ⟨0, rfl, by omega, HSg.out, HSc.out, hF⟩
      case round =>
        obtain ⟨j, rfl, hj, hSg2, hSc2, hF2⟩ := hrel
        have cr := fun k => blk_cell hSg2.r3 k
        have HSg2 := Lib.hid hSg2
        have HSc2 := Lib.hid hSc2
        clear hSg2 hSc2 HSg HSc hF
        obtain rfl | rfl | rfl | rfl | rfl | rfl | rfl | rfl : j = 0 ∨ j = 1 ∨ j = 2 ∨ j = 3 ∨ j = 4 ∨ j = 5 ∨ j = 6 ∨ j = 7 := by omega
        · have cc := (cr 0).trans (b := some (Value.string ⟨#[47]⟩)) rfl
          clear cr
          obtain ⟨b, hb⟩ : ∃ b, hasL x.data.toList [47] = b := ⟨_, rfl⟩
          cases b
          · have hF3 := signFind_miss 8 ⟨#[47]⟩ hF2 rfl hb
            clear hF2
            go_wp2_with (first
              | (go_at_call 74; refine (hr _ HSc2.out).mono ?_; rintro e w' ⟨rfl, q, rfl⟩)
              | (go_at_call 56; refine (prefix_any _ _ _ false (HSc2.out.drewN _).laid' hb).mono ?_; rintro e w2 ⟨rfl, ⟨q2, rfl⟩⟩))
            exact ⟨⟨_, _, _, _, _, _, _, _, _, _, _, _, _, _, _, _, _, _, _, _, _, ⟨1, rfl, by omega, HSg2.out.drewN _, HSc2.out.drewN _, hF3⟩, rfl⟩, turns (c := 7) (i := 0) (j := 1) (by omega) (by omega)⟩
          · have hl2 : ∀ q : Nat, ((wr.drewN q).alloc (.cells #[.int .i64 9, .int .i64 8] 28)).cell? ⟨wr.heap.size, 1, none⟩ = some (.int .i64 8) := fun q => lit_cell wr _ _ q 1
            obtain rfl := signFind_hit 8 ⟨#[47]⟩ hF2 rfl hb
            clear hF2
            go_wp2_with (first
              | (go_at_call 74; refine (hr _ HSc2.out).mono ?_; rintro e w' ⟨rfl, q, rfl⟩)
              | (go_at_call 56; refine (prefix_any _ _ _ true (HSc2.out.drewN _).laid' hb).mono ?_; rintro e w2 ⟨rfl, ⟨q2, rfl⟩⟩)
              | (go_at_call 76; refine (add_int w0 _ g s a v L n ((HSc2.out.drewN _).alloc _) 8 ⟨#[47]⟩ 1 hl (by omega) _ rfl _ rfl).mono ?_; rintro e w' ⟨rfl, v', h2⟩))
            go_ret
            exact ⟨rfl, v', h2⟩
        · have cc := (cr 1).trans (b := some (Value.string ⟨#[124]⟩)) rfl
          clear cr
          obtain ⟨b, hb⟩ : ∃ b, hasL x.data.toList [124] = b := ⟨_, rfl⟩
          cases b
          · have hF3 := signFind_miss 8 ⟨#[124]⟩ hF2 rfl hb
            clear hF2
            go_wp2_with (first
              | (go_at_call 74; refine (hr _ HSc2.out).mono ?_; rintro e w' ⟨rfl, q, rfl⟩)
              | (go_at_call 56; refine (prefix_any _ _ _ false (HSc2.out.drewN _).laid' hb).mono ?_; rintro e w2 ⟨rfl, ⟨q2, rfl⟩⟩))
            exact ⟨⟨_, _, _, _, _, _, _, _, _, _, _, _, _, _, _, _, _, _, _, _, _, ⟨2, rfl, by omega, HSg2.out.drewN _, HSc2.out.drewN _, hF3⟩, rfl⟩, turns (c := 7) (i := 1) (j := 2) (by omega) (by omega)⟩
          · have hl2 : ∀ q : Nat, ((wr.drewN q).alloc (.cells #[.int .i64 9, .int .i64 8] 28)).cell? ⟨wr.heap.size, 1, none⟩ = some (.int .i64 8) := fun q => lit_cell wr _ _ q 1
            obtain rfl := signFind_hit 8 ⟨#[124]⟩ hF2 rfl hb
            clear hF2
            go_wp2_with (first
              | (go_at_call 74; refine (hr _ HSc2.out).mono ?_; rintro e w' ⟨rfl, q, rfl⟩)
              | (go_at_call 56; refine (prefix_any _ _ _ true (HSc2.out.drewN _).laid' hb).mono ?_; rintro e w2 ⟨rfl, ⟨q2, rfl⟩⟩)
              | (go_at_call 76; refine (add_int w0 _ g s a v L n ((HSc2.out.drewN _).alloc _) 8 ⟨#[124]⟩ 1 hl (by omega) _ rfl _ rfl).mono ?_; rintro e w' ⟨rfl, v', h2⟩))
            go_ret
            exact ⟨rfl, v', h2⟩
        · have cc := (cr 2).trans (b := some (Value.string ⟨#[43]⟩)) rfl
          clear cr
          obtain ⟨b, hb⟩ : ∃ b, hasL x.data.toList [43] = b := ⟨_, rfl⟩
          cases b
          · have hF3 := signFind_miss 8 ⟨#[43]⟩ hF2 rfl hb
            clear hF2
            go_wp2_with (first
              | (go_at_call 74; refine (hr _ HSc2.out).mono ?_; rintro e w' ⟨rfl, q, rfl⟩)
              | (go_at_call 56; refine (prefix_any _ _ _ false (HSc2.out.drewN _).laid' hb).mono ?_; rintro e w2 ⟨rfl, ⟨q2, rfl⟩⟩))
            exact ⟨⟨_, _, _, _, _, _, _, _, _, _, _, _, _, _, _, _, _, _, _, _, _, ⟨3, rfl, by omega, HSg2.out.drewN _, HSc2.out.drewN _, hF3⟩, rfl⟩, turns (c := 7) (i := 2) (j := 3) (by omega) (by omega)⟩
          · have hl2 : ∀ q : Nat, ((wr.drewN q).alloc (.cells #[.int .i64 9, .int .i64 8] 28)).cell? ⟨wr.heap.size, 1, none⟩ = some (.int .i64 8) := fun q => lit_cell wr _ _ q 1
            obtain rfl := signFind_hit 8 ⟨#[43]⟩ hF2 rfl hb
            clear hF2
            go_wp2_with (first
              | (go_at_call 74; refine (hr _ HSc2.out).mono ?_; rintro e w' ⟨rfl, q, rfl⟩)
              | (go_at_call 56; refine (prefix_any _ _ _ true (HSc2.out.drewN _).laid' hb).mono ?_; rintro e w2 ⟨rfl, ⟨q2, rfl⟩⟩)
              | (go_at_call 76; refine (add_int w0 _ g s a v L n ((HSc2.out.drewN _).alloc _) 8 ⟨#[43]⟩ 1 hl (by omega) _ rfl _ rfl).mono ?_; rintro e w' ⟨rfl, v', h2⟩))
            go_ret
            exact ⟨rfl, v', h2⟩
        · have cc := (cr 3).trans (b := some (Value.string ⟨#[45]⟩)) rfl
          clear cr
          obtain ⟨b, hb⟩ : ∃ b, hasL x.data.toList [45] = b := ⟨_, rfl⟩
          cases b
          · have hF3 := signFind_miss 8 ⟨#[45]⟩ hF2 rfl hb
            clear hF2
            go_wp2_with (first
              | (go_at_call 74; refine (hr _ HSc2.out).mono ?_; rintro e w' ⟨rfl, q, rfl⟩)
              | (go_at_call 56; refine (prefix_any _ _ _ false (HSc2.out.drewN _).laid' hb).mono ?_; rintro e w2 ⟨rfl, ⟨q2, rfl⟩⟩))
            exact ⟨⟨_, _, _, _, _, _, _, _, _, _, _, _, _, _, _, _, _, _, _, _, _, ⟨4, rfl, by omega, HSg2.out.drewN _, HSc2.out.drewN _, hF3⟩, rfl⟩, turns (c := 7) (i := 3) (j := 4) (by omega) (by omega)⟩
          · have hl2 : ∀ q : Nat, ((wr.drewN q).alloc (.cells #[.int .i64 9, .int .i64 8] 28)).cell? ⟨wr.heap.size, 1, none⟩ = some (.int .i64 8) := fun q => lit_cell wr _ _ q 1
            obtain rfl := signFind_hit 8 ⟨#[45]⟩ hF2 rfl hb
            clear hF2
            go_wp2_with (first
              | (go_at_call 74; refine (hr _ HSc2.out).mono ?_; rintro e w' ⟨rfl, q, rfl⟩)
              | (go_at_call 56; refine (prefix_any _ _ _ true (HSc2.out.drewN _).laid' hb).mono ?_; rintro e w2 ⟨rfl, ⟨q2, rfl⟩⟩)
              | (go_at_call 76; refine (add_int w0 _ g s a v L n ((HSc2.out.drewN _).alloc _) 8 ⟨#[45]⟩ 1 hl (by omega) _ rfl _ rfl).mono ?_; rintro e w' ⟨rfl, v', h2⟩))
            go_ret
            exact ⟨rfl, v', h2⟩
        · have cc := (cr 4).trans (b := some (Value.string ⟨#[61]⟩)) rfl
          clear cr
          obtain ⟨b, hb⟩ : ∃ b, hasL x.data.toList [61] = b := ⟨_, rfl⟩
          cases b
          · have hF3 := signFind_miss 8 ⟨#[61]⟩ hF2 rfl hb
            clear hF2
            go_wp2_with (first
              | (go_at_call 74; refine (hr _ HSc2.out).mono ?_; rintro e w' ⟨rfl, q, rfl⟩)
              | (go_at_call 56; refine (prefix_any _ _ _ false (HSc2.out.drewN _).laid' hb).mono ?_; rintro e w2 ⟨rfl, ⟨q2, rfl⟩⟩))
            exact ⟨⟨_, _, _, _, _, _, _, _, _, _, _, _, _, _, _, _, _, _, _, _, _, ⟨5, rfl, by omega, HSg2.out.drewN _, HSc2.out.drewN _, hF3⟩, rfl⟩, turns (c := 7) (i := 4) (j := 5) (by omega) (by omega)⟩
          · have hl2 : ∀ q : Nat, ((wr.drewN q).alloc (.cells #[.int .i64 9, .int .i64 8] 28)).cell? ⟨wr.heap.size, 1, none⟩ = some (.int .i64 8) := fun q => lit_cell wr _ _ q 1
            obtain rfl := signFind_hit 8 ⟨#[61]⟩ hF2 rfl hb
            clear hF2
            go_wp2_with (first
              | (go_at_call 74; refine (hr _ HSc2.out).mono ?_; rintro e w' ⟨rfl, q, rfl⟩)
              | (go_at_call 56; refine (prefix_any _ _ _ true (HSc2.out.drewN _).laid' hb).mono ?_; rintro e w2 ⟨rfl, ⟨q2, rfl⟩⟩)
              | (go_at_call 76; refine (add_int w0 _ g s a v L n ((HSc2.out.drewN _).alloc _) 8 ⟨#[61]⟩ 1 hl (by omega) _ rfl _ rfl).mono ?_; rintro e w' ⟨rfl, v', h2⟩))
            go_ret
            exact ⟨rfl, v', h2⟩
        · have cc := (cr 5).trans (b := some (Value.string ⟨#[60]⟩)) rfl
          clear cr
          obtain ⟨b, hb⟩ : ∃ b, hasL x.data.toList [60] = b := ⟨_, rfl⟩
          cases b
          · have hF3 := signFind_miss 8 ⟨#[60]⟩ hF2 rfl hb
            clear hF2
            go_wp2_with (first
              | (go_at_call 74; refine (hr _ HSc2.out).mono ?_; rintro e w' ⟨rfl, q, rfl⟩)
              | (go_at_call 56; refine (prefix_any _ _ _ false (HSc2.out.drewN _).laid' hb).mono ?_; rintro e w2 ⟨rfl, ⟨q2, rfl⟩⟩))
            exact ⟨⟨_, _, _, _, _, _, _, _, _, _, _, _, _, _, _, _, _, _, _, _, _, ⟨6, rfl, by omega, HSg2.out.drewN _, HSc2.out.drewN _, hF3⟩, rfl⟩, turns (c := 7) (i := 5) (j := 6) (by omega) (by omega)⟩
          · have hl2 : ∀ q : Nat, ((wr.drewN q).alloc (.cells #[.int .i64 9, .int .i64 8] 28)).cell? ⟨wr.heap.size, 1, none⟩ = some (.int .i64 8) := fun q => lit_cell wr _ _ q 1
            obtain rfl := signFind_hit 8 ⟨#[60]⟩ hF2 rfl hb
            clear hF2
            go_wp2_with (first
              | (go_at_call 74; refine (hr _ HSc2.out).mono ?_; rintro e w' ⟨rfl, q, rfl⟩)
              | (go_at_call 56; refine (prefix_any _ _ _ true (HSc2.out.drewN _).laid' hb).mono ?_; rintro e w2 ⟨rfl, ⟨q2, rfl⟩⟩)
              | (go_at_call 76; refine (add_int w0 _ g s a v L n ((HSc2.out.drewN _).alloc _) 8 ⟨#[60]⟩ 1 hl (by omega) _ rfl _ rfl).mono ?_; rintro e w' ⟨rfl, v', h2⟩))
            go_ret
            exact ⟨rfl, v', h2⟩
        · have cc := (cr 6).trans (b := some (Value.string ⟨#[62]⟩)) rfl
          clear cr
          obtain ⟨b, hb⟩ : ∃ b, hasL x.data.toList [62] = b := ⟨_, rfl⟩
          cases b
          · have hF3 := signFind_miss 8 ⟨#[62]⟩ hF2 rfl hb
            clear hF2
            go_wp2_with (first
              | (go_at_call 74; refine (hr _ HSc2.out).mono ?_; rintro e w' ⟨rfl, q, rfl⟩)
              | (go_at_call 56; refine (prefix_any _ _ _ false (HSc2.out.drewN _).laid' hb).mono ?_; rintro e w2 ⟨rfl, ⟨q2, rfl⟩⟩))
            exact ⟨⟨_, _, _, _, _, _, _, _, _, _, _, _, _, _, _, _, _, _, _, _, _, ⟨7, rfl, by omega, HSg2.out.drewN _, HSc2.out.drewN _, hF3⟩, rfl⟩, turns (c := 7) (i := 6) (j := 7) (by omega) (by omega)⟩
          · have hl2 : ∀ q : Nat, ((wr.drewN q).alloc (.cells #[.int .i64 9, .int .i64 8] 28)).cell? ⟨wr.heap.size, 1, none⟩ = some (.int .i64 8) := fun q => lit_cell wr _ _ q 1
            obtain rfl := signFind_hit 8 ⟨#[62]⟩ hF2 rfl hb
            clear hF2
            go_wp2_with (first
              | (go_at_call 74; refine (hr _ HSc2.out).mono ?_; rintro e w' ⟨rfl, q, rfl⟩)
              | (go_at_call 56; refine (prefix_any _ _ _ true (HSc2.out.drewN _).laid' hb).mono ?_; rintro e w2 ⟨rfl, ⟨q2, rfl⟩⟩)
              | (go_at_call 76; refine (add_int w0 _ g s a v L n ((HSc2.out.drewN _).alloc _) 8 ⟨#[62]⟩ 1 hl (by omega) _ rfl _ rfl).mono ?_; rintro e w' ⟨rfl, v', h2⟩))
            go_ret
            exact ⟨rfl, v', h2⟩
        · clear cr
          go_wp2
          exact ⟨⟨4, rfl, by omega, HSg2.out, HSc2.out, hF2⟩, turns (c := 4) (i := 3) (j := 4) (by omega) (by omega)⟩
    · clear c0
      obtain rfl : R = none := hF.out.symm
      clear hF
      go_wp2
      go_ret
      exact ⟨rfl, HSc.out⟩
def TokPost (w0 : World) (g : Nat) (s : ByteArray) (a : Nat) (v : Value) (L : List S30) (n : Int) (R : Option (Int × ByteArray × Nat)) (e : Ending) (w' : World) : Prop :=
  match R with
  | none => e = .returned (.bool false) ∧ Scn w0 w' g s a v L n
  | some (k, t, m) => e = .returned (.bool true) ∧ ∃ v', Scn w0 w' g s (a + m) v' (L ++ [⟨k, t, (a : Int)⟩]) (nextOf k t)
theorem number_any (w : World) (x : ByteArray) (m : Nat) (HL : Laid w) (hx : x.size ≤ 1000000000) (hm : numberL x.data.toList = m) :
    Calls Tryd.prog 75 #[.string x] w fun e w' => e = .returned (.int .i64 (m : Int)) ∧ Below w.heap.size w w' := by
  subst hm
  exact xplex_number.calls x _ w HL (number_f x hx)
theorem qname_any (w : World) (x : ByteArray) (m : Nat) (HL : Laid w) (hx : x.size ≤ 1000000000) (hm : qnameL x.data.toList = m) :
    Calls Tryd.prog 78 #[.string x] w fun e w' => e = .returned (.int .i64 (m : Int)) ∧ Below w.heap.size w w' := by
  subst hm
  exact xplex_qname.calls 1 x _ w HL (qname_f x hx)
theorem nm_any (w : World) (x : ByteArray) (m : Nat) (HL : Laid w) (hx : x.size ≤ 1000000000) (hm : nmL x.data.toList = m) :
    Calls Tryd.prog 79 #[.string x] w fun e w' => e = .returned (.int .i64 (m : Int)) ∧ Below w.heap.size w w' := by
  subst hm
  exact xplex_name.calls x _ w HL (name_f x hx)
theorem ibyte_any (w : World) (x : ByteArray) (b r : Int) (HL : Laid w) (hr : Lib.indexByte x.data.toList b.toNat.toUInt8 = r) :
    Calls Tryd.prog 77 #[.string x, .int .u8 b] w fun e w' => e = .returned (.int .i64 r) ∧ Drawn0 w w' := by
  subst hr
  exact strings_IndexByte.calls x b _ w HL rfl
theorem next_1 (t : ByteArray) : nextOf 1 t = 1 := by simp [nextOf]
theorem next_2 (t : ByteArray) : nextOf 2 t = 1 := by simp [nextOf]
theorem next_7 (t : ByteArray) : nextOf 7 t = 1 := by simp [nextOf]
set_option maxRecDepth 100000 in
set_option maxHeartbeats 4000000 in
theorem tok_number (w0 w : World) (g : Nat) (s : ByteArray) (a : Nat) (v : Value) (L : List S30) (n : Int) (hS : Scn w0 w g s a v L n) (ha : a < s.size) (hs : s.size ≤ 100000000) (x : ByteArray) (hx : s.extract a s.size = x) (hl : (L.length + 1) * 32 ≤ 140737488355328) (m : Nat) (hm : numberL x.data.toList = m) (h0 : 0 < m) (hmx : m ≤ x.size) :
    Calls Tryd.prog 53 #[.pointer (some ⟨g, 0, none⟩)] w (TokPost w0 g s a v L n (some (1, x.extract 0 m, m))) := by
  have hxs : x.size = s.size - a := by rw [← hx, ext_size _ _ (by omega)]
  have b0 : (0 : Int) ≤ (m : Int) := by omega
  have b1 : (m : Int) ≤ (x.size : Int) := by omega
  have b2 : decide ((m : Int) > 0) = true := decide_eq_true (by omega)
  have b3 : decide ((0 : Int) < (m : Int)) = true := decide_eq_true (by omega)
  have ham : a + m ≤ 1000000000 := by omega
  have hxb : x.size ≤ 1000000000 := by omega
  have hr := fun w (h : Scn w0 w g s a v L n) => rest_any w g s a h.cell0 h.cell1 (by omega)
  rw [hx] at hr
  have HS := Lib.hid hS
  have HH := Lib.hid ham
  have HX := Lib.hid hxb
  have HL := Lib.hid hl
  clear hS hx hxs ham hl hxb
  go_enter Tryd.func53, Tryd.ntmps53
  go_wp2
  go_step3
  go_wp2_with (first
      | (go_at_call 74; refine (hr _ HS.out).mono ?_; rintro e w' ⟨rfl, q, rfl⟩)
      | (go_at_call 75; refine (number_any _ x m (HS.out.drewN _).laid' HX.out hm).mono ?_; rintro e w2 ⟨rfl, hb2⟩; have HS2 := Lib.hid ((HS.out.drewN q).below hb2))
      | (go_at_call 76; refine (add_int w0 _ g s a v L n (HS2.out) 1 _ m HL.out HH.out _ rfl _ rfl).mono ?_; rintro e w' ⟨rfl, v', h3⟩))
  rw [Exit.noGoto_ret]
  go_ret
  exact ⟨rfl, v', h3⟩
set_option maxRecDepth 100000 in
set_option maxHeartbeats 4000000 in
theorem tok_sign (w0 w : World) (g : Nat) (s : ByteArray) (a : Nat) (v : Value) (L : List S30) (n : Int) (hS : Scn w0 w g s a v L n) (ha : a < s.size) (hs : s.size ≤ 100000000) (x : ByteArray) (hx : s.extract a s.size = x) (hl : (L.length + 1) * 32 ≤ 140737488355328) (hm : numberL x.data.toList = 0) (p : 0 < x.size)
    (h34 : (((x[0]'p).toNat : Int) == 34) = false) (h39 : (((x[0]'p).toNat : Int) == 39) = false) (h36 : (((x[0]'p).toNat : Int) == 36) = false) (h42 : (((x[0]'p).toNat : Int) == 42) = false) (hn : nmL x.data.toList = 0) (R : Option (Int × ByteArray)) (hR : signFind x 0 = R) :
    Calls Tryd.prog 53 #[.pointer (some ⟨g, 0, none⟩)] w (TokPost w0 g s a v L n (R.map fun r => (r.1, r.2, r.2.size))) := by
  have hxs : x.size = s.size - a := by rw [← hx, ext_size _ _ (by omega)]
  have b0 : (0 : Int) < (x.size : Int) := by omega
  have b9 : (1 : Int) ≤ (x.size : Int) := by omega
  have hxb : x.size ≤ 1000000000 := by omega
  have hxe : (x.extract 1 x.size).size ≤ 1000000000 := by rw [ByteArray.size_extract]; omega
  have hsg := fun w (h : Scn w0 w g s a v L n) => sign_any w0 w g s a v L n h (by omega) hs hl R (by rw [hx]; exact hR)
  have hr := fun w (h : Scn w0 w g s a v L n) => rest_any w g s a h.cell0 h.cell1 (by omega)
  rw [hx] at hr
  have HS := Lib.hid hS
  have HX := Lib.hid hxb
  have HXE := Lib.hid hxe
  have HL := Lib.hid hl
  clear hS hx hxs hl hxb hxe hR
  go_enter Tryd.func53, Tryd.ntmps53
  go_wp2
  go_step3
  rcases R with _ | ⟨kk, tt⟩
  · go_wp2_with (first
      | (go_at_call 74; refine (hr _ HS.out).mono ?_; rintro e w' ⟨rfl, q, rfl⟩)
      | (go_at_call 75; refine (number_any _ x 0 (HS.out.drewN _).laid' HX.out hm).mono ?_; rintro e w2 ⟨rfl, hb2⟩; have HS2 := Lib.hid ((HS.out.drewN q).below hb2))
      | (go_at_call 79; refine (nm_any _ x 0 HS2.out.laid' HX.out hn).mono ?_; rintro e w3 ⟨rfl, hb3⟩; have HS3 := Lib.hid (HS2.out.below hb3))
      | (go_at_call 81; refine (hsg _ HS3.out).mono ?_; rintro e w4 ⟨rfl, h4⟩))
    rw [Exit.noGoto_ret]
    go_ret
    exact ⟨rfl, h4⟩
  · go_wp2_with (first
      | (go_at_call 74; refine (hr _ HS.out).mono ?_; rintro e w' ⟨rfl, q, rfl⟩)
      | (go_at_call 75; refine (number_any _ x 0 (HS.out.drewN _).laid' HX.out hm).mono ?_; rintro e w2 ⟨rfl, hb2⟩; have HS2 := Lib.hid ((HS.out.drewN q).below hb2))
      | (go_at_call 79; refine (nm_any _ x 0 HS2.out.laid' HX.out hn).mono ?_; rintro e w3 ⟨rfl, hb3⟩; have HS3 := Lib.hid (HS2.out.below hb3))
      | (go_at_call 81; refine (hsg _ HS3.out).mono ?_; rintro e w4 ⟨rfl, v', h4⟩))
    rw [Exit.noGoto_ret]
    go_ret
    exact ⟨rfl, v', h4⟩
set_option maxRecDepth 100000 in
set_option maxHeartbeats 4000000 in
theorem tok_word (w0 w : World) (g : Nat) (s : ByteArray) (a : Nat) (v : Value) (L : List S30) (n : Int) (hS : Scn w0 w g s a v L n) (ha : a < s.size) (hs : s.size ≤ 100000000) (x : ByteArray) (hx : s.extract a s.size = x) (hl : (L.length + 1) * 32 ≤ 140737488355328) (hm : numberL x.data.toList = 0) (p : 0 < x.size)
    (h34 : (((x[0]'p).toNat : Int) == 34) = false) (h39 : (((x[0]'p).toNat : Int) == 39) = false) (h36 : (((x[0]'p).toNat : Int) == 36) = false) (h42 : (((x[0]'p).toNat : Int) == 42) = false) (m : Nat) (hn : nmL x.data.toList = m) (h0 : 0 < m) (R : Option (Int × ByteArray × Nat))
    (hW : ∀ W, Scn w0 W g s a v L n → Calls Tryd.prog 80 #[.pointer (some ⟨g, 0, none⟩), .int .i64 (m : Int)] W (TokPost w0 g s a v L n R)) :
    Calls Tryd.prog 53 #[.pointer (some ⟨g, 0, none⟩)] w (TokPost w0 g s a v L n R) := by
  have hxs : x.size = s.size - a := by rw [← hx, ext_size _ _ (by omega)]
  have b0 : (0 : Int) < (x.size : Int) := by omega
  have b9 : (1 : Int) ≤ (x.size : Int) := by omega
  have hxb : x.size ≤ 1000000000 := by omega
  have hxe : (x.extract 1 x.size).size ≤ 1000000000 := by rw [ByteArray.size_extract]; omega
  have b2 : decide ((m : Int) > 0) = true := decide_eq_true (by omega)
  have b3 : decide ((0 : Int) < (m : Int)) = true := decide_eq_true (by omega)
  have hr := fun w (h : Scn w0 w g s a v L n) => rest_any w g s a h.cell0 h.cell1 (by omega)
  rw [hx] at hr
  have HS := Lib.hid hS
  have HX := Lib.hid hxb
  have HXE := Lib.hid hxe
  have HL := Lib.hid hl
  clear hS hx hxs hl hxb hxe 
  go_enter Tryd.func53, Tryd.ntmps53
  go_wp2
  go_step3
  rcases R with _ | ⟨kk, tt, mm⟩
  · go_wp2_with (first
      | (go_at_call 74; refine (hr _ HS.out).mono ?_; rintro e w' ⟨rfl, q, rfl⟩)
      | (go_at_call 75; refine (number_any _ x 0 (HS.out.drewN _).laid' HX.out hm).mono ?_; rintro e w2 ⟨rfl, hb2⟩; have HS2 := Lib.hid ((HS.out.drewN q).below hb2))
      | (go_at_call 79; refine (nm_any _ x m HS2.out.laid' HX.out hn).mono ?_; rintro e w3 ⟨rfl, hb3⟩; have HS3 := Lib.hid (HS2.out.below hb3))
      | (go_at_call 80; refine (hW _ HS3.out).mono ?_; rintro e w4 ⟨rfl, h4⟩))
    rw [Exit.noGoto_ret]
    go_ret
    exact ⟨rfl, h4⟩
  · go_wp2_with (first
      | (go_at_call 74; refine (hr _ HS.out).mono ?_; rintro e w' ⟨rfl, q, rfl⟩)
      | (go_at_call 75; refine (number_any _ x 0 (HS.out.drewN _).laid' HX.out hm).mono ?_; rintro e w2 ⟨rfl, hb2⟩; have HS2 := Lib.hid ((HS.out.drewN q).below hb2))
      | (go_at_call 79; refine (nm_any _ x m HS2.out.laid' HX.out hn).mono ?_; rintro e w3 ⟨rfl, hb3⟩; have HS3 := Lib.hid (HS2.out.below hb3))
      | (go_at_call 80; refine (hW _ HS3.out).mono ?_; rintro e w4 ⟨rfl, v', h4⟩))
    rw [Exit.noGoto_ret]
    go_ret
    exact ⟨rfl, v', h4⟩
theorem lit_cell' (W : World) (cs : Array Value) (t k : Nat) : (W.alloc (.cells cs t)).cell? ⟨W.heap.size, k, none⟩ = cs[k]? := lit_cell W cs t 0 k
set_option maxRecDepth 100000 in
set_option maxHeartbeats 4000000 in
theorem tok_star0 (w0 w : World) (g : Nat) (s : ByteArray) (a : Nat) (v : Value) (L : List S30) (hS : Scn w0 w g s a v L 0) (ha : a < s.size) (hs : s.size ≤ 100000000) (x : ByteArray) (hx : s.extract a s.size = x) (hl : (L.length + 1) * 32 ≤ 140737488355328) (hm : numberL x.data.toList = 0) (p : 0 < x.size)
    (h34 : (((x[0]'p).toNat : Int) == 34) = false) (h39 : (((x[0]'p).toNat : Int) == 39) = false) (h36 : (((x[0]'p).toNat : Int) == 36) = false) (h42 : (((x[0]'p).toNat : Int) == 42) = true) :
    Calls Tryd.prog 53 #[.pointer (some ⟨g, 0, none⟩)] w (TokPost w0 g s a v L 0 (some (3, ⟨#[42]⟩, 1))) := by
  have hxs : x.size = s.size - a := by rw [← hx, ext_size _ _ (by omega)]
  have b0 : (0 : Int) < (x.size : Int) := by omega
  have b9 : (1 : Int) ≤ (x.size : Int) := by omega
  have hxb : x.size ≤ 1000000000 := by omega
  have hxe : (x.extract 1 x.size).size ≤ 1000000000 := by rw [ByteArray.size_extract]; omega
  have ham : a + 1 ≤ 1000000000 := by omega
  have HH := Lib.hid ham
  have hr := fun w (h : Scn w0 w g s a v L 0) => rest_any w g s a h.cell0 h.cell1 (by omega)
  rw [hx] at hr
  have HS := Lib.hid hS
  have HX := Lib.hid hxb
  have HXE := Lib.hid hxe
  have HL := Lib.hid hl
  clear hS hx hxs hl hxb hxe ham
  go_enter Tryd.func53, Tryd.ntmps53
  go_wp2
  go_step3
  go_wp2_with (first
    | (go_at_call 74; refine (hr _ HS.out).mono ?_; rintro e w' ⟨rfl, q, rfl⟩)
    | (go_at_call 75; refine (number_any _ x 0 (HS.out.drewN _).laid' HX.out hm).mono ?_; rintro e w2 ⟨rfl, hb2⟩; have HS2 := Lib.hid ((HS.out.drewN q).below hb2); have c3 := HS2.out.cell3; have hl2 : (w2.alloc (.cells #[.int .i64 3, .int .i64 8] 28)).cell? ⟨w2.heap.size, 0, none⟩ = some (.int .i64 3) := lit_cell' w2 _ _ 0; have c3' := (HS2.out.alloc (.cells #[.int .i64 3, .int .i64 8] 28)).cell3)
    | (go_at_call 76; refine (add_int w0 _ g s a v L 0 (HS2.out.alloc _) 3 ⟨#[42]⟩ 1 HL.out HH.out _ rfl _ rfl).mono ?_; rintro e w' ⟨rfl, v', h3⟩))
  rw [Exit.noGoto_ret]
  go_ret
  exact ⟨rfl, v', h3⟩
set_option maxRecDepth 100000 in
set_option maxHeartbeats 4000000 in
theorem tok_star1 (w0 w : World) (g : Nat) (s : ByteArray) (a : Nat) (v : Value) (L : List S30) (hS : Scn w0 w g s a v L 1) (ha : a < s.size) (hs : s.size ≤ 100000000) (x : ByteArray) (hx : s.extract a s.size = x) (hl : (L.length + 1) * 32 ≤ 140737488355328) (hm : numberL x.data.toList = 0) (p : 0 < x.size)
    (h34 : (((x[0]'p).toNat : Int) == 34) = false) (h39 : (((x[0]'p).toNat : Int) == 39) = false) (h36 : (((x[0]'p).toNat : Int) == 36) = false) (h42 : (((x[0]'p).toNat : Int) == 42) = true) :
    Calls Tryd.prog 53 #[.pointer (some ⟨g, 0, none⟩)] w (TokPost w0 g s a v L 1 (some (8, ⟨#[42]⟩, 1))) := by
  have hxs : x.size = s.size - a := by rw [← hx, ext_size _ _ (by omega)]
  have b0 : (0 : Int) < (x.size : Int) := by omega
  have b9 : (1 : Int) ≤ (x.size : Int) := by omega
  have hxb : x.size ≤ 1000000000 := by omega
  have hxe : (x.extract 1 x.size).size ≤ 1000000000 := by rw [ByteArray.size_extract]; omega
  have ham : a + 1 ≤ 1000000000 := by omega
  have HH := Lib.hid ham
  have hr := fun w (h : Scn w0 w g s a v L 1) => rest_any w g s a h.cell0 h.cell1 (by omega)
  rw [hx] at hr
  have HS := Lib.hid hS
  have HX := Lib.hid hxb
  have HXE := Lib.hid hxe
  have HL := Lib.hid hl
  clear hS hx hxs hl hxb hxe ham
  go_enter Tryd.func53, Tryd.ntmps53
  go_wp2
  go_step3
  go_wp2_with (first
    | (go_at_call 74; refine (hr _ HS.out).mono ?_; rintro e w' ⟨rfl, q, rfl⟩)
    | (go_at_call 75; refine (number_any _ x 0 (HS.out.drewN _).laid' HX.out hm).mono ?_; rintro e w2 ⟨rfl, hb2⟩; have HS2 := Lib.hid ((HS.out.drewN q).below hb2); have c3 := HS2.out.cell3; have hl2 : (w2.alloc (.cells #[.int .i64 3, .int .i64 8] 28)).cell? ⟨w2.heap.size, 1, none⟩ = some (.int .i64 8) := lit_cell' w2 _ _ 1; have c3' := (HS2.out.alloc (.cells #[.int .i64 3, .int .i64 8] 28)).cell3)
    | (go_at_call 76; refine (add_int w0 _ g s a v L 1 (HS2.out.alloc _) 8 ⟨#[42]⟩ 1 HL.out HH.out _ rfl _ rfl).mono ?_; rintro e w' ⟨rfl, v', h3⟩))
  rw [Exit.noGoto_ret]
  go_ret
  exact ⟨rfl, v', h3⟩
set_option maxRecDepth 100000 in
set_option maxHeartbeats 4000000 in
theorem tok_quote34 (w0 w : World) (g : Nat) (s : ByteArray) (a : Nat) (v : Value) (L : List S30) (n : Int) (hS : Scn w0 w g s a v L n) (ha : a < s.size) (hs : s.size ≤ 100000000) (x : ByteArray) (hx : s.extract a s.size = x) (hl : (L.length + 1) * 32 ≤ 140737488355328) (hm : numberL x.data.toList = 0) (p : 0 < x.size)
    (h34 : (((x[0]'p).toNat : Int) == 34) = true) (m : Nat) (hi : Lib.indexByte (x.extract 1 x.size).data.toList (((x[0]'p).toNat : Int)).toNat.toUInt8 = (m : Int)) (hmx : m + 2 ≤ x.size) :
    Calls Tryd.prog 53 #[.pointer (some ⟨g, 0, none⟩)] w (TokPost w0 g s a v L n (some (2, x.extract 1 (1 + m), m + 2))) := by
  have hxs : x.size = s.size - a := by rw [← hx, ext_size _ _ (by omega)]
  have b0 : (0 : Int) < (x.size : Int) := by omega
  have b9 : (1 : Int) ≤ (x.size : Int) := by omega
  have hxb : x.size ≤ 1000000000 := by omega
  have hxe : (x.extract 1 x.size).size ≤ 1000000000 := by rw [ByteArray.size_extract]; omega
  have ham : a + (m + 2) ≤ 1000000000 := by omega
  have b4 : decide ((m : Int) < 0) = false := decide_eq_false (by omega)
  have b5 : decide ((0 : Int) > (m : Int)) = false := decide_eq_false (by omega)
  have b6 : m < 1000000000 := by omega
  have b7 : (1 : Int) ≤ 1 + (m : Int) := by omega
  have b8 : (1 + (m : Int)) ≤ (x.size : Int) := by omega
  have hmi : ((m + 2 : Nat) : Int) = (m : Int) + 2 := by omega
  have HH := Lib.hid ham
  have HM := Lib.hid hmi
  have hr := fun w (h : Scn w0 w g s a v L n) => rest_any w g s a h.cell0 h.cell1 (by omega)
  rw [hx] at hr
  have HS := Lib.hid hS
  have HX := Lib.hid hxb
  have HXE := Lib.hid hxe
  have HL := Lib.hid hl
  clear hS hx hxs hl hxb hxe ham hmi
  go_enter Tryd.func53, Tryd.ntmps53
  go_wp2
  go_step3
  go_wp2_with (first
    | (go_at_call 74; refine (hr _ HS.out).mono ?_; rintro e w' ⟨rfl, q, rfl⟩)
    | (go_at_call 75; refine (number_any _ x 0 (HS.out.drewN _).laid' HX.out hm).mono ?_; rintro e w2 ⟨rfl, hb2⟩; have HS2 := Lib.hid ((HS.out.drewN q).below hb2)))
  refine start_ (n := 6) (S := fun w' => True) (ds := []) #[false, false, false, false, false, false] (by kernel_rfl) rfl rfl trivial (fun hHeld => ?_)
  refine pure_ (i := 0) (N := some 25) (v := ?_) (a' := ?_) #[true, false, false, false, false, false] rfl rfl (by kernel_rfl) (fun _ _ _ h => h) (Or.inl ⟨by rfl, ?_⟩) ?_ ?_
  rotate_left
  · intro w'
    go_simp
    with_reducible rfl
  rotate_left
  · simp only [Act.put, List.setIfInBounds_toArray, List.set_cons_zero, List.set_cons_succ, i64_w, i32_w]
    rfl
  refine pure_ (i := 1) (N := some 26) (v := ?_) (a' := ?_) #[true, true, false, false, false, false] rfl rfl (by kernel_rfl) (fun _ _ _ h => h) (Or.inl ⟨by rfl, ?_⟩) ?_ ?_
  rotate_left
  · intro w'
    go_simp
    with_reducible rfl
  rotate_left
  · simp only [Act.put, List.setIfInBounds_toArray, List.set_cons_zero, List.set_cons_succ, i64_w, i32_w]
    rfl
  refine pure_ (i := 2) (N := some 27) (v := ?_) (a' := ?_) #[true, true, true, false, false, false] rfl rfl (by kernel_rfl) (fun _ _ _ h => h) (Or.inl ⟨by rfl, ?_⟩) ?_ ?_
  rotate_left
  · intro w'
    go_simp
    with_reducible rfl
  rotate_left
  · simp only [Act.put, List.setIfInBounds_toArray, List.set_cons_zero, List.set_cons_succ, i64_w, i32_w]
    rfl
  refine take_ (i := 3) (N := some 28) (v := ?_) (a' := ?_) #[true, true, true, true, false, false] rfl rfl (by kernel_rfl) (fun _ _ _ h => h) (Or.inl ⟨by rfl, ?_⟩) hHeld ?_ ?_
  rotate_left
  · intro w' _
    go_simp
    with_reducible rfl
  rotate_left
  · simp only [Act.put, List.setIfInBounds_toArray, List.set_cons_zero, List.set_cons_succ, i64_w, i32_w]
    rfl
  refine one_ (i := 4) (N := some 29) #[true, true, true, true, true, false] rfl rfl (by kernel_rfl) (by decide) (fun K hK => ?_)
  refine goes_ Tryd.func77 (by kernel_rfl) rfl #[.string (x.extract 1 x.size), .int .u8 (((x[0]'p).toNat : Nat) : Int)] (by rfl) rfl rfl (by simp only [List.map_toArray, List.map_cons, List.map_nil]; rfl) ?_
  with_reducible refine (ibyte_any _ _ _ _ HS2.out.drew.laid' hi).mono ?_
  rintro e w4 ⟨rfl, ⟨q4, rfl⟩⟩
  refine ⟨_, rfl, ?_⟩
  refine hK.out _ _ trivial (fun hHeld => ?_)
  clear hK K
  refine norm_ (a' := ?_) ?_ ?_
  rotate_left
  · show Act.put _ (some 29) _ = _
    simp only [Act.put, List.setIfInBounds_toArray, List.set_cons_zero, List.set_cons_succ, i64_w, i32_w]
    rfl
  refine pure_ (i := 5) (N := some 5) (v := ?_) (a' := ?_) #[true, true, true, true, true, true] rfl rfl (by kernel_rfl) (fun _ _ _ h => h) (Or.inl ⟨by rfl, ?_⟩) ?_ ?_
  rotate_left
  · intro w'
    go_simp
    with_reducible rfl
  rotate_left
  · simp only [Act.put, List.setIfInBounds_toArray, List.set_cons_zero, List.set_cons_succ, i64_w, i32_w]
    rfl
  refine done_ (by kernel_rfl) ?_
  go_wp2_with (first
    | (go_at_call 76; refine (add_int w0 _ g s a v L n (HS2.out.drewN _) 2 _ (m + 2) HL.out HH.out _ HM.out _ rfl).mono ?_; rintro e w' ⟨rfl, v', h3⟩))
  rw [Exit.noGoto_ret]
  go_ret
  exact ⟨rfl, v', h3⟩
set_option maxRecDepth 100000 in
set_option maxHeartbeats 4000000 in
theorem tok_quote34_none (w0 w : World) (g : Nat) (s : ByteArray) (a : Nat) (v : Value) (L : List S30) (n : Int) (hS : Scn w0 w g s a v L n) (ha : a < s.size) (hs : s.size ≤ 100000000) (x : ByteArray) (hx : s.extract a s.size = x) (hl : (L.length + 1) * 32 ≤ 140737488355328) (hm : numberL x.data.toList = 0) (p : 0 < x.size)
    (h34 : (((x[0]'p).toNat : Int) == 34) = true) (hi : Lib.indexByte (x.extract 1 x.size).data.toList (((x[0]'p).toNat : Int)).toNat.toUInt8 = -1) :
    Calls Tryd.prog 53 #[.pointer (some ⟨g, 0, none⟩)] w (TokPost w0 g s a v L n none) := by
  have hxs : x.size = s.size - a := by rw [← hx, ext_size _ _ (by omega)]
  have b0 : (0 : Int) < (x.size : Int) := by omega
  have b9 : (1 : Int) ≤ (x.size : Int) := by omega
  have hxb : x.size ≤ 1000000000 := by omega
  have hxe : (x.extract 1 x.size).size ≤ 1000000000 := by rw [ByteArray.size_extract]; omega
  have hr := fun w (h : Scn w0 w g s a v L n) => rest_any w g s a h.cell0 h.cell1 (by omega)
  rw [hx] at hr
  have HS := Lib.hid hS
  have HX := Lib.hid hxb
  have HXE := Lib.hid hxe
  have HL := Lib.hid hl
  clear hS hx hxs hl hxb hxe 
  go_enter Tryd.func53, Tryd.ntmps53
  go_wp2
  refine wp_scope_jumps 0 (fun a' w' => a'.defers = [] ∧ (∃ (x0 x1 x2 : Value) (l : List Value), a'.tmps = (x0 :: x1 :: x2 :: l).toArray) ∧ Scn w0 w' g s a v L n) (fun _ _ => 0) (by rfl) ?_ ?_
  · go_wp2_with (first
      | (go_at_call 74; refine (hr _ HS.out).mono ?_; rintro e w' ⟨rfl, q, rfl⟩)
      | (go_at_call 75; refine (number_any _ x 0 (HS.out.drewN _).laid' HX.out hm).mono ?_; rintro e w2 ⟨rfl, hb2⟩; have HS2 := Lib.hid ((HS.out.drewN q).below hb2)))
    refine start_ (n := 6) (S := fun w' => True) (ds := []) #[false, false, false, false, false, false] (by kernel_rfl) rfl rfl trivial (fun hHeld => ?_)
    refine pure_ (i := 0) (N := some 25) (v := ?_) (a' := ?_) #[true, false, false, false, false, false] rfl rfl (by kernel_rfl) (fun _ _ _ h => h) (Or.inl ⟨by rfl, ?_⟩) ?_ ?_
    rotate_left
    · intro w'
      go_simp
      with_reducible rfl
    rotate_left
    · simp only [Act.put, List.setIfInBounds_toArray, List.set_cons_zero, List.set_cons_succ, i64_w, i32_w]
      rfl
    refine pure_ (i := 1) (N := some 26) (v := ?_) (a' := ?_) #[true, true, false, false, false, false] rfl rfl (by kernel_rfl) (fun _ _ _ h => h) (Or.inl ⟨by rfl, ?_⟩) ?_ ?_
    rotate_left
    · intro w'
      go_simp
      with_reducible rfl
    rotate_left
    · simp only [Act.put, List.setIfInBounds_toArray, List.set_cons_zero, List.set_cons_succ, i64_w, i32_w]
      rfl
    refine pure_ (i := 2) (N := some 27) (v := ?_) (a' := ?_) #[true, true, true, false, false, false] rfl rfl (by kernel_rfl) (fun _ _ _ h => h) (Or.inl ⟨by rfl, ?_⟩) ?_ ?_
    rotate_left
    · intro w'
      go_simp
      with_reducible rfl
    rotate_left
    · simp only [Act.put, List.setIfInBounds_toArray, List.set_cons_zero, List.set_cons_succ, i64_w, i32_w]
      rfl
    refine take_ (i := 3) (N := some 28) (v := ?_) (a' := ?_) #[true, true, true, true, false, false] rfl rfl (by kernel_rfl) (fun _ _ _ h => h) (Or.inl ⟨by rfl, ?_⟩) hHeld ?_ ?_
    rotate_left
    · intro w' _
      go_simp
      with_reducible rfl
    rotate_left
    · simp only [Act.put, List.setIfInBounds_toArray, List.set_cons_zero, List.set_cons_succ, i64_w, i32_w]
      rfl
    refine one_ (i := 4) (N := some 29) #[true, true, true, true, true, false] rfl rfl (by kernel_rfl) (by decide) (fun K hK => ?_)
    refine goes_ Tryd.func77 (by kernel_rfl) rfl #[.string (x.extract 1 x.size), .int .u8 (((x[0]'p).toNat : Nat) : Int)] (by rfl) rfl rfl (by simp only [List.map_toArray, List.map_cons, List.map_nil]; rfl) ?_
    with_reducible refine (ibyte_any _ _ _ _ HS2.out.drew.laid' hi).mono ?_
    rintro e w4 ⟨rfl, ⟨q4, rfl⟩⟩
    refine ⟨_, rfl, ?_⟩
    refine hK.out _ _ trivial (fun hHeld => ?_)
    clear hK K
    refine norm_ (a' := ?_) ?_ ?_
    rotate_left
    · show Act.put _ (some 29) _ = _
      simp only [Act.put, List.setIfInBounds_toArray, List.set_cons_zero, List.set_cons_succ, i64_w, i32_w]
      rfl
    refine pure_ (i := 5) (N := some 5) (v := ?_) (a' := ?_) #[true, true, true, true, true, true] rfl rfl (by kernel_rfl) (fun _ _ _ h => h) (Or.inl ⟨by rfl, ?_⟩) ?_ ?_
    rotate_left
    · intro w'
      go_simp
      with_reducible rfl
    rotate_left
    · simp only [Act.put, List.setIfInBounds_toArray, List.set_cons_zero, List.set_cons_succ, i64_w, i32_w]
      rfl
    refine done_ (by kernel_rfl) ?_
    go_wp2
    go_step3
    exact ⟨rfl, rfl, ⟨_, _, _, _, rfl⟩, HS2.out.drewN _⟩
  · rintro ⟨tm, df⟩ w5 ⟨hd, ⟨x0, x1, x2, l, ht⟩, hsc⟩
    simp only at hd ht
    subst hd ht
    go_wp2
    simp only [Exit.jump]
    go_ret
    exact ⟨rfl, hsc⟩
set_option maxRecDepth 100000 in
set_option maxHeartbeats 4000000 in
theorem tok_quote39 (w0 w : World) (g : Nat) (s : ByteArray) (a : Nat) (v : Value) (L : List S30) (n : Int) (hS : Scn w0 w g s a v L n) (ha : a < s.size) (hs : s.size ≤ 100000000) (x : ByteArray) (hx : s.extract a s.size = x) (hl : (L.length + 1) * 32 ≤ 140737488355328) (hm : numberL x.data.toList = 0) (p : 0 < x.size)
    (h34 : (((x[0]'p).toNat : Int) == 34) = false) (h39 : (((x[0]'p).toNat : Int) == 39) = true) (m : Nat) (hi : Lib.indexByte (x.extract 1 x.size).data.toList (((x[0]'p).toNat : Int)).toNat.toUInt8 = (m : Int)) (hmx : m + 2 ≤ x.size) :
    Calls Tryd.prog 53 #[.pointer (some ⟨g, 0, none⟩)] w (TokPost w0 g s a v L n (some (2, x.extract 1 (1 + m), m + 2))) := by
  have hxs : x.size = s.size - a := by rw [← hx, ext_size _ _ (by omega)]
  have b0 : (0 : Int) < (x.size : Int) := by omega
  have b9 : (1 : Int) ≤ (x.size : Int) := by omega
  have hxb : x.size ≤ 1000000000 := by omega
  have hxe : (x.extract 1 x.size).size ≤ 1000000000 := by rw [ByteArray.size_extract]; omega
  have ham : a + (m + 2) ≤ 1000000000 := by omega
  have b4 : decide ((m : Int) < 0) = false := decide_eq_false (by omega)
  have b5 : decide ((0 : Int) > (m : Int)) = false := decide_eq_false (by omega)
  have b6 : m < 1000000000 := by omega
  have b7 : (1 : Int) ≤ 1 + (m : Int) := by omega
  have b8 : (1 + (m : Int)) ≤ (x.size : Int) := by omega
  have hmi : ((m + 2 : Nat) : Int) = (m : Int) + 2 := by omega
  have HH := Lib.hid ham
  have HM := Lib.hid hmi
  have hr := fun w (h : Scn w0 w g s a v L n) => rest_any w g s a h.cell0 h.cell1 (by omega)
  rw [hx] at hr
  have HS := Lib.hid hS
  have HX := Lib.hid hxb
  have HXE := Lib.hid hxe
  have HL := Lib.hid hl
  clear hS hx hxs hl hxb hxe ham hmi
  go_enter Tryd.func53, Tryd.ntmps53
  go_wp2
  go_step3
  go_wp2_with (first
    | (go_at_call 74; refine (hr _ HS.out).mono ?_; rintro e w' ⟨rfl, q, rfl⟩)
    | (go_at_call 75; refine (number_any _ x 0 (HS.out.drewN _).laid' HX.out hm).mono ?_; rintro e w2 ⟨rfl, hb2⟩; have HS2 := Lib.hid ((HS.out.drewN q).below hb2)))
  refine start_ (n := 6) (S := fun w' => True) (ds := []) #[false, false, false, false, false, false] (by kernel_rfl) rfl rfl trivial (fun hHeld => ?_)
  refine pure_ (i := 0) (N := some 25) (v := ?_) (a' := ?_) #[true, false, false, false, false, false] rfl rfl (by kernel_rfl) (fun _ _ _ h => h) (Or.inl ⟨by rfl, ?_⟩) ?_ ?_
  rotate_left
  · intro w'
    go_simp
    with_reducible rfl
  rotate_left
  · simp only [Act.put, List.setIfInBounds_toArray, List.set_cons_zero, List.set_cons_succ, i64_w, i32_w]
    rfl
  refine pure_ (i := 1) (N := some 26) (v := ?_) (a' := ?_) #[true, true, false, false, false, false] rfl rfl (by kernel_rfl) (fun _ _ _ h => h) (Or.inl ⟨by rfl, ?_⟩) ?_ ?_
  rotate_left
  · intro w'
    go_simp
    with_reducible rfl
  rotate_left
  · simp only [Act.put, List.setIfInBounds_toArray, List.set_cons_zero, List.set_cons_succ, i64_w, i32_w]
    rfl
  refine pure_ (i := 2) (N := some 27) (v := ?_) (a' := ?_) #[true, true, true, false, false, false] rfl rfl (by kernel_rfl) (fun _ _ _ h => h) (Or.inl ⟨by rfl, ?_⟩) ?_ ?_
  rotate_left
  · intro w'
    go_simp
    with_reducible rfl
  rotate_left
  · simp only [Act.put, List.setIfInBounds_toArray, List.set_cons_zero, List.set_cons_succ, i64_w, i32_w]
    rfl
  refine take_ (i := 3) (N := some 28) (v := ?_) (a' := ?_) #[true, true, true, true, false, false] rfl rfl (by kernel_rfl) (fun _ _ _ h => h) (Or.inl ⟨by rfl, ?_⟩) hHeld ?_ ?_
  rotate_left
  · intro w' _
    go_simp
    with_reducible rfl
  rotate_left
  · simp only [Act.put, List.setIfInBounds_toArray, List.set_cons_zero, List.set_cons_succ, i64_w, i32_w]
    rfl
  refine one_ (i := 4) (N := some 29) #[true, true, true, true, true, false] rfl rfl (by kernel_rfl) (by decide) (fun K hK => ?_)
  refine goes_ Tryd.func77 (by kernel_rfl) rfl #[.string (x.extract 1 x.size), .int .u8 (((x[0]'p).toNat : Nat) : Int)] (by rfl) rfl rfl (by simp only [List.map_toArray, List.map_cons, List.map_nil]; rfl) ?_
  with_reducible refine (ibyte_any _ _ _ _ HS2.out.drew.laid' hi).mono ?_
  rintro e w4 ⟨rfl, ⟨q4, rfl⟩⟩
  refine ⟨_, rfl, ?_⟩
  refine hK.out _ _ trivial (fun hHeld => ?_)
  clear hK K
  refine norm_ (a' := ?_) ?_ ?_
  rotate_left
  · show Act.put _ (some 29) _ = _
    simp only [Act.put, List.setIfInBounds_toArray, List.set_cons_zero, List.set_cons_succ, i64_w, i32_w]
    rfl
  refine pure_ (i := 5) (N := some 5) (v := ?_) (a' := ?_) #[true, true, true, true, true, true] rfl rfl (by kernel_rfl) (fun _ _ _ h => h) (Or.inl ⟨by rfl, ?_⟩) ?_ ?_
  rotate_left
  · intro w'
    go_simp
    with_reducible rfl
  rotate_left
  · simp only [Act.put, List.setIfInBounds_toArray, List.set_cons_zero, List.set_cons_succ, i64_w, i32_w]
    rfl
  refine done_ (by kernel_rfl) ?_
  go_wp2_with (first
    | (go_at_call 76; refine (add_int w0 _ g s a v L n (HS2.out.drewN _) 2 _ (m + 2) HL.out HH.out _ HM.out _ rfl).mono ?_; rintro e w' ⟨rfl, v', h3⟩))
  rw [Exit.noGoto_ret]
  go_ret
  exact ⟨rfl, v', h3⟩
set_option maxRecDepth 100000 in
set_option maxHeartbeats 4000000 in
theorem tok_quote39_none (w0 w : World) (g : Nat) (s : ByteArray) (a : Nat) (v : Value) (L : List S30) (n : Int) (hS : Scn w0 w g s a v L n) (ha : a < s.size) (hs : s.size ≤ 100000000) (x : ByteArray) (hx : s.extract a s.size = x) (hl : (L.length + 1) * 32 ≤ 140737488355328) (hm : numberL x.data.toList = 0) (p : 0 < x.size)
    (h34 : (((x[0]'p).toNat : Int) == 34) = false) (h39 : (((x[0]'p).toNat : Int) == 39) = true) (hi : Lib.indexByte (x.extract 1 x.size).data.toList (((x[0]'p).toNat : Int)).toNat.toUInt8 = -1) :
    Calls Tryd.prog 53 #[.pointer (some ⟨g, 0, none⟩)] w (TokPost w0 g s a v L n none) := by
  have hxs : x.size = s.size - a := by rw [← hx, ext_size _ _ (by omega)]
  have b0 : (0 : Int) < (x.size : Int) := by omega
  have b9 : (1 : Int) ≤ (x.size : Int) := by omega
  have hxb : x.size ≤ 1000000000 := by omega
  have hxe : (x.extract 1 x.size).size ≤ 1000000000 := by rw [ByteArray.size_extract]; omega
  have hr := fun w (h : Scn w0 w g s a v L n) => rest_any w g s a h.cell0 h.cell1 (by omega)
  rw [hx] at hr
  have HS := Lib.hid hS
  have HX := Lib.hid hxb
  have HXE := Lib.hid hxe
  have HL := Lib.hid hl
  clear hS hx hxs hl hxb hxe 
  go_enter Tryd.func53, Tryd.ntmps53
  go_wp2
  refine wp_scope_jumps 0 (fun a' w' => a'.defers = [] ∧ (∃ (x0 x1 x2 : Value) (l : List Value), a'.tmps = (x0 :: x1 :: x2 :: l).toArray) ∧ Scn w0 w' g s a v L n) (fun _ _ => 0) (by rfl) ?_ ?_
  · go_wp2_with (first
      | (go_at_call 74; refine (hr _ HS.out).mono ?_; rintro e w' ⟨rfl, q, rfl⟩)
      | (go_at_call 75; refine (number_any _ x 0 (HS.out.drewN _).laid' HX.out hm).mono ?_; rintro e w2 ⟨rfl, hb2⟩; have HS2 := Lib.hid ((HS.out.drewN q).below hb2)))
    refine start_ (n := 6) (S := fun w' => True) (ds := []) #[false, false, false, false, false, false] (by kernel_rfl) rfl rfl trivial (fun hHeld => ?_)
    refine pure_ (i := 0) (N := some 25) (v := ?_) (a' := ?_) #[true, false, false, false, false, false] rfl rfl (by kernel_rfl) (fun _ _ _ h => h) (Or.inl ⟨by rfl, ?_⟩) ?_ ?_
    rotate_left
    · intro w'
      go_simp
      with_reducible rfl
    rotate_left
    · simp only [Act.put, List.setIfInBounds_toArray, List.set_cons_zero, List.set_cons_succ, i64_w, i32_w]
      rfl
    refine pure_ (i := 1) (N := some 26) (v := ?_) (a' := ?_) #[true, true, false, false, false, false] rfl rfl (by kernel_rfl) (fun _ _ _ h => h) (Or.inl ⟨by rfl, ?_⟩) ?_ ?_
    rotate_left
    · intro w'
      go_simp
      with_reducible rfl
    rotate_left
    · simp only [Act.put, List.setIfInBounds_toArray, List.set_cons_zero, List.set_cons_succ, i64_w, i32_w]
      rfl
    refine pure_ (i := 2) (N := some 27) (v := ?_) (a' := ?_) #[true, true, true, false, false, false] rfl rfl (by kernel_rfl) (fun _ _ _ h => h) (Or.inl ⟨by rfl, ?_⟩) ?_ ?_
    rotate_left
    · intro w'
      go_simp
      with_reducible rfl
    rotate_left
    · simp only [Act.put, List.setIfInBounds_toArray, List.set_cons_zero, List.set_cons_succ, i64_w, i32_w]
      rfl
    refine take_ (i := 3) (N := some 28) (v := ?_) (a' := ?_) #[true, true, true, true, false, false] rfl rfl (by kernel_rfl) (fun _ _ _ h => h) (Or.inl ⟨by rfl, ?_⟩) hHeld ?_ ?_
    rotate_left
    · intro w' _
      go_simp
      with_reducible rfl
    rotate_left
    · simp only [Act.put, List.setIfInBounds_toArray, List.set_cons_zero, List.set_cons_succ, i64_w, i32_w]
      rfl
    refine one_ (i := 4) (N := some 29) #[true, true, true, true, true, false] rfl rfl (by kernel_rfl) (by decide) (fun K hK => ?_)
    refine goes_ Tryd.func77 (by kernel_rfl) rfl #[.string (x.extract 1 x.size), .int .u8 (((x[0]'p).toNat : Nat) : Int)] (by rfl) rfl rfl (by simp only [List.map_toArray, List.map_cons, List.map_nil]; rfl) ?_
    with_reducible refine (ibyte_any _ _ _ _ HS2.out.drew.laid' hi).mono ?_
    rintro e w4 ⟨rfl, ⟨q4, rfl⟩⟩
    refine ⟨_, rfl, ?_⟩
    refine hK.out _ _ trivial (fun hHeld => ?_)
    clear hK K
    refine norm_ (a' := ?_) ?_ ?_
    rotate_left
    · show Act.put _ (some 29) _ = _
      simp only [Act.put, List.setIfInBounds_toArray, List.set_cons_zero, List.set_cons_succ, i64_w, i32_w]
      rfl
    refine pure_ (i := 5) (N := some 5) (v := ?_) (a' := ?_) #[true, true, true, true, true, true] rfl rfl (by kernel_rfl) (fun _ _ _ h => h) (Or.inl ⟨by rfl, ?_⟩) ?_ ?_
    rotate_left
    · intro w'
      go_simp
      with_reducible rfl
    rotate_left
    · simp only [Act.put, List.setIfInBounds_toArray, List.set_cons_zero, List.set_cons_succ, i64_w, i32_w]
      rfl
    refine done_ (by kernel_rfl) ?_
    go_wp2
    go_step3
    exact ⟨rfl, rfl, ⟨_, _, _, _, rfl⟩, HS2.out.drewN _⟩
  · rintro ⟨tm, df⟩ w5 ⟨hd, ⟨x0, x1, x2, l, ht⟩, hsc⟩
    simp only at hd ht
    subst hd ht
    go_wp2
    simp only [Exit.jump]
    go_ret
    exact ⟨rfl, hsc⟩
set_option maxRecDepth 100000 in
set_option maxHeartbeats 4000000 in
theorem tok_dollar (w0 w : World) (g : Nat) (s : ByteArray) (a : Nat) (v : Value) (L : List S30) (n : Int) (hS : Scn w0 w g s a v L n) (ha : a < s.size) (hs : s.size ≤ 100000000) (x : ByteArray) (hx : s.extract a s.size = x) (hl : (L.length + 1) * 32 ≤ 140737488355328) (hm : numberL x.data.toList = 0) (p : 0 < x.size)
    (h34 : (((x[0]'p).toNat : Int) == 34) = false) (h39 : (((x[0]'p).toNat : Int) == 39) = false) (h36 : (((x[0]'p).toNat : Int) == 36) = true) (m : Nat) (hq : qnameL (x.extract 1 x.size).data.toList = m) (h0 : 0 < m) (hmx : m + 1 ≤ x.size) :
    Calls Tryd.prog 53 #[.pointer (some ⟨g, 0, none⟩)] w (TokPost w0 g s a v L n (some (7, x.extract 1 (1 + m), m + 1))) := by
  have hxs : x.size = s.size - a := by rw [← hx, ext_size _ _ (by omega)]
  have b0 : (0 : Int) < (x.size : Int) := by omega
  have b9 : (1 : Int) ≤ (x.size : Int) := by omega
  have hxb : x.size ≤ 1000000000 := by omega
  have hxe : (x.extract 1 x.size).size ≤ 1000000000 := by rw [ByteArray.size_extract]; omega
  have ham : a + (m + 1) ≤ 1000000000 := by omega
  have b4 : ((m : Int) == 0) = false := beq_eq_false_iff_ne.2 (by omega)
  have b6 : m < 1000000000 := by omega
  have b7 : (1 : Int) ≤ 1 + (m : Int) := by omega
  have b8 : (1 + (m : Int)) ≤ (x.size : Int) := by omega
  have hmi : ((m + 1 : Nat) : Int) = (m : Int) + 1 := by omega
  have HH := Lib.hid ham
  have HM := Lib.hid hmi
  have hr := fun w (h : Scn w0 w g s a v L n) => rest_any w g s a h.cell0 h.cell1 (by omega)
  rw [hx] at hr
  have HS := Lib.hid hS
  have HX := Lib.hid hxb
  have HXE := Lib.hid hxe
  have HL := Lib.hid hl
  clear hS hx hxs hl hxb hxe ham hmi
  go_enter Tryd.func53, Tryd.ntmps53
  go_wp2
  go_step3
  go_wp2_with (first
    | (go_at_call 74; refine (hr _ HS.out).mono ?_; rintro e w' ⟨rfl, q, rfl⟩)
    | (go_at_call 75; refine (number_any _ x 0 (HS.out.drewN _).laid' HX.out hm).mono ?_; rintro e w2 ⟨rfl, hb2⟩; have HS2 := Lib.hid ((HS.out.drewN q).below hb2))
    | (go_at_call 78; refine (qname_any _ (x.extract 1 x.size) m HS2.out.laid' HXE.out hq).mono ?_; rintro e w3 ⟨rfl, hb3⟩; have HS3 := Lib.hid (HS2.out.below hb3))
    | (go_at_call 76; refine (add_int w0 _ g s a v L n HS3.out 7 _ (m + 1) HL.out HH.out _ HM.out _ rfl).mono ?_; rintro e w' ⟨rfl, v', h3⟩))
  rw [Exit.noGoto_ret]
  go_ret
  exact ⟨rfl, v', h3⟩
set_option maxRecDepth 100000 in
set_option maxHeartbeats 4000000 in
theorem tok_dollar_none (w0 w : World) (g : Nat) (s : ByteArray) (a : Nat) (v : Value) (L : List S30) (n : Int) (hS : Scn w0 w g s a v L n) (ha : a < s.size) (hs : s.size ≤ 100000000) (x : ByteArray) (hx : s.extract a s.size = x) (hl : (L.length + 1) * 32 ≤ 140737488355328) (hm : numberL x.data.toList = 0) (p : 0 < x.size)
    (h34 : (((x[0]'p).toNat : Int) == 34) = false) (h39 : (((x[0]'p).toNat : Int) == 39) = false) (h36 : (((x[0]'p).toNat : Int) == 36) = true) (hq : qnameL (x.extract 1 x.size).data.toList = 0) :
    Calls Tryd.prog 53 #[.pointer (some ⟨g, 0, none⟩)] w (TokPost w0 g s a v L n none) := by
  have hxs : x.size = s.size - a := by rw [← hx, ext_size _ _ (by omega)]
  have b0 : (0 : Int) < (x.size : Int) := by omega
  have b9 : (1 : Int) ≤ (x.size : Int) := by omega
  have hxb : x.size ≤ 1000000000 := by omega
  have hxe : (x.extract 1 x.size).size ≤ 1000000000 := by rw [ByteArray.size_extract]; omega
  have hr := fun w (h : Scn w0 w g s a v L n) => rest_any w g s a h.cell0 h.cell1 (by omega)
  rw [hx] at hr
  have HS := Lib.hid hS
  have HX := Lib.hid hxb
  have HXE := Lib.hid hxe
  have HL := Lib.hid hl
  clear hS hx hxs hl hxb hxe 
  go_enter Tryd.func53, Tryd.ntmps53
  go_wp2
  refine wp_scope_jumps 0 (fun a' w' => a'.defers = [] ∧ (∃ (x0 x1 x2 : Value) (l : List Value), a'.tmps = (x0 :: x1 :: x2 :: l).toArray) ∧ Scn w0 w' g s a v L n) (fun _ _ => 0) (by rfl) ?_ ?_
  · go_wp2_with (first
      | (go_at_call 74; refine (hr _ HS.out).mono ?_; rintro e w' ⟨rfl, q, rfl⟩)
      | (go_at_call 75; refine (number_any _ x 0 (HS.out.drewN _).laid' HX.out hm).mono ?_; rintro e w2 ⟨rfl, hb2⟩; have HS2 := Lib.hid ((HS.out.drewN q).below hb2))
      | (go_at_call 78; refine (qname_any _ (x.extract 1 x.size) 0 HS2.out.laid' HXE.out hq).mono ?_; rintro e w3 ⟨rfl, hb3⟩; have HS3 := Lib.hid (HS2.out.below hb3)))
    go_step3
    exact ⟨rfl, rfl, ⟨_, _, _, _, rfl⟩, HS3.out⟩
  · rintro ⟨tm, df⟩ w5 ⟨hd, ⟨x0, x1, x2, l, ht⟩, hsc⟩
    simp only at hd ht
    subst hd ht
    go_wp2
    simp only [Exit.jump]
    go_ret
    exact ⟨rfl, hsc⟩
/-- the token that begins with a name: kind, text, bytes -/
def wordB (x : ByteArray) (n : Int) : Option (Int × ByteArray × Nat) :=
  if n = 1 then (if memB (x.extract 0 (nmL x.data.toList)) opNames = true then some (8, x.extract 0 (nmL x.data.toList), nmL x.data.toList) else none)
  else if hasL (trimB (x.extract (nmL x.data.toList) x.size)).data.toList [58, 58] = true then some (6, x.extract 0 (nmL x.data.toList), nmL x.data.toList)
  else if hasL (x.extract (nmL x.data.toList) x.size).data.toList [58, 42] = true then some (3, x.extract 0 (nmL x.data.toList) ++ ⟨#[58, 42]⟩, nmL x.data.toList + 2)
  else some ((if hasL (trimB (x.extract (qnameL x.data.toList) x.size)).data.toList [40] = true then (if memB (x.extract 0 (qnameL x.data.toList)) typeNames = true then 5 else 4) else 3), x.extract 0 (qnameL x.data.toList), qnameL x.data.toList)
/-- the token that a text begins with: kind, text, bytes -/
def tokenB (x : ByteArray) (n : Int) : Option (Int × ByteArray × Nat) :=
  if 0 < numberL x.data.toList then some (1, x.extract 0 (numberL x.data.toList), numberL x.data.toList)
  else if hasL x.data.toList [34] = true then (if Lib.indexByte (x.extract 1 x.size).data.toList 34 < 0 then none else some (2, x.extract 1 (1 + (Lib.indexByte (x.extract 1 x.size).data.toList 34).toNat), (Lib.indexByte (x.extract 1 x.size).data.toList 34).toNat + 2))
  else if hasL x.data.toList [39] = true then (if Lib.indexByte (x.extract 1 x.size).data.toList 39 < 0 then none else some (2, x.extract 1 (1 + (Lib.indexByte (x.extract 1 x.size).data.toList 39).toNat), (Lib.indexByte (x.extract 1 x.size).data.toList 39).toNat + 2))
  else if hasL x.data.toList [36] = true then (if qnameL (x.extract 1 x.size).data.toList = 0 then none else some (7, x.extract 1 (1 + qnameL (x.extract 1 x.size).data.toList), qnameL (x.extract 1 x.size).data.toList + 1))
  else if hasL x.data.toList [42] = true then some ((if n = 0 then 3 else 8), ⟨#[42]⟩, 1)
  else if 0 < nmL x.data.toList then wordB x n
  else (signFind x 0).map fun r => (r.1, r.2, r.2.size)
theorem number_le (l : List UInt8) : numberL l ≤ l.length := by
  have h1 := digits_le l
  have h2 := digits_le (l.drop (digitsL l + 1))
  rw [List.length_drop] at h2
  unfold numberL
  split
  · rename_i h
    split
    · omega
    · have : digitsL l < l.length := by
        refine Nat.lt_of_not_le fun hge => ?_
        rw [List.drop_of_length_le (by omega)] at h
        simp [hasL] at h
      omega
  · omega
theorem has_head (x : ByteArray) (p : 0 < x.size) (c : UInt8) (b : Bool) (h : hasL x.data.toList [c] = b) (k : Int) (hk : (c.toNat : Int) = k) : (((x[0]'p).toNat : Int) == k) = b := by
  subst hk
  have hp : 0 < x.data.toList.length := by rw [sz]; exact p
  have e : x.data.toList = x.data.toList[0] :: x.data.toList.drop 1 := by
    rw [← List.drop_eq_getElem_cons hp, List.drop_zero]
  have e2 : x[0]'p = x.data.toList[0] := by
    rw [Array.getElem_toList]; rfl
  rw [e2]
  rw [e] at h
  simp only [hasL, List.length_cons, List.length_nil, List.take_succ_cons, List.take_zero] at h
  rw [← h]
  generalize x.data.toList[0] = d
  by_cases hd : d = c
  · subst hd; simp
  · have h1 : ((d.toNat : Int) == (c.toNat : Int)) = false := beq_eq_false_iff_ne.2 fun e => hd (UInt8.toNat_inj.1 (by omega))
    rw [h1]
    simp [hd]
theorem index_byte (l : List UInt8) (c : UInt8) : Lib.indexByte l c = -1 ∨ ∃ m : Nat, Lib.indexByte l c = m ∧ m < l.length := by
  induction l with
  | nil => exact .inl rfl
  | cons b t ih =>
    unfold Lib.indexByte
    by_cases hb : (b == c) = true
    · exact .inr ⟨0, by rw [if_pos hb]; rfl, by simp⟩
    · rw [if_neg hb]
      rcases ih with ih | ⟨m, ih, hm⟩
      · left; rw [ih]; simp
      · right
        refine ⟨m + 1, ?_, by simp; omega⟩
        rw [ih, if_neg (by simp)]
        omega
theorem word_any (w0 w : World) (g : Nat) (s : ByteArray) (a : Nat) (v : Value) (L : List S30) (n : Int) (hn : n = 0 ∨ n = 1) (hS : Scn w0 w g s a v L n) (ha : a ≤ s.size) (hs : s.size ≤ 100000000) (x : ByteArray) (hx : s.extract a s.size = x) (hl : (L.length + 1) * 32 ≤ 140737488355328) :
    Calls Tryd.prog 80 #[.pointer (some ⟨g, 0, none⟩), .int .i64 (nmL x.data.toList : Int)] w (TokPost w0 g s a v L n (wordB x n)) := by
  have hm : nmL x.data.toList ≤ x.size := by rw [← sz]; exact nm_le _
  rcases hn with rfl | rfl
  · unfold wordB
    rw [if_neg (by decide)]
    by_cases h1 : hasL (trimB (x.extract (nmL x.data.toList) x.size)).data.toList [58, 58] = true
    · rw [if_pos h1]
      refine (word_axis w0 w g s a v L hS ha hs x hx _ hm hl h1).mono ?_
      rintro e w' ⟨rfl, v', h⟩
      exact ⟨rfl, v', by rw [next_six]; exact h⟩
    · rw [if_neg h1]
      have h1' := eq_false_of_ne_true h1
      by_cases h2 : hasL (x.extract (nmL x.data.toList) x.size).data.toList [58, 42] = true
      · rw [if_pos h2]
        refine (word_star w0 w g s a v L hS ha hs x hx _ hm hl h1' h2).mono ?_
        rintro e w' ⟨rfl, v', h⟩
        exact ⟨rfl, v', by rw [next_three]; exact h⟩
      · rw [if_neg h2]
        refine (word_name w0 w g s a v L hS ha hs x hx _ hm hl h1' (eq_false_of_ne_true h2) _ rfl _ rfl _ rfl _ rfl).mono ?_
        rintro e w' ⟨rfl, v', h⟩
        refine ⟨rfl, v', ?_⟩
        rw [next_45 _ (by split; split; exact .inr (.inr rfl); exact .inr (.inl rfl); exact .inl rfl)]
        exact h
  · unfold wordB
    rw [if_pos rfl]
    by_cases hb : memB (x.extract 0 (nmL x.data.toList)) opNames = true
    · rw [if_pos hb]
      refine (word_op w0 w g s a v L hS ha hs x hx _ hm hl _ rfl).mono ?_
      intro e w' h
      rw [if_pos hb] at h
      obtain ⟨rfl, v', h⟩ := h
      exact ⟨rfl, v', by rw [show nextOf 8 (x.extract 0 (nmL x.data.toList)) = 0 by simp [nextOf]]; exact h⟩
    · rw [if_neg hb]
      refine (word_op w0 w g s a v L hS ha hs x hx _ hm hl _ rfl).mono ?_
      intro e w' h
      rw [if_neg hb] at h
      exact h
theorem token_any (w0 w : World) (g : Nat) (s : ByteArray) (a : Nat) (v : Value) (L : List S30) (n : Int) (hn : n = 0 ∨ n = 1) (hS : Scn w0 w g s a v L n) (ha : a < s.size) (hs : s.size ≤ 100000000) (hl : (L.length + 1) * 32 ≤ 140737488355328) :
    Calls Tryd.prog 53 #[.pointer (some ⟨g, 0, none⟩)] w (TokPost w0 g s a v L n (tokenB (s.extract a s.size) n)) := by
  obtain ⟨x, hx⟩ : ∃ x, s.extract a s.size = x := ⟨_, rfl⟩
  have hxs : x.size = s.size - a := by rw [← hx, ext_size _ _ (by omega)]
  have hp : 0 < x.size := by omega
  rw [hx]
  unfold tokenB
  by_cases h0 : 0 < numberL x.data.toList
  · rw [if_pos h0]
    exact tok_number w0 w g s a v L n hS ha hs x hx hl _ rfl h0 (by rw [← sz]; exact number_le _)
  · rw [if_neg h0]
    have hm : numberL x.data.toList = 0 := by omega
    have hd : (x.extract 1 x.size).data.toList.length + 1 = x.size := by rw [ext_drop, List.length_drop, sz]; omega
    by_cases h34 : hasL x.data.toList [34] = true
    · have e34 := has_head x hp 34 true h34 34 rfl
      have ec : (((x[0]'hp).toNat : Int)).toNat.toUInt8 = 34 := by rw [eq_of_beq e34]; decide
      rw [if_pos h34]
      rcases index_byte (x.extract 1 x.size).data.toList 34 with hi | ⟨m, hi, hlt⟩
      · rw [if_pos (by omega)]
        exact tok_quote34_none w0 w g s a v L n hS ha hs x hx hl hm hp e34 (by rw [ec]; exact hi)
      · rw [if_neg (by omega), hi, Int.toNat_natCast]
        exact tok_quote34 w0 w g s a v L n hS ha hs x hx hl hm hp e34 m (by rw [ec]; exact hi) (by omega)
    · rw [if_neg h34]
      have e34 := has_head x hp 34 false (eq_false_of_ne_true h34) 34 rfl
      by_cases h39 : hasL x.data.toList [39] = true
      · have e39 := has_head x hp 39 true h39 39 rfl
        have ec : (((x[0]'hp).toNat : Int)).toNat.toUInt8 = 39 := by rw [eq_of_beq e39]; decide
        rw [if_pos h39]
        rcases index_byte (x.extract 1 x.size).data.toList 39 with hi | ⟨m, hi, hlt⟩
        · rw [if_pos (by omega)]
          exact tok_quote39_none w0 w g s a v L n hS ha hs x hx hl hm hp e34 e39 (by rw [ec]; exact hi)
        · rw [if_neg (by omega), hi, Int.toNat_natCast]
          exact tok_quote39 w0 w g s a v L n hS ha hs x hx hl hm hp e34 e39 m (by rw [ec]; exact hi) (by omega)
      · rw [if_neg h39]
        have e39 := has_head x hp 39 false (eq_false_of_ne_true h39) 39 rfl
        by_cases h36 : hasL x.data.toList [36] = true
        · have e36 := has_head x hp 36 true h36 36 rfl
          rw [if_pos h36]
          have hq := qname_le (x.extract 1 x.size).data.toList
          by_cases hq0 : qnameL (x.extract 1 x.size).data.toList = 0
          · rw [if_pos hq0]
            exact tok_dollar_none w0 w g s a v L n hS ha hs x hx hl hm hp e34 e39 e36 hq0
          · rw [if_neg hq0]
            exact tok_dollar w0 w g s a v L n hS ha hs x hx hl hm hp e34 e39 e36 _ rfl (by omega) (by omega)
        · rw [if_neg h36]
          have e36 := has_head x hp 36 false (eq_false_of_ne_true h36) 36 rfl
          by_cases h42 : hasL x.data.toList [42] = true
          · have e42 := has_head x hp 42 true h42 42 rfl
            rw [if_pos h42]
            rcases hn with rfl | rfl
            · exact tok_star0 w0 w g s a v L hS ha hs x hx hl hm hp e34 e39 e36 e42
            · exact tok_star1 w0 w g s a v L hS ha hs x hx hl hm hp e34 e39 e36 e42
          · rw [if_neg h42]
            have e42 := has_head x hp 42 false (eq_false_of_ne_true h42) 42 rfl
            by_cases hnm : 0 < nmL x.data.toList
            · rw [if_pos hnm]
              exact tok_word w0 w g s a v L n hS ha hs x hx hl hm hp e34 e39 e36 e42 _ rfl hnm _ fun W hW => word_any w0 W g s a v L n hn hW (by omega) hs x hx hl
            · rw [if_neg hnm]
              exact tok_sign w0 w g s a v L n hS ha hs x hx hl hm hp e34 e39 e36 e42 (by omega) _ rfl
theorem next_cases (k : Int) (t : ByteArray) : nextOf k t = 0 ∨ nextOf k t = 1 := by
  unfold nextOf; split
  · exact .inl rfl
  · split
    · exact .inl rfl
    · exact .inr rfl
theorem signTab_len (x : ByteArray) (c : Nat) (k : Int) (t : ByteArray) (h : signFind x c = some (k, t)) : 1 ≤ t.size ∧ t.size ≤ x.size := by
  have hm := List.mem_of_find?_eq_some h
  have hp := List.find?_some h
  have h1 : (k, t) ∈ signTab := List.mem_of_mem_drop hm
  refine ⟨?_, ?_⟩
  · have : ∀ p ∈ signTab, 1 ≤ p.2.size := by decide
    exact this _ h1
  · simp only [hasL, beq_iff_eq] at hp
    have := congrArg List.length hp
    rw [List.length_take, sz, sz] at this
    omega
theorem hasL_len (l p : List UInt8) (h : hasL l p = true) : p.length ≤ l.length := by
  simp only [hasL, beq_iff_eq] at h
  have := congrArg List.length h
  rw [List.length_take] at this
  omega
theorem nm_qname (l : List UInt8) (h : 0 < nmL l) : 0 < qnameL l := by
  unfold qnameL
  show 0 < (if 0 < nmL l ∧ hasL (l.drop (nmL l)) [58] = true ∧ 0 < nmL (l.drop (nmL l + 1)) then nmL l + 1 + nmL (l.drop (nmL l + 1)) else nmL l)
  split <;> omega
theorem token_len (x : ByteArray) (n k : Int) (t : ByteArray) (m : Nat) (hp : 0 < x.size) (h : tokenB x n = some (k, t, m)) : 1 ≤ m ∧ m ≤ x.size := by
  have hn := number_le x.data.toList
  have hm := nm_le x.data.toList
  have hq := qname_le x.data.toList
  have hq1 := qname_le (x.extract 1 x.size).data.toList
  have hd : (x.extract 1 x.size).data.toList.length + 1 = x.size := by rw [ext_drop, List.length_drop, sz]; omega
  rw [sz] at hn hm hq
  unfold tokenB at h
  split at h
  · simp only [Option.some.injEq, Prod.mk.injEq] at h; omega
  · split at h
    · rcases index_byte (x.extract 1 x.size).data.toList 34 with hi | ⟨j, hi, hlt⟩
      · rw [hi] at h; simp at h
      · rw [hi, if_neg (by omega)] at h
        simp only [Option.some.injEq, Prod.mk.injEq, Int.toNat_natCast] at h; omega
    · split at h
      · rcases index_byte (x.extract 1 x.size).data.toList 39 with hi | ⟨j, hi, hlt⟩
        · rw [hi] at h; simp at h
        · rw [hi, if_neg (by omega)] at h
          simp only [Option.some.injEq, Prod.mk.injEq, Int.toNat_natCast] at h; omega
      · split at h
        · split at h
          · cases h
          · simp only [Option.some.injEq, Prod.mk.injEq] at h; omega
        · split at h
          · simp only [Option.some.injEq, Prod.mk.injEq] at h; omega
          · split at h
            · rename_i h0
              have hq0 := nm_qname _ h0
              unfold wordB at h
              split at h
              · split at h
                · simp only [Option.some.injEq, Prod.mk.injEq] at h; omega
                · cases h
              · split at h
                · simp only [Option.some.injEq, Prod.mk.injEq] at h; omega
                · split at h
                  · rename_i h2
                    have h3 := hasL_len _ _ h2
                    rw [ext_drop, List.length_drop, sz] at h3
                    simp only [List.length_cons, List.length_nil] at h3
                    simp only [Option.some.injEq, Prod.mk.injEq] at h; omega
                  · simp only [Option.some.injEq, Prod.mk.injEq] at h; omega
            · rw [Option.map_eq_some_iff] at h
              obtain ⟨⟨k2, t2⟩, h1, h2⟩ := h
              simp only [Prod.mk.injEq] at h2
              obtain ⟨_, _, h3⟩ := h2
              rw [← h3]
              exact signTab_len x 0 k2 t2 h1
/-- behind the blanks from a place on -/
def skipB (s : ByteArray) (a : Nat) : Nat := s.size - (trimB (s.extract a s.size)).size
theorem trimB_le (x : ByteArray) : (trimB x).size ≤ x.size := by
  rw [← sz, ← sz]; exact trim_le _ _
theorem skip_ge (s : ByteArray) (a : Nat) (h : a ≤ s.size) : a ≤ skipB s a ∧ skipB s a ≤ s.size := by
  have h1 := trimB_le (s.extract a s.size)
  rw [ext_size _ _ h] at h1
  unfold skipB
  omega
/-- the tokens from a place on (behind blanks); what may come; what has been told -/
def scanGo (s : ByteArray) : Nat → Nat → Int → List S30 → List S30 × Int × Int
  | 0, _, _, _ => ([], 0, 0)
  | f + 1, a, n, L =>
    if a < s.size then
      match tokenB (s.extract a s.size) n with
      | none => ([], 9, (a : Int))
      | some (k, t, m) => scanGo s f (skipB s (a + m)) (nextOf k t) (L ++ [⟨k, t, (a : Int)⟩])
    else (L, 0, 0)
def scanR (s : ByteArray) : List S30 × Int × Int :=
  if 512 < s.size then ([], 6, 0)
  else if 0 ≤ (badL s.size s.data.toList 0).1 then ([], 4, (badL s.size s.data.toList 0).1)
  else scanGo s (s.size + 1) (skipB s 0) 0 []
def scnAt (g : Nat) (w : World) : Nat := match w.cell? ⟨g, 1, none⟩ with
  | some (.int _ i) => i.toNat
  | _ => 0
theorem Scn.at_ {w0 W : World} {g : Nat} {s : ByteArray} {a : Nat} {v : Value} {L : List S30} {n : Int} (h : Scn w0 W g s a v L n) : scnAt g W = a := by
  unfold scnAt; rw [h.cell1]; simp
theorem blanks_to (w0 w : World) (g : Nat) (s : ByteArray) (a : Nat) (v : Value) (L : List S30) (n : Int) (hS : Scn w0 w g s a v L n) (ha : a ≤ s.size) (hs : s.size ≤ 512) :
    Calls Tryd.prog 52 #[.pointer (some ⟨g, 0, none⟩)] w fun e w' => e = .returned (.tuple #[]) ∧ Scn w0 w' g s (skipB s a) v L n :=
  blanks_any w0 w g s a v L n hS ha (skipB s a) (by have h1 := trimB_le (s.extract a s.size); rw [ext_size _ _ ha] at h1; unfold skipB; omega) (by omega) (by have h1 := trimB_le (s.extract a s.size); rw [ext_size _ _ ha] at h1; omega)
def ScanPost (w : World) (r : List S30 × Int × Int) (e : Ending) (w' : World) : Prop :=
  ∃ v0_ : Value, e = .returned (.tuple #[v0_, .int .i64 r.2.1, .int .i64 r.2.2]) ∧ Kd.R k30 30 w' w.heap.size (fun _ => True) v0_ r.1 ∧ Below w.heap.size w w'
set_option maxRecDepth 100000 in
set_option maxHeartbeats 16000000 in
theorem scan_any (s : ByteArray) (w : World) (HL : Laid w) (r : List S30 × Int × Int) (hr : scanR s = r) :
    Calls Tryd.prog 18 #[.string s] w (ScanPost w r) := by
  by_cases hbig : 512 < s.size
  · have b1 : decide ((s.size : Int) > 512) = true := decide_eq_true (by omega)
    have b2 : decide (512 < (s.size : Int)) = true := decide_eq_true (by omega)
    unfold scanR at hr
    rw [if_pos hbig] at hr
    subst hr
    go_enter Tryd.func18, Tryd.ntmps18
    go_wp2
    go_ret3
    exact ⟨_, rfl, Kd.R_nil _ _ _ _ _, Below.refl _ _⟩
  · have b1 : decide ((s.size : Int) > 512) = false := decide_eq_false (by omega)
    have b2 : decide (512 < (s.size : Int)) = false := decide_eq_false (by omega)
    have hs : s.size ≤ 512 := by omega
    unfold scanR at hr
    rw [if_neg hbig] at hr
    obtain ⟨R1, hR1⟩ : ∃ x, (badL s.size s.data.toList 0).1 = x := ⟨_, rfl⟩
    rw [hR1] at hr
    have HR := Lib.hid hr
    have HB := Lib.hid hR1
    clear hr hR1 hbig
    go_enter Tryd.func18, Tryd.ntmps18
    go_wp2
    go_loopw [5] (fun _ wr => ∃ (pos fuel : Nat), wr.heap[w.heap.size]? = some (.stringIter s pos) ∧ Below w.heap.size w wr ∧ Hid ((badL fuel (s.data.toList.drop pos) pos).1 = R1) ∧ s.size ≤ pos + fuel) (fun _ wr => s.size - wr.iterPos w.heap.size)
    case atStart => exact ⟨0, s.size, World.iter_heap w s 0, (Below.refl _ w).alloc (Nat.le_refl _) _, HB, by omega⟩
    case round =>
      obtain ⟨pos, fuel, hit, hbw, hacc, hfu⟩ := hrel
      have hsz : w.heap.size < wr.heap.size := (Array.getElem?_eq_some_iff.1 hit).1
      have HLr := HL.below hbw
      by_cases hp : pos < s.size
      · obtain ⟨R, N, hd, hdl, hN, hR⟩ := decode_facts s pos
        obtain ⟨f, rfl⟩ : ∃ f, fuel = f + 1 := ⟨fuel - 1, by omega⟩
        have hacc' := hacc.out
        rw [badL, if_neg (drop_ne s pos hp), hdl] at hacc'
        simp only [List.drop_drop] at hacc'
        have HA := Lib.hid hacc'
        have HG : Hid (Lib.decodeGo (s.extract pos s.size) = (R, N)) := (decodeGo_at s pos hp).trans hd
        have hnx : ∀ ty, (Instr.next (.pointer (some ⟨w.heap.size, 0, none⟩)) true ty).run Tryd.prog wr = .ok (.tuple #[.bool true, .int .i64 pos, .int .i32 R]) (wr.iterAt w.heap.size s (pos + N)) := fun ty => by
          have := Lib.run_next_any_at (P := Tryd.prog) wr w.heap.size s pos ty hit hp
          rw [hd] at this
          exact this
        have hit2 := Lib.iterAt_heap wr w.heap.size s pos (pos + N) hit
        have hbw2 := Lib.below_iterAt hbw (k := w.heap.size) (Nat.le_refl _) s (pos + N)
        have HL2 := HL.below hbw2
        have hsz2 : w.heap.size < (wr.iterAt w.heap.size s (pos + N)).heap.size := by rw [Lib.iterAt_size]; exact hsz
        have cD := fun (W : World) (h : Laid W) => utf8_DecodeRuneInString.calls (s.extract pos s.size) R N W h (by unfold utf8_DecodeRuneInString.f; rw [HG.out])
        have HC := Lib.hid cD
        have p0 : (0 : Int) ≤ (pos : Int) := by omega
        have p1 : (pos : Int) ≤ (s.size : Int) := by omega
        clear hacc hacc' hd hdl HB HLr cD
        have arms : True := trivial
        by_cases hc : inSpans isCharL R = true
        · by_cases hr : R = 65533
          · by_cases hn : N = 1
            · have hr1 : ((R : Int) == 65533) = true := beq_iff_eq.2 (by omega)
              have hn1 : ((N : Int) == 1) = true := beq_iff_eq.2 (by omega)
              have HE : Hid (([], 4, (pos : Int)) = r) := by
                have h := HA.out
                rw [if_pos ⟨hr, hn⟩] at h
                have h2 := HR.out
                have h3 : (pos : Int) = R1 := h
                rw [← h3, if_pos (by omega)] at h2
                exact h2
              clear HA hr hn
              go_wp2_with (first
                | (go_at_call 51; refine (HC.out _ HL2).mono ?_; rintro e w2 ⟨rfl, hb⟩)
                | (go_at_call 30; refine (isChar_any _ (by omega) (by omega) _).mono ?_; rintro e w3 ⟨rfl, hb2⟩))
              go_ret3
              obtain rfl := HE.out
              exact ⟨_, rfl, Kd.R_nil _ _ _ _ _, below_from (below_from hbw2 (by omega) hb) (by have := hb.size; omega) hb2⟩
            · have hr1 : ((R : Int) == 65533) = true := beq_iff_eq.2 (by omega)
              have hn1 : ((N : Int) == 1) = false := beq_eq_false_iff_ne.2 (by omega)
              have HA2 : Hid ((badL f (s.data.toList.drop (pos + N)) (pos + N)).1 = R1) := by
                have h := HA.out
                rw [if_neg (by omega), if_pos hc] at h
                exact h
              clear HA hr hn
              go_wp2_with (first
                | (go_at_call 51; refine (HC.out _ HL2).mono ?_; rintro e w2 ⟨rfl, hb⟩)
                | (go_at_call 30; refine (isChar_any _ (by omega) (by omega) _).mono ?_; rintro e w3 ⟨rfl, hb2⟩))
              go_roundw
              case rel => exact ⟨pos + N, f, iter_kept (iter_kept hit2 hb) hb2, below_from (below_from hbw2 (by omega) hb) (by have := hb.size; omega) hb2, HA2, by omega⟩
              case measure => rw [iter_pos hit, iter_pos (iter_kept (iter_kept hit2 hb) hb2)]; omega
          · have hr1 : ((R : Int) == 65533) = false := beq_eq_false_iff_ne.2 (by omega)
            have HA2 : Hid ((badL f (s.data.toList.drop (pos + N)) (pos + N)).1 = R1) := by
              have h := HA.out
              rw [if_neg (by omega), if_pos hc] at h
              exact h
            clear HA hr
            go_wp2_with (first
              | (go_at_call 51; refine (HC.out _ HL2).mono ?_; rintro e w2 ⟨rfl, hb⟩)
              | (go_at_call 30; refine (isChar_any _ (by omega) (by omega) _).mono ?_; rintro e w3 ⟨rfl, hb2⟩))
            go_roundw
            case rel => exact ⟨pos + N, f, iter_kept (iter_kept hit2 hb) hb2, below_from (below_from hbw2 (by omega) hb) (by have := hb.size; omega) hb2, HA2, by omega⟩
            case measure => rw [iter_pos hit, iter_pos (iter_kept (iter_kept hit2 hb) hb2)]; omega
        · have hc' : inSpans isCharL R = false := by simpa using hc
          have HE : Hid (([], 4, (pos : Int)) = r) := by
            have h := HA.out
            rw [if_neg hc] at h
            have h2 := HR.out
            have h3 : (pos : Int) = R1 := by
              rw [← h]; split <;> rfl
            rw [← h3, if_pos (by omega)] at h2
            exact h2
          clear HA hc
          go_wp2_with (first
            | (go_at_call 51; refine (HC.out _ HL2).mono ?_; rintro e w2 ⟨rfl, hb⟩)
            | (go_at_call 30; refine (isChar_any _ (by omega) (by omega) _).mono ?_; rintro e w3 ⟨rfl, hb2⟩))
          go_ret3
          obtain rfl := HE.out
          exact ⟨_, rfl, Kd.R_nil _ _ _ _ _, below_from (below_from hbw2 (by omega) hb) (by have := hb.size; omega) hb2⟩
      · have hnx : ∀ ty, (Instr.next (.pointer (some ⟨w.heap.size, 0, none⟩)) true ty).run Tryd.prog wr = _ := fun ty => Lib.run_next_end_at wr w.heap.size s pos ty hit hp
        have HE : Hid (scanGo s (s.size + 1) (skipB s 0) 0 [] = r) := by
          have h := hacc.out
          rw [drop_nil s pos hp, badL_nil] at h
          have h2 := HR.out
          have h3 : (-1 : Int) = R1 := h
          rw [← h3, if_neg (by decide)] at h2
          exact h2
        clear hacc HR HB
        have hS0 : Scn w (wr.alloc (.cells #[.string s, .int .i64 0, .slice none 0 0, .int .i64 0] 60)) wr.heap.size s 0 (.slice none 0 0) [] 0 := by
          refine ⟨?_, hbw.size, Kd.R_nil _ _ _ _ _, hbw.alloc hbw.size _, HL⟩
          show (wr.heap.push _)[wr.heap.size]? = _
          simp [scnObj]
        obtain ⟨g, hg⟩ : ∃ g, wr.heap.size = g := ⟨_, rfl⟩
        have HS0 := Lib.hid hS0
        rw [hg] at HS0
        clear hS0
        go_wp2_with (go_at_call 52; refine (blanks_to w _ _ s 0 _ _ _ HS0.out (Nat.zero_le _) hs).mono ?_; rintro e w4 ⟨rfl, hS4⟩; have HS4 := Lib.hid hS4; clear hS4)
        clear hnx hit hsz hbw HLr HS0 hg
        go_loopw [10] (fun _ wr2 => ∃ (a : Nat) (v : Value) (L : List S30) (n : Int) (f : Nat), Scn w wr2 g s a v L n ∧ a ≤ s.size ∧ L.length ≤ a ∧ (n = 0 ∨ n = 1) ∧ Hid (scanGo s f a n L = r) ∧ s.size < a + f) (fun _ wr2 => s.size - scnAt g wr2)
        case atStart => exact ⟨skipB s 0, _, [], 0, s.size + 1, HS4.out, (skip_ge s 0 (Nat.zero_le _)).2, Nat.zero_le _, .inl rfl, HE, by omega⟩
        case round =>
          obtain ⟨a, v, L, n, f, hSc, ha, hLa, hn, hF, hf⟩ := hrel
          have cm := hSc.at_
          obtain ⟨f, rfl⟩ : ∃ f', f = f' + 1 := ⟨f - 1, by omega⟩
          have hF2 := hF.out
          rw [scanGo] at hF2
          obtain ⟨A0, cp0, hv0⟩ := Kd.R_slice hSc.row
          subst hv0
          have c1 := hSc.cell1
          have c2 := hSc.cell2
          have HSc := Lib.hid hSc
          have HF := Lib.hid hF2
          clear hSc hF hF2 HE HS4
          by_cases hlt : a < s.size
          · have d1 : decide ((a : Int) < (s.size : Int)) = true := decide_eq_true (by omega)
            have hT := fun W (h : Scn w W g s a (.slice A0 L.length cp0) L n) => token_any w W g s a (.slice A0 L.length cp0) L n hn h hlt (by omega) (by omega)
            have hF3 := HF.out
            rw [if_pos hlt] at hF3
            rcases htk : tokenB (s.extract a s.size) n with _ | ⟨k, tx, m⟩
            · simp only [htk] at hF3 hT
              have HT := Lib.hid hT
              obtain rfl := hF3
              clear hT HF htk
              go_wp2_with (go_at_call 53; refine (HT.out _ HSc.out).mono ?_; rintro e w5 ⟨rfl, hS5⟩; have HS5 := Lib.hid hS5; clear hS5)
              go_ret3
              exact ⟨_, rfl, Kd.R_nil _ _ _ _ _, HS5.out.bel⟩
            · simp only [htk] at hF3 hT
              have htl := token_len _ _ _ _ _ (by rw [ext_size _ _ ha]; omega) htk
              rw [ext_size _ _ ha] at htl
              have HT := Lib.hid hT
              have HF3 := Lib.hid hF3
              have d2 : decide (((L.length + 1 : Nat) : Int) > 512) = false := decide_eq_false (by omega)
              have d3 : decide (512 < ((L.length + 1 : Nat) : Int)) = false := decide_eq_false (by omega)
              have d4 : decide ((L.length : Int) + 1 > 512) = false := decide_eq_false (by omega)
              have d5 : decide (512 < (L.length : Int) + 1) = false := decide_eq_false (by omega)
              have hsk := skip_ge s (a + m) (by omega)
              clear hT HF htk hF3
              go_wp2_with (first
                | (go_at_call 53; refine (HT.out _ HSc.out).mono ?_; rintro e w5 ⟨rfl, v5, hS5⟩; obtain ⟨A1, cp1, hv1⟩ := Kd.R_slice hS5.row; subst hv1; rw [List.length_append, List.length_singleton] at hS5; have e2 := hS5.cell2; have HS5 := Lib.hid hS5; clear hS5)
                | (go_at_call 52; refine (blanks_to w _ _ s (a + m) _ _ _ HS5.out (by omega) hs).mono ?_; rintro e w6 ⟨rfl, hS6⟩; have HS6 := Lib.hid hS6; clear hS6))
              exact ⟨⟨skipB s (a + m), _, _, _, f, HS6.out, hsk.2, (by rw [List.length_append, List.length_singleton]; omega), next_cases _ _, HF3, by omega⟩, by rw [HS6.out.at_, cm]; omega⟩
          · have d1 : decide ((a : Int) < (s.size : Int)) = false := decide_eq_false (by omega)
            have hF3 := HF.out
            rw [if_neg hlt] at hF3
            obtain rfl := hF3
            clear HF
            go_wp2
            go_ret3
            exact ⟨_, rfl, Kd.R_mono HSc.out.row (fun _ _ => trivial), HSc.out.bel⟩
def xplex_Scan.f (a0 : ByteArray) : Option (List S30 × Int × Int) := some (scanR a0)
theorem xplex_Scan.calls (a0 : ByteArray) (r1 : List S30) (r2 r3 : Int) (w : World) (HL : Laid w) (h : xplex_Scan.f a0 = some (r1, r2, r3)) :
    Calls Tryd.prog 18 #[.string a0] w fun e w' => ∃ v0_ : Value, e = .returned (.tuple #[v0_, .int .i64 r2, .int .i64 r3]) ∧ Kd.R k30 30 w' w.heap.size (fun _ => True) v0_ r1 ∧ Below w.heap.size w w' :=
  scan_any a0 w HL (r1, r2, r3) (Option.some.inj h)

end Go.Proofs.YtinefoocajnhmaaDoor.Print
