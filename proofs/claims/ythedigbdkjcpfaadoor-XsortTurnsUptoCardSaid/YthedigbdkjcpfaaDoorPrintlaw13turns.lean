-- Laid by xprint.py (ours), out of the seat's translation; Lean checks it.
import Derived.Test.YthedigbdkjcpfaaDoorPrint0
import Derived.Test.YthedigbdkjcpfaaDoorPrintf10
import Derived.Test.YthedigbdkjcpfaaDoorPrintxsortorder
namespace Go.Proofs.YthedigbdkjcpfaaDoor.Print
open Go.RowKit Go.Proofs.YthedigbdkjcpfaaDoorW.PrintWords Go.Proofs.YthedigbdkjcpfaaDoorW.PrintLast Go.Proofs.YthedigbdkjcpfaaDoorW.PrintMore
attribute [local go_sem] max2_int min2_int max_two min_two max_three min_three max_four min_four   -- for this text's walks alone
open Go.Proofs.YthedigbdkjcpfaaDoor.Plain
set_option linter.unusedVariables false
set_option linter.unusedSimpArgs false

-- GIVEN stencil/stencillaw13.XsortTurns rounds making
/-! ### stencillaw13_XsortTurnsZ: function 6 -/
mutual
def stencillaw13_XsortTurnsZ.j0 : Nat → List (List (S41)) → List (List (S41)) → Int → List Int → List Int → Bool → Option (Bool)
  | 0, _, _, _, _, _, _ => none
  | k + 1, x3, x4, x5, x7, x8, x53 => if x53 = true then (some false) else (stencillaw13_XsortTurnsZ.l0 k x3 x4 x5 x7 x8 0)
def stencillaw13_XsortTurnsZ.l0 : Nat → List (List (S41)) → List (List (S41)) → Int → List Int → List Int → Int → Option (Bool)
  | 0, _, _, _, _, _, _ => none
  | k + 1, x3, x4, x5, x7, x8, x9 => if x9 < x5 then (if 0 ≤ x9 then (if x9 < (x7.length : Int) then (if 0 ≤ (rd x7 x9) then (if (rd x7 x9) < (x3.length : Int) then (if 0 < ((rd_L5 x3 (rd x7 x9)).length : Int) then (if x9 < (x8.length : Int) then (if 0 ≤ (rd x8 x9) then (if (rd x8 x9) < (x4.length : Int) then (if 0 < ((rd_L5 x4 (rd x8 x9)).length : Int) then (if ((rd_T41 (rd_L5 x3 (rd x7 x9)) 0).f2).toList = ((rd_T41 (rd_L5 x4 (rd x8 x9)) 0).f2).toList then (if x9 > 0 then (if 0 ≤ (wrap64 (x9 - 1)) then (if (wrap64 (x9 - 1)) < (x7.length : Int) then (if 0 ≤ (rd x7 (wrap64 (x9 - 1))) then (if (rd x7 (wrap64 (x9 - 1))) < (x3.length : Int) then (if 0 < ((rd_L5 x3 (rd x7 (wrap64 (x9 - 1)))).length : Int) then (if (Op.bytesLess (((rd_T41 (rd_L5 x3 (rd x7 x9)) 0).f2).toList) (((rd_T41 (rd_L5 x3 (rd x7 (wrap64 (x9 - 1)))) 0).f2).toList)) = true then (some false) else (stencillaw13_XsortTurnsZ.l0 k x3 x4 x5 x7 x8 (wrap64 (x9 + 1)))) else (none)) else (none)) else (none)) else (none)) else (none)) else (stencillaw13_XsortTurnsZ.l0 k x3 x4 x5 x7 x8 (wrap64 (x9 + 1)))) else (some false)) else (none)) else (none)) else (none)) else (none)) else (none)) else (none)) else (none)) else (none)) else (none)) else ((stencillaw13_live.f k).bind fun t152 => (some t152))
end
def stencillaw13_XsortTurnsZ.f (k : Nat) (l0 : List ByteArray) (l1 : List (List (S41))) (a2 : Bool) (l3 : List (List (S41))) (l4 : List (List (S41))) (a5 : Int) : Option (Bool) := (xsort_Order.f k l3).bind fun t134 => ((xsort_Order.f k l4).bind fun t137 => (if (t134.length : Int) = a5 then (stencillaw13_XsortTurnsZ.j0 k l3 l4 a5 t134 t137 ((t137.length : Int) != a5)) else (stencillaw13_XsortTurnsZ.j0 k l3 l4 a5 t134 t137 true)))
theorem stencillaw13_XsortTurnsZ.mono_l : ∀ k, (∀ y0 y1 y2 y3 y4 y5, LeO (stencillaw13_XsortTurnsZ.j0 k y0 y1 y2 y3 y4 y5) (stencillaw13_XsortTurnsZ.j0 (k + 1) y0 y1 y2 y3 y4 y5)) ∧ (∀ y0 y1 y2 y3 y4 y5, LeO (stencillaw13_XsortTurnsZ.l0 k y0 y1 y2 y3 y4 y5) (stencillaw13_XsortTurnsZ.l0 (k + 1) y0 y1 y2 y3 y4 y5))
  | 0 => ⟨fun _ _ _ _ _ _ r h => by simp [stencillaw13_XsortTurnsZ.j0] at h, fun _ _ _ _ _ _ r h => by simp [stencillaw13_XsortTurnsZ.l0] at h⟩
  | k + 1 => by
    obtain ⟨ih0, ih1⟩ := stencillaw13_XsortTurnsZ.mono_l k
    refine ⟨?_, ?_⟩
    · intro y0 y1 y2 y3 y4 y5
      unfold stencillaw13_XsortTurnsZ.j0
      repeat' first
      | (with_reducible exact ih0 _ _ _ _ _ _)
      | (with_reducible exact ih1 _ _ _ _ _ _)
      | (with_reducible exact stencillaw13_live.mono _)
      | (with_reducible exact xsort_Order.mono _ _)
      | (with_reducible exact LeO.refl _)
      | (with_reducible exact LeO.none _)
      | (with_reducible refine LeO.ite ?_ ?_)
      | (with_reducible refine LeO.bind ?_ (fun _ => ?_))
      | exact ih0 _ _ _ _ _ _
      | exact ih1 _ _ _ _ _ _
      | exact stencillaw13_live.mono _
      | exact xsort_Order.mono _ _
      | exact LeO.none _
      | refine LeO.ite ?_ ?_
      | refine LeO.bind ?_ (fun _ => ?_)
    · intro y0 y1 y2 y3 y4 y5
      unfold stencillaw13_XsortTurnsZ.l0
      repeat' first
      | (with_reducible exact ih0 _ _ _ _ _ _)
      | (with_reducible exact ih1 _ _ _ _ _ _)
      | (with_reducible exact stencillaw13_live.mono _)
      | (with_reducible exact xsort_Order.mono _ _)
      | (with_reducible exact LeO.refl _)
      | (with_reducible exact LeO.none _)
      | (with_reducible refine LeO.ite ?_ ?_)
      | (with_reducible refine LeO.bind ?_ (fun _ => ?_))
      | exact ih0 _ _ _ _ _ _
      | exact ih1 _ _ _ _ _ _
      | exact stencillaw13_live.mono _
      | exact xsort_Order.mono _ _
      | exact LeO.none _
      | refine LeO.ite ?_ ?_
      | refine LeO.bind ?_ (fun _ => ?_)
theorem stencillaw13_XsortTurnsZ.mono : ∀ a0 a1 a2 a3 a4 a5 k, LeO (stencillaw13_XsortTurnsZ.f k a0 a1 a2 a3 a4 a5) (stencillaw13_XsortTurnsZ.f (k + 1) a0 a1 a2 a3 a4 a5) := by
  intro a0 a1 a2 a3 a4 a5 k
  obtain ⟨ih0, ih1⟩ := stencillaw13_XsortTurnsZ.mono_l k
  unfold stencillaw13_XsortTurnsZ.f
  repeat' first
      | (with_reducible exact ih0 _ _ _ _ _ _)
      | (with_reducible exact ih1 _ _ _ _ _ _)
      | (with_reducible exact stencillaw13_live.mono _)
      | (with_reducible exact xsort_Order.mono _ _)
      | (with_reducible exact LeO.refl _)
      | (with_reducible exact LeO.none _)
      | (with_reducible refine LeO.ite ?_ ?_)
      | (with_reducible refine LeO.bind ?_ (fun _ => ?_))
      | exact ih0 _ _ _ _ _ _
      | exact ih1 _ _ _ _ _ _
      | exact stencillaw13_live.mono _
      | exact xsort_Order.mono _ _
      | exact LeO.none _
      | refine LeO.ite ?_ ?_
      | refine LeO.bind ?_ (fun _ => ?_)
/-! ### stencillaw13_XsortTurns -/
def tk (s : ByteArray) : S41 := ⟨false, false, s, ⟨0, 0⟩⟩
def tkCells (s : ByteArray) : Array Value := #[.bool false, .bool false, .string s, .int .i64 0, .int .i64 0]
def encG (g : Nat) : Value := .slice (some ⟨g, 0, none⟩) 1 1
def kG : Kd Nat := Kd.scalar encG (fun _ => rfl)
/-- the blocks of rows of one key each -/
structure Inn (w : World) (gs : List Nat) (ts : List ByteArray) : Prop where
  len : gs.length = ts.length
  at_ : ∀ (j : Nat) g t, gs[j]? = some g → ts[j]? = some t → w.heap[g]? = some (.cells (tkCells t) 41 (0, 0))
theorem Inn.nil (w : World) : Inn w [] [] := ⟨rfl, fun j g t h _ => by simp at h⟩
theorem Inn.step {w w1 : World} {gs : List Nat} {ts : List ByteArray} (h : Inn w gs ts) (hs : ∀ (g : Nat) (cs : Array Value), w.heap[g]? = some (Obj.cells cs 41 (0, 0)) → w1.heap[g]? = w.heap[g]?) : Inn w1 gs ts :=
  ⟨h.len, fun j g t hg ht => by have h1 := h.at_ j g t hg ht; rw [hs g _ h1]; exact h1⟩
theorem Inn.snoc {w : World} {gs : List Nat} {ts : List ByteArray} (h : Inn w gs ts) {g : Nat} {t : ByteArray} (hg : w.heap[g]? = some (.cells (tkCells t) 41 (0, 0))) : Inn w (gs ++ [g]) (ts ++ [t]) := by
  refine ⟨by rw [List.length_append, List.length_append, h.len]; rfl, fun j g2 t2 h1 h2 => ?_⟩
  by_cases hj : j < gs.length
  · rw [List.getElem?_append_left hj] at h1
    rw [List.getElem?_append_left (by have := h.len; omega)] at h2
    exact h.at_ j g2 t2 h1 h2
  · rw [List.getElem?_append_right (by omega)] at h1
    rw [List.getElem?_append_right (by have := h.len; omega)] at h2
    have e : j - gs.length = 0 := by
      have := (List.getElem?_eq_some_iff.1 h1).1
      simp only [List.length_cons, List.length_nil] at this
      omega
    rw [e] at h1
    rw [← h.len, e] at h2
    simp only [List.getElem?_cons_zero, Option.some.injEq] at h1 h2
    rw [← h1, ← h2]; exact hg
/-- such a row of rows, read -/
theorem kG_reads {w : World} {base : Nat} {ok : Nat → Prop} {v : Value} {gs : List Nat} {ts : List ByteArray} (h : kG.R 35 w base ok v gs) (hI : Inn w gs ts) :
    ∃ A c, v = .slice A (ts.map fun s => [tk s]).length c ∧ (ts.map fun s => [tk s]).length ≤ c ∧ Kd.C (Kd.slice 41 k41) w A (ts.map fun s => [tk s]).length (ts.map fun s => [tk s]) := by
  obtain ⟨A, c, hv, hc, hC⟩ := Kd.R_reads h
  have hl : (ts.map fun s => [tk s]).length = gs.length := by rw [List.length_map, hI.len]
  rw [hl]
  refine ⟨A, c, hv, hc, hl, hC.2.1, fun hpos => ?_⟩
  obtain ⟨ad, hA, hat⟩ := hC.2.2 (by simpa [hl] using hpos)
  refine ⟨ad, hA, fun j p hj => ?_⟩
  rw [List.getElem?_map, Option.map_eq_some_iff] at hj
  obtain ⟨t, ht, rfl⟩ := hj
  obtain ⟨g, hg⟩ : ∃ g, gs[j]? = some g := ⟨_, List.getElem?_eq_getElem (by rw [hI.len]; exact (List.getElem?_eq_some_iff.1 ht).1)⟩
  obtain ⟨cs, hlen, hcs, hcell⟩ := hat j g hg
  obtain rfl : cs = [encG g] := hcs
  have hb := hI.at_ j g t hg ht
  refine ⟨[encG g], rfl, ⟨some ⟨g, 0, none⟩, 1, rfl, by simp, ?_⟩, hcell⟩
  refine ⟨rfl, by simp, fun _ => ⟨⟨g, 0, none⟩, rfl, fun i q hi => ?_⟩⟩
  have hi0 : i = 0 := by have := (List.getElem?_eq_some_iff.1 hi).1; simpa using this
  subst hi0
  have hq : q = tk t := by simpa using hi.symm
  subst hq
  refine ⟨_, rfl, k41_mk w (tk t), fun m u hu => ?_⟩
  have e : (Addr.add ⟨g, 0, none⟩ (0 * k41.sz + m)) = ⟨g, m, none⟩ := by rw [Nat.zero_mul, Nat.zero_add, add_plain]
  rw [e]
  simp only [World.cell?, hb]
  have : (tkCells t)[m]? = some u := by
    rw [← hu]
    show (#[.bool false, .bool false, .string t, .int .i64 0, .int .i64 0] : Array Value)[m]? = _
    rw [List.getElem?_toArray]
    rfl
  simpa using this
theorem turn_step {wr w4 : World} {base : Nat} {va vb v1 : Value} {ga gb : List Nat} {ta tb : List ByteArray} {s : ByteArray} (HA : kG.R 35 wr base (fun _ => True) va ga) (HB : kG.R 35 wr base (fun _ => True) vb gb) (HN : NeRow va vb) (IA : Inn wr ga ta) (IB : Inn wr gb tb)
    (hg : (wr.alloc (.cells (tkCells s) 41 (0, 0))).grownBy w4 va.ownBlock) (hat : v1.ownBlock = va.ownBlock ∨ ∃ b, v1.ownBlock = some b ∧ (wr.alloc (.cells (tkCells s) 41 (0, 0))).heap.size ≤ b) :
    kG.R 35 w4 base (fun _ => True) vb gb ∧ NeRow v1 vb ∧ Inn w4 (ga ++ [wr.heap.size]) (ta ++ [s]) ∧ Inn w4 gb tb := by
  have hb : Below wr.heap.size wr (wr.alloc (.cells (tkCells s) 41 (0, 0))) := below_alloc (Below.refl _ _) _
  have HA1 := Kd.R_below HA hb
  have HB1 := Kd.R_below HB hb
  obtain ⟨ia, hoa⟩ := Kd.R_own HA1
  obtain ⟨ib, hob⟩ := Kd.R_own HB1
  have keep : ∀ (g : Nat) (cs : Array Value), (wr.alloc (.cells (tkCells s) 41 (0, 0))).heap[g]? = some (Obj.cells cs 41 (0, 0)) → w4.heap[g]? = (wr.alloc (.cells (tkCells s) 41 (0, 0))).heap[g]? := fun g cs h =>
    hg.block g (blk_lt h) (own_ne hoa h (by decide))
  have up : ∀ (g : Nat) (cs : Array Value), wr.heap[g]? = some (Obj.cells cs 41 (0, 0)) → (wr.alloc (.cells (tkCells s) 41 (0, 0))).heap[g]? = wr.heap[g]? := fun g cs h => Below.heap_alloc _ _ _ (blk_lt h)
  have hnew : w4.heap[wr.heap.size]? = some (.cells (tkCells s) 41 (0, 0)) := by
    rw [keep _ _ (blk_new wr _)]; exact blk_new wr _
  refine ⟨⟨fun _ _ => trivial, OwnRow.other HB1.2 hg (ne_other HN)⟩, ne_append HN hat hob, ((IA.step up).step keep).snoc hnew, (IB.step up).step keep⟩
section
variable {P : Program} {ops : Array Oper} {Q : Exit → Act → World → Prop} {o : Oper} {rest : List Oper} {a : Act}
theorem slice_event {W : World} (hgd : o.guard = none) {N : Tmp} (_hd : o.dst = some N) {cs : Array Value} {t : TypeId}
    (hrun : (execOp a.eval o).run P W = .ok (.value (.slice (some ⟨W.heap.size, 0, none⟩) 1 1)) (W.alloc (.cells cs t (0, 0))))
    (h : ∀ w1, w1 = W.alloc (.cells cs t (0, 0)) → ∀ g, g = W.heap.size → wpList P ops Q rest (a.put o.dst (.slice (some ⟨g, 0, none⟩) 1 1)) w1) : wpList P ops Q (o :: rest) a W :=
  Kd.event_run hgd hrun (h _ rfl _ rfl)
end
theorem tb_irr : ∀ l : List UInt8, Op.bytesLess l l = false
  | [] => rfl
  | a :: l => by simp [Op.bytesLess, tb_irr l]
theorem tb_asy : ∀ l m : List UInt8, Op.bytesLess l m = true → Op.bytesLess m l = false
  | _, [], h => by simp [Op.bytesLess] at h
  | [], _ :: _, _ => rfl
  | a :: l, b :: m, h => by
    simp only [Op.bytesLess, Bool.or_eq_true, decide_eq_true_eq, Bool.and_eq_true, beq_iff_eq] at h
    simp only [Op.bytesLess, Bool.or_eq_false_iff, decide_eq_false_iff_not, Bool.and_eq_false_iff, beq_eq_false_iff_ne]
    rcases h with h | ⟨rfl, h⟩
    · exact ⟨by rw [UInt8.lt_iff_toNat_lt] at h ⊢; omega, .inl (fun e => by rw [e, UInt8.lt_iff_toNat_lt] at h; omega)⟩
    · exact ⟨by rw [UInt8.lt_iff_toNat_lt]; omega, .inr (tb_asy l m h)⟩
theorem tb_tri : ∀ l m : List UInt8, Op.bytesLess l m = false → Op.bytesLess m l = false → l = m
  | [], [], _, _ => rfl
  | [], _ :: _, h, _ => by simp [Op.bytesLess] at h
  | _ :: _, [], _, h => by simp [Op.bytesLess] at h
  | a :: l, b :: m, h1, h2 => by
    simp only [Op.bytesLess, Bool.or_eq_false_iff, decide_eq_false_iff_not, Bool.and_eq_false_iff, beq_eq_false_iff_ne] at h1 h2
    have e : a = b := by
      apply UInt8.toNat_inj.1
      have := h1.1
      have := h2.1
      rw [UInt8.lt_iff_toNat_lt] at *
      omega
    subst e
    rw [tb_tri l m (by rcases h1.2 with h | h; exact absurd rfl h; exact h) (by rcases h2.2 with h | h; exact absurd rfl h; exact h)]
theorem tb_gtr (a b : List UInt8) : (!(Op.bytesLess a b || a == b)) = Op.bytesLess b a := by
  cases h : Op.bytesLess a b with
  | true => rw [tb_asy _ _ h]; rfl
  | false =>
    cases h2 : Op.bytesLess b a with
    | true =>
      have : (a == b) = false := beq_eq_false_iff_ne.mpr (fun e => by rw [e, tb_irr] at h2; cases h2)
      rw [this]; rfl
    | false =>
      have : (a == b) = true := beq_iff_eq.mpr (tb_tri _ _ h h2)
      rw [this]; rfl
/-- texts compared by '>' -/
theorem binOp_gtr_s (t : TypeId) (a b : ByteArray) : Go.binOp .gtr t (.string a) (.string b) = pure (Value.bool (Op.bytesLess b.toList a.toList)) := by
  rw [← tb_gtr]
  simp [Go.binOp, Op.stringOp]
attribute [local go_sem] binOp_gtr_s
def turnN (l : List ByteArray) : Nat := min l.length 30
def turnA (l : List ByteArray) : List ByteArray := l.take (turnN l)
def turnB (l : List ByteArray) : List ByteArray := (l.take (turnN l)).reverse
def turnT (l : List ByteArray) : List (List S41) := l.map fun s => [tk s]
def stencillaw13_XsortTurns.f (k : Nat) (l0 : List ByteArray) : Option (Bool) := stencillaw13_XsortTurnsZ.f k l0 [] false (turnT (turnA l0)) (turnT (turnB l0)) (turnN l0 : Int)
theorem stencillaw13_XsortTurns.mono : ∀ a0 k, LeO (stencillaw13_XsortTurns.f k a0) (stencillaw13_XsortTurns.f (k + 1) a0) := fun a0 k => stencillaw13_XsortTurnsZ.mono _ _ _ _ _ _ k
theorem turn_i1 (n : Nat) (h : n < 1000) : wrap64 ((n : Int) + 1) = (n : Int) + 1 := by unfold wrap64; omega
theorem ti_in (n : Nat) (h : n < 1000) : IntKind.i64.wrap (n : Int) = (n : Int) := by rw [IntKind.wrap_i64]; omega
theorem ti_in1 (n : Nat) (h : n < 1000) : IntKind.i64.wrap ((n : Int) + 1) = (n : Int) + 1 := by rw [IntKind.wrap_i64]; omega
set_option maxHeartbeats 8000000 in
set_option maxRecDepth 100000 in
theorem stencillaw13_XsortTurns.calls (k : Nat) (A0 : Option Addr) (c0 : Nat) (l0 : List ByteArray) (r : Bool) (w : World) (hr0 : Kd.C Kd.string w A0 l0.length l0) (hc0 : l0.length ≤ c0) (HLD : Laid w) (h : stencillaw13_XsortTurns.f k l0 = some r) :
    Calls Tryd.prog 6 #[.slice A0 l0.length c0] w fun e w' => e = .returned (.bool r) ∧ Below w.heap.size w w' := by
  have HR0 := Aside0.mk hr0
  have HC0 := Aside0.mk hc0
  clear hr0 hc0
  have HF : Aside0 (stencillaw13_XsortTurnsZ.f k l0 [] false (turnT (turnA l0)) (turnT (turnB l0)) (turnN l0 : Int) = some r) := ⟨h⟩
  clear h
  obtain ⟨n, hn⟩ : ∃ n, n = turnN l0 := ⟨_, rfl⟩
  have n1 : n ≤ l0.length := by rw [hn]; unfold turnN; omega
  have n2 : n ≤ 30 := by rw [hn]; unfold turnN; omega
  have HN : Aside0 (n = turnN l0) := ⟨hn⟩
  clear hn
  have hu41 := Tryd.underlying41
  go_enter Tryd.func6, Tryd.ntmps6
  go_upto_if 13 with fail
  go_cut [5] (fun v5 wc => v5 = .int .i64 n ∧ wc = w)
  case first =>
    by_cases c : 30 < l0.length
    · have cz : (30 : Int) < (l0.length : Int) := by omega
      have e : n = 30 := by have := HN.out; unfold turnN at this; omega
      subst e
      go_wp2
      go_meet
      case rel => exact ⟨rfl, rfl⟩
    · have cz : ¬ (30 : Int) < (l0.length : Int) := by omega
      have e : n = l0.length := by have := HN.out; unfold turnN at this; omega
      clear n1
      subst e
      go_wp2
      go_meet
      case rel => exact ⟨rfl, rfl⟩
  case rest =>
    obtain ⟨rfl, rfl⟩ := hcut
    go_wp2
    go_loopg [3, 4, 6] n (fun kq v3 v4 v6 w' => ∃ (i : Nat) (ga gb : List Nat), v6 = .int .i64 i ∧ i ≤ n ∧ n - i ≤ kq ∧ Aside0 (kG.R 35 w' wc.heap.size (fun _ => True) v3 ga) ∧ Aside0 (kG.R 35 w' wc.heap.size (fun _ => True) v4 gb) ∧ Aside0 (NeRow v3 v4) ∧ Aside0 (Inn w' ga (l0.take i)) ∧ Aside0 (Inn w' gb ((l0.take n).reverse.take i)) ∧ Aside0 (Below wc.heap.size wc w'))
    case atStart => exact ⟨0, [], [], rfl, by omega, by omega, ⟨Kd.R_nil _ _ _ _ _⟩, ⟨Kd.R_nil _ _ _ _ _⟩, ⟨ne_nil _⟩, ⟨Inn.nil _⟩, ⟨Inn.nil _⟩, ⟨Below.refl _ _⟩⟩
    case round =>
      obtain ⟨i, ga, gb, rfl, hi1, hi2, HA, HB4, HNE, HIA, HIB, HB⟩ := hrel
      by_cases c : i < n
      · have cz : (i : Int) < (n : Int) := by omega
        obtain ⟨m, hm⟩ : ∃ m, m + i + 1 = n := ⟨n - 1 - i, by omega⟩
        have p0 : 0 ≤ (i : Int) := by omega
        have q0 : (i : Int) < (l0.length : Int) := by omega
        obtain ⟨ad0, e0, hx0⟩ := Kd.at_string HR0.out (i : Int) p0 q0
        cases e0
        have pm : 0 ≤ (m : Int) := by omega
        have qm : (m : Int) < (l0.length : Int) := by omega
        obtain ⟨ad1, e1, hx1⟩ := Kd.at_string HR0.out (m : Int) pm qm
        obtain rfl : ad0 = ad1 := by injection e1
        clear e1
        replace hx0 := (HB.out.cell (World.block_lt_of_cell? wc _ hx0)).trans hx0
        have hx1w := Aside0.mk (hx1)
        clear hx1
        rw [Int.toNat_natCast] at hx0
        obtain ⟨sa, hsa⟩ : ∃ s, s = rdOf ByteArray.empty l0 (i : Int) := ⟨_, rfl⟩
        rw [← hsa] at hx0
        have HSA := Aside0.mk hsa
        clear hsa
        obtain ⟨nm, hnm⟩ : ∃ q, q + 1 = n := ⟨n - 1, by omega⟩
        have HNM := Aside0.mk hnm
        have em1 : (n : Int) - 1 = (nm : Int) := by omega
        have em2 : (nm : Int) - (i : Int) = (m : Int) := by omega
        have bm1 : nm < 1000 := by omega
        have bm2 : m < 1000 := by omega
        have bi1 : i < 1000 := by omega
        clear hnm
        have HM := Aside0.mk hm
        clear hm
        obtain ⟨sb, hsb⟩ : ∃ s, s = rdOf ByteArray.empty l0 (m : Int) := ⟨_, rfl⟩
        have HSB := Aside0.mk hsb
        clear hsb
        have r1 := ti_in nm bm1
        have r2 := ti_in m bm2
        have r3 := ti_in1 i bi1
        go_wp2_with (first | ((with_reducible refine gate_dst (N := 25) rfl ?_); refine slice_event ?hg (N := 25) ?hd (cs := tkCells sa) (t := 41) ?hr ?_; (case hd => rfl); (case hg => rfl); (case hr => first | (go_simp; done) | (go_simp; rfl)); intro w1 hw_ gA hg_; have HW1 := Aside0.mk hw_; have HG1 := Aside0.mk hg_; clear hw_ hg_) | ((with_reducible refine gate_builtin (b := .append) (xs := #[.tmp 19, .tmp 26]) rfl ?_); at_builtin; refine Kd.R_append kG (w0 := wc) wc.heap.size rfl (.tmp 19) (.tmp 26) 25 35 (.slice none 0 0) 24 rfl Tryd.underlying25 info35 rfl (by decide) (by omega) u3 ga gA [encG gA] (fun _ => True) (fun _ => False) rfl rfl ?aP (fun _ hk => hk.elim) ?aF ?aO ?aB ?aS ?aL ?_; (case aP => exact rfl); (case aB => rw [HW1.out]; exact below_alloc HB.out _); (case aF => exact (fun _ _ => trivial)); (case aO => rw [HW1.out]; exact Kd.R_below HA.out (below_alloc (Below.refl _ _) _)); (case aS => rw [HW1.out]; exact (below_alloc HB.out _).size); (case aL => have h_ := HIA.out.len; rw [List.length_take] at h_; omega); intro v1 w4 ho hb hg hat; have ST1 := Aside0.mk (turn_step HA.out HB4.out HNE.out HIA.out HIB.out (s := sa) (by rw [← HW1.out]; exact hg) (by rw [← HW1.out]; exact hat)); have HO1 := Aside0.mk ho; have HBB := Aside0.mk hb; clear ho hb hg hat; have HP1 := Aside0.mk ST1.out.1; have HP2 := Aside0.mk ST1.out.2.1; have HP3 := Aside0.mk (by have q_ := ST1.out.2.2.1; rw [← HG1.out] at q_; exact q_ : Inn w4 (ga ++ [gA]) (l0.take i ++ [sa])); have HP4 := Aside0.mk ST1.out.2.2.2; clear ST1; have hx1 := (HBB.out.cell (World.block_lt_of_cell? wc _ hx1w.out)).trans hx1w.out; rw [Int.toNat_natCast, ← HSB.out] at hx1) | ((with_reducible refine gate_dst (N := 37) rfl ?_); refine slice_event ?hg (N := 37) ?hd (cs := tkCells sb) (t := 41) ?hr ?_; (case hd => rfl); (case hg => rfl); (case hr => first | (go_simp; done) | (go_simp; rfl)); intro w5 hw_ gB hg_; have HW2 := Aside0.mk hw_; have HG2 := Aside0.mk hg_; clear hw_ hg_) | ((with_reducible refine gate_builtin (b := .append) (xs := #[.tmp 28, .tmp 38]) rfl ?_); at_builtin; refine Kd.R_append kG (w0 := wc) wc.heap.size rfl (.tmp 28) (.tmp 38) 25 35 (.slice none 0 0) 24 rfl Tryd.underlying25 info35 rfl (by decide) (by omega) u4 gb gB [encG gB] (fun _ => True) (fun _ => False) rfl rfl ?aP (fun _ hk => hk.elim) ?aF ?aO ?aB ?aS ?aL ?_; (case aP => exact rfl); (case aB => rw [HW2.out]; exact below_alloc HBB.out _); (case aF => exact (fun _ _ => trivial)); (case aO => rw [HW2.out]; exact Kd.R_below HP1.out (below_alloc (Below.refl _ _) _)); (case aS => rw [HW2.out]; exact (below_alloc HBB.out _).size); (case aL => have h_ := HIB.out.len; rw [List.length_take] at h_; omega); intro v2 w6 ho hb hg hat; have ST2 := Aside0.mk (turn_step HP1.out HO1.out (ne_symm HP2.out) HP4.out HP3.out (s := sb) (by rw [← HW2.out]; exact hg) (by rw [← HW2.out]; exact hat)); have HO2 := Aside0.mk ho; have HBC := Aside0.mk hb; clear ho hb hg hat))
        clear r1 r2 r3
        go_roundg (n - (i + 1))
        case measure => omega
        case rel =>
          have e1 : rdOf ByteArray.empty l0 (i : Int) = l0[i] := by
            unfold rdOf
            rw [Int.toNat_natCast, List.getD_eq_getElem?_getD, List.getElem?_eq_getElem (by omega)]; rfl
          have e2 : rdOf ByteArray.empty l0 (m : Int) = l0[m] := by
            unfold rdOf
            rw [Int.toNat_natCast, List.getD_eq_getElem?_getD, List.getElem?_eq_getElem (by omega)]; rfl
          have f1 : l0.take i ++ [sa] = l0.take (i + 1) := by rw [HSA.out, e1]; exact (List.take_succ_eq_append_getElem (by omega)).symm
          have f2 : (l0.take n).reverse.take i ++ [sb] = (l0.take n).reverse.take (i + 1) := by
            rw [List.take_succ_eq_append_getElem (show i < (l0.take n).reverse.length by rw [List.length_reverse, List.length_take]; omega), HSB.out, e2]
            congr 2
            rw [List.getElem_reverse, List.getElem_take]
            congr 1
            have := HM.out
            rw [List.length_take]
            omega
          exact ⟨i + 1, ga ++ [gA], gb ++ [gB], by first | rfl | go_num | (congr 1; omega), by omega, Nat.le_refl _, ⟨ST2.out.1⟩, ⟨HO2.out⟩, ⟨ne_symm ST2.out.2.1⟩, ⟨by rw [← f1]; exact ST2.out.2.2.2⟩, ⟨by rw [← f2, HG2.out]; exact ST2.out.2.2.1⟩, ⟨HBC.out⟩⟩
      · have cz : ¬ (i : Int) < (n : Int) := by omega
        obtain rfl : i = n := by omega
        obtain ⟨A3, c3, hv3, hc3, hC3⟩ := kG_reads HA.out HIA.out
        obtain ⟨A4, c4, hv4, hc4, hC4⟩ := kG_reads HB4.out HIB.out
        have eA : (l0.take i).map (fun s => [tk s]) = turnT (turnA l0) := by unfold turnT turnA; rw [← HN.out]
        have eB : ((l0.take i).reverse.take i).map (fun s => [tk s]) = turnT (turnB l0) := by
          unfold turnT turnB
          rw [← HN.out, List.take_of_length_le (by rw [List.length_reverse, List.length_take]; omega)]
        rw [eA] at hv3 hc3 hC3
        rw [eB] at hv4 hc4 hC4
        have HFZ := HF
        rw [← HN.out] at HFZ
        clear HF HN
        obtain ⟨l3, hl3⟩ : ∃ x, x = turnT (turnA l0) := ⟨_, rfl⟩
        obtain ⟨l4, hl4⟩ : ∃ x, x = turnT (turnB l0) := ⟨_, rfl⟩
        rw [← hl3] at hv3 hc3 hC3 HFZ
        rw [← hl4] at hv4 hc4 hC4 HFZ
        clear hl3 hl4 eA eB
        have HW0 : Aside0 (Below wc.heap.size wc wr) := HB
        clear HA HB4 HNE HIA HIB HB
        obtain ⟨a5, ha5⟩ : ∃ q : Int, q = (i : Int) := ⟨_, rfl⟩
        have cz5 : ¬ a5 < a5 := by omega
        rw [← ha5] at HFZ ⊢
        clear ha5 cz
        have HR3 := Aside0.mk hC3
        have HC3 := Aside0.mk hc3
        have HR4 := Aside0.mk hC4
        have HC4 := Aside0.mk hc4
        clear hC3 hc3 hC4 hc4
        subst hv3
        subst hv4
        replace HLD := Laid.below HLD HW0.out
        generalize wr = wq at HR3 HR4 HW0 HLD ⊢
        have HB := Aside0.mk (Below.refl wq.heap.size wq)
        have H : ((xsort_Order.f k l3).bind fun t134 => ((xsort_Order.f k l4).bind fun t137 => (if (t134.length : Int) = a5 then (stencillaw13_XsortTurnsZ.j0 k l3 l4 a5 t134 t137 ((t137.length : Int) != a5)) else (stencillaw13_XsortTurnsZ.j0 k l3 l4 a5 t134 t137 true)))) = some r := HFZ.out
        clear HFZ
        replace H := Option.bind_eq_some_iff.mp H
        obtain ⟨t134, A70, H⟩ := H
        replace H : ((xsort_Order.f k l4).bind fun t137 => (if (t134.length : Int) = a5 then (stencillaw13_XsortTurnsZ.j0 k l3 l4 a5 t134 t137 ((t137.length : Int) != a5)) else (stencillaw13_XsortTurnsZ.j0 k l3 l4 a5 t134 t137 true))) = some r := H
        have A7 := Aside0.mk A70
        clear A70
        replace H := Option.bind_eq_some_iff.mp H
        obtain ⟨t137, A80, H⟩ := H
        replace H : (if (t134.length : Int) = a5 then (stencillaw13_XsortTurnsZ.j0 k l3 l4 a5 t134 t137 ((t137.length : Int) != a5)) else (stencillaw13_XsortTurnsZ.j0 k l3 l4 a5 t134 t137 true)) = some r := H
        have A8 := Aside0.mk A80
        clear A80
        have HC9 := Aside0.mk H
        clear H
        go_upto_region 11 with (first | (go_at_call 17; (with_reducible refine (xsort_Order.calls k _ _ l3 t134 _ ?side1 ?side2 ?side3 A7.out).mono ?_); (case side1 => repeat (first | exact HR3.out | (with_reducible refine Kd.C_alloc ?_ _) | (with_reducible refine Kd.C_drewN ?_ _) | (with_reducible refine Kd.C_drew ?_))); (case side2 => exact HC3.out); (case side3 => first | exact HLD | exact Laid.below HLD (by repeat (first | (with_reducible first | exact HB.out | apply below_alloc | apply pw_below_drewN | apply below_drew1) | exact HB.out))); rintro e w10 ⟨v135, rfl, ho0, hb⟩; have n0_ := Aside0.mk (Kd.R_lower ho0 (below_size (by repeat (first | (with_reducible first | exact HB.out | apply below_alloc | apply pw_below_drewN | apply below_drew1) | exact HB.out)))); have n1_ := Aside0.mk (below_step (by repeat (first | (with_reducible first | exact HB.out | apply below_alloc | apply pw_below_drewN | apply below_drew1) | exact HB.out)) hb); clear HB; have HO136 := n0_; have HB := n1_; clear n0_ n1_; (try clear hb); (try clear hb2); (try clear hk); (try clear hi); (try clear ho0)) | (go_at_call 17; (with_reducible refine (xsort_Order.calls k _ _ l4 t137 _ ?side1 ?side2 ?side3 A8.out).mono ?_); (case side1 => repeat (first | exact (Kd.C_below HR4.out HB.out) | (with_reducible refine Kd.C_alloc ?_ _) | (with_reducible refine Kd.C_drewN ?_ _) | (with_reducible refine Kd.C_drew ?_))); (case side2 => exact HC4.out); (case side3 => first | exact HLD | exact Laid.below HLD (by repeat (first | (with_reducible first | exact HB.out | apply below_alloc | apply pw_below_drewN | apply below_drew1) | exact HB.out))); rintro e w11 ⟨v138, rfl, ho0, hb⟩; have n0_ := Aside0.mk (Kd.R_elder' (by (with_reducible repeat (first | apply Kd.R_alloc | apply Kd.R_drewN | apply Kd.R_drew)); exact HO136.out) (Kd.R_base ho0) hb); have n1_ := Aside0.mk (Kd.R_lower (Kd.R_new' ho0 (Kd.R_lt (by (with_reducible repeat (first | apply Kd.R_alloc | apply Kd.R_drewN | apply Kd.R_drew)); exact HO136.out))) (below_size (by repeat (first | (with_reducible first | exact HB.out | apply below_alloc | apply pw_below_drewN | apply below_drew1) | exact HB.out)))); have n2_ := Aside0.mk (below_step (by repeat (first | (with_reducible first | exact HB.out | apply below_alloc | apply pw_below_drewN | apply below_drew1) | exact HB.out)) hb); clear HO136; clear HB; have HO136 := n0_; have HO139 := n1_; have HB := n2_; clear n0_ n1_ n2_; (try clear hb); (try clear hb2); (try clear hk); (try clear hi); (try clear ho0)))
        repeat (go_quiet (first | (go_at_call 17; (with_reducible refine (xsort_Order.calls k _ _ l3 t134 _ ?side1 ?side2 ?side3 A7.out).mono ?_); (case side1 => repeat (first | exact HR3.out | (with_reducible refine Kd.C_alloc ?_ _) | (with_reducible refine Kd.C_drewN ?_ _) | (with_reducible refine Kd.C_drew ?_))); (case side2 => exact HC3.out); (case side3 => first | exact HLD | exact Laid.below HLD (by repeat (first | (with_reducible first | exact HB.out | apply below_alloc | apply pw_below_drewN | apply below_drew1) | exact HB.out))); rintro e w10 ⟨v135, rfl, ho0, hb⟩; have n0_ := Aside0.mk (Kd.R_lower ho0 (below_size (by repeat (first | (with_reducible first | exact HB.out | apply below_alloc | apply pw_below_drewN | apply below_drew1) | exact HB.out)))); have n1_ := Aside0.mk (below_step (by repeat (first | (with_reducible first | exact HB.out | apply below_alloc | apply pw_below_drewN | apply below_drew1) | exact HB.out)) hb); clear HB; have HO136 := n0_; have HB := n1_; clear n0_ n1_; (try clear hb); (try clear hb2); (try clear hk); (try clear hi); (try clear ho0)) | (go_at_call 17; (with_reducible refine (xsort_Order.calls k _ _ l4 t137 _ ?side1 ?side2 ?side3 A8.out).mono ?_); (case side1 => repeat (first | exact (Kd.C_below HR4.out HB.out) | (with_reducible refine Kd.C_alloc ?_ _) | (with_reducible refine Kd.C_drewN ?_ _) | (with_reducible refine Kd.C_drew ?_))); (case side2 => exact HC4.out); (case side3 => first | exact HLD | exact Laid.below HLD (by repeat (first | (with_reducible first | exact HB.out | apply below_alloc | apply pw_below_drewN | apply below_drew1) | exact HB.out))); rintro e w11 ⟨v138, rfl, ho0, hb⟩; have n0_ := Aside0.mk (Kd.R_elder' (by (with_reducible repeat (first | apply Kd.R_alloc | apply Kd.R_drewN | apply Kd.R_drew)); exact HO136.out) (Kd.R_base ho0) hb); have n1_ := Aside0.mk (Kd.R_lower (Kd.R_new' ho0 (Kd.R_lt (by (with_reducible repeat (first | apply Kd.R_alloc | apply Kd.R_drewN | apply Kd.R_drew)); exact HO136.out))) (below_size (by repeat (first | (with_reducible first | exact HB.out | apply below_alloc | apply pw_below_drewN | apply below_drew1) | exact HB.out)))); have n2_ := Aside0.mk (below_step (by repeat (first | (with_reducible first | exact HB.out | apply below_alloc | apply pw_below_drewN | apply below_drew1) | exact HB.out)) hb); clear HO136; clear HB; have HO136 := n0_; have HO139 := n1_; have HB := n2_; clear n0_ n1_ n2_; (try clear hb); (try clear hb2); (try clear hk); (try clear hi); (try clear ho0))); go_upto_region 11 with (first | (go_at_call 17; (with_reducible refine (xsort_Order.calls k _ _ l3 t134 _ ?side1 ?side2 ?side3 A7.out).mono ?_); (case side1 => repeat (first | exact HR3.out | (with_reducible refine Kd.C_alloc ?_ _) | (with_reducible refine Kd.C_drewN ?_ _) | (with_reducible refine Kd.C_drew ?_))); (case side2 => exact HC3.out); (case side3 => first | exact HLD | exact Laid.below HLD (by repeat (first | (with_reducible first | exact HB.out | apply below_alloc | apply pw_below_drewN | apply below_drew1) | exact HB.out))); rintro e w10 ⟨v135, rfl, ho0, hb⟩; have n0_ := Aside0.mk (Kd.R_lower ho0 (below_size (by repeat (first | (with_reducible first | exact HB.out | apply below_alloc | apply pw_below_drewN | apply below_drew1) | exact HB.out)))); have n1_ := Aside0.mk (below_step (by repeat (first | (with_reducible first | exact HB.out | apply below_alloc | apply pw_below_drewN | apply below_drew1) | exact HB.out)) hb); clear HB; have HO136 := n0_; have HB := n1_; clear n0_ n1_; (try clear hb); (try clear hb2); (try clear hk); (try clear hi); (try clear ho0)) | (go_at_call 17; (with_reducible refine (xsort_Order.calls k _ _ l4 t137 _ ?side1 ?side2 ?side3 A8.out).mono ?_); (case side1 => repeat (first | exact (Kd.C_below HR4.out HB.out) | (with_reducible refine Kd.C_alloc ?_ _) | (with_reducible refine Kd.C_drewN ?_ _) | (with_reducible refine Kd.C_drew ?_))); (case side2 => exact HC4.out); (case side3 => first | exact HLD | exact Laid.below HLD (by repeat (first | (with_reducible first | exact HB.out | apply below_alloc | apply pw_below_drewN | apply below_drew1) | exact HB.out))); rintro e w11 ⟨v138, rfl, ho0, hb⟩; have n0_ := Aside0.mk (Kd.R_elder' (by (with_reducible repeat (first | apply Kd.R_alloc | apply Kd.R_drewN | apply Kd.R_drew)); exact HO136.out) (Kd.R_base ho0) hb); have n1_ := Aside0.mk (Kd.R_lower (Kd.R_new' ho0 (Kd.R_lt (by (with_reducible repeat (first | apply Kd.R_alloc | apply Kd.R_drewN | apply Kd.R_drew)); exact HO136.out))) (below_size (by repeat (first | (with_reducible first | exact HB.out | apply below_alloc | apply pw_below_drewN | apply below_drew1) | exact HB.out)))); have n2_ := Aside0.mk (below_step (by repeat (first | (with_reducible first | exact HB.out | apply below_alloc | apply pw_below_drewN | apply below_drew1) | exact HB.out)) hb); clear HO136; clear HB; have HO136 := n0_; have HO139 := n1_; have HB := n2_; clear n0_ n1_ n2_; (try clear hb); (try clear hb2); (try clear hk); (try clear hi); (try clear ho0))))
        (try simp only [Act.put, List.setIfInBounds_toArray, List.set_cons_zero, List.set_cons_succ])
        go_cut [53] (fun v53 wc => ∃ (kq : Nat) (x53_8 : Bool), v53 = .bool x53_8 ∧ Aside0 (stencillaw13_XsortTurnsZ.j0 kq l3 l4 a5 t134 t137 x53_8 = some r) ∧ Aside0 (kq ≤ k) ∧ Aside0 (Kd.R (Kd.int .i64) 3 wc wq.heap.size (fun k_ => some k_ ≠ (v138 : Value).ownBlock) v135 t134) ∧ Aside0 (Kd.R (Kd.int .i64) 3 wc wq.heap.size (fun k_ => some k_ ≠ (v135 : Value).ownBlock) v138 t137) ∧ Aside0 (Below wq.heap.size wq wc))
        case first =>
          have H := HC9.out
          clear HC9
          by_cases c12 : (t134.length : Int) = a5
          · rw [if_pos c12] at H
            have c12b0 : ((t134.length : Int) == a5) = true := beq_iff_eq.mpr c12
            have c12b1 : ((t134.length : Int) != a5) = false := bne_eq_false_iff_eq.mpr c12
            clear c12
            (first | rw [c12b0] | (simp only [i64_w, i32_w]; rw [c12b0]) | skip)
            have H' := Aside0.mk H
            clear H
            obtain ⟨Ao13, co13, eo13⟩ := Kd.R_slice HO136.out
            subst eo13
            obtain ⟨Ao14, co14, eo14⟩ := Kd.R_slice HO139.out
            subst eo14
            go_wp2
            repeat (go_quiet (fail); try go_wp2)
            go_meet
            case rel => exact ⟨_, (((t137.length : Int) != a5)), (by first | rfl | (simp; done) | (simp [*]; done)), H', ⟨by first | omega | exact Nat.le_refl _⟩, ⟨by (with_reducible repeat (first | apply Kd.R_alloc | apply Kd.R_drewN | apply Kd.R_drew)); exact Kd.R_mono HO136.out (fun _ hk => hk.2)⟩, ⟨by (with_reducible repeat (first | apply Kd.R_alloc | apply Kd.R_drewN | apply Kd.R_drew)); exact Kd.R_mono HO139.out (fun _ hk => hk.2)⟩, ⟨by repeat (first | (with_reducible first | exact HB.out | apply below_alloc | apply pw_below_drewN | apply below_drew1) | exact HB.out)⟩⟩
          · rw [if_neg c12] at H
            have c12b0 : ((t134.length : Int) == a5) = false := beq_eq_false_iff_ne.mpr c12
            have c12b1 : ((t134.length : Int) != a5) = true := bne_iff_ne.mpr c12
            (first | rw [c12b0] | (simp only [i64_w, i32_w]; rw [c12b0]) | skip)
            have H' := Aside0.mk H
            clear H
            obtain ⟨Ao15, co15, eo15⟩ := Kd.R_slice HO136.out
            subst eo15
            go_wp2
            repeat (go_quiet (fail); try go_wp2)
            go_meet
            case rel => exact ⟨_, (true), (by first | rfl | (simp; done) | (simp [*]; done)), H', ⟨by first | omega | exact Nat.le_refl _⟩, ⟨by (with_reducible repeat (first | apply Kd.R_alloc | apply Kd.R_drewN | apply Kd.R_drew)); exact Kd.R_mono HO136.out (fun _ hk => hk.2)⟩, ⟨by (with_reducible repeat (first | apply Kd.R_alloc | apply Kd.R_drewN | apply Kd.R_drew)); exact Kd.R_mono HO139.out (fun _ hk => hk.2)⟩, ⟨by repeat (first | (with_reducible first | exact HB.out | apply below_alloc | apply pw_below_drewN | apply below_drew1) | exact HB.out)⟩⟩
        case rest =>
          clear HC9
          try clear c1
          try clear p2
          try clear c3
          try clear c4
          try clear c6
          try clear c12
          try clear c12b0
          try clear c12b1
          obtain ⟨kq, x53_8, rfl, HA, HJ8, HO_7, HO_8, HB⟩ := hcut
          cases kq with
          | zero => exact absurd HA.out (by simp [stencillaw13_XsortTurnsZ.j0])
          | succ kj8 =>
            have H := HA.out
            clear HA
            simp only [stencillaw13_XsortTurnsZ.j0] at H
            by_cases c16 : x53_8 = true
            · subst c16
              have H1 : (some false) = some r := by rw [if_pos rfl] at H; exact H
              clear H
              have H := H1
              clear H1
              obtain rfl := Option.some.inj H
              go_wp2
              repeat (go_quiet (fail); try go_wp2)
              go_ret
              exact ⟨by first | rfl | (simp [errW_none, errW_some] <;> rfl) | (simp [*, errW_none, errW_some] <;> rfl), HW0.out.trans (Below.mono (by repeat (first | (with_reducible first | exact HB.out | apply below_alloc | apply pw_below_drewN | apply below_drew1) | exact HB.out)) HW0.out.size)⟩
            · replace c16 := Bool.eq_false_iff.mpr c16
              subst c16
              have H1 : (stencillaw13_XsortTurnsZ.l0 kj8 l3 l4 a5 t134 t137 0) = some r := by rw [if_neg (show ¬ (false = true) by decide)] at H; exact H
              clear H
              have H := H1
              clear H1
              have H' := Aside0.mk H
              clear H
              go_wp2
              repeat (go_quiet (fail); try go_wp2)
              go_loopg [9] kj8 (fun kq v9 w' => ∃ (x9_2 : Int), v9 = .int .i64 x9_2 ∧ Aside0 (stencillaw13_XsortTurnsZ.l0 kq l3 l4 a5 t134 t137 x9_2 = some r) ∧ Aside0 (kq ≤ kj8) ∧ Aside0 (Kd.R (Kd.int .i64) 3 w' wq.heap.size (fun k_ => some k_ ≠ (v138 : Value).ownBlock) v135 t134) ∧ Aside0 (Kd.R (Kd.int .i64) 3 w' wq.heap.size (fun k_ => some k_ ≠ (v135 : Value).ownBlock) v138 t137) ∧ Aside0 (Below wq.heap.size wq w'))
              case atStart => exact ⟨(0), (by first | rfl | (simp; done) | (simp [*]; done)), H', ⟨Nat.le_refl _⟩, ⟨by (with_reducible repeat (first | apply Kd.R_alloc | apply Kd.R_drewN | apply Kd.R_drew)); exact HO_7.out⟩, ⟨by (with_reducible repeat (first | apply Kd.R_alloc | apply Kd.R_drewN | apply Kd.R_drew)); exact HO_8.out⟩, ⟨by repeat (first | (with_reducible first | exact HB.out | apply below_alloc | apply pw_below_drewN | apply below_drew1) | exact HB.out)⟩⟩
              case round =>
                clear H'
                try clear c1
                try clear p2
                try clear c3
                try clear c4
                try clear c6
                try clear c12
                try clear c12b0
                try clear c12b1
                try clear c16
                try clear p2
                obtain ⟨x9_2, rfl, HA, HK2, HO_7, HO_8, HB⟩ := hrel
                cases gk with
                | zero => exact absurd HA.out (by simp [stencillaw13_XsortTurnsZ.l0])
                | succ k2 =>
                  have H := HA.out
                  clear HA
                  simp only [stencillaw13_XsortTurnsZ.l0] at H
                  by_cases c17 : x9_2 < a5
                  · rw [if_pos c17] at H
                    have c17b0 : decide (x9_2 < a5) = true := decide_eq_true c17
                    clear c17
                    by_cases c18 : 0 ≤ x9_2
                    · rw [if_pos c18] at H
                      have c18b0 : decide (0 ≤ x9_2) = true := decide_eq_true c18
                      clear c18
                      by_cases c19 : x9_2 < (t134.length : Int)
                      · rw [if_pos c19] at H
                        have c19b0 : decide (x9_2 < (t134.length : Int)) = true := decide_eq_true c19
                        clear c19
                        by_cases c20 : 0 ≤ (rd t134 x9_2)
                        · rw [if_pos c20] at H
                          have c20b0 : decide (0 ≤ (rd t134 x9_2)) = true := decide_eq_true c20
                          clear c20
                          by_cases c21 : (rd t134 x9_2) < (l3.length : Int)
                          · rw [if_pos c21] at H
                            have c21b0 : decide ((rd t134 x9_2) < (l3.length : Int)) = true := decide_eq_true c21
                            clear c21
                            by_cases c22 : 0 < ((rd_L5 l3 (rd t134 x9_2)).length : Int)
                            · rw [if_pos c22] at H
                              have c22b0 : decide (0 < ((rd_L5 l3 (rd t134 x9_2)).length : Int)) = true := decide_eq_true c22
                              have c22b1 : decide (0 < (rd_L5 l3 (rd t134 x9_2)).length) = true := decide_eq_true (by omega)
                              clear c22
                              by_cases c23 : x9_2 < (t137.length : Int)
                              · rw [if_pos c23] at H
                                have c23b0 : decide (x9_2 < (t137.length : Int)) = true := decide_eq_true c23
                                clear c23
                                by_cases c24 : 0 ≤ (rd t137 x9_2)
                                · rw [if_pos c24] at H
                                  have c24b0 : decide (0 ≤ (rd t137 x9_2)) = true := decide_eq_true c24
                                  clear c24
                                  by_cases c25 : (rd t137 x9_2) < (l4.length : Int)
                                  · rw [if_pos c25] at H
                                    have c25b0 : decide ((rd t137 x9_2) < (l4.length : Int)) = true := decide_eq_true c25
                                    clear c25
                                    by_cases c26 : 0 < ((rd_L5 l4 (rd t137 x9_2)).length : Int)
                                    · rw [if_pos c26] at H
                                      have c26b0 : decide (0 < ((rd_L5 l4 (rd t137 x9_2)).length : Int)) = true := decide_eq_true c26
                                      have c26b1 : decide (0 < (rd_L5 l4 (rd t137 x9_2)).length) = true := decide_eq_true (by omega)
                                      clear c26
                                      by_cases c27 : ((rd_T41 (rd_L5 l3 (rd t134 x9_2)) 0).f2).toList = ((rd_T41 (rd_L5 l4 (rd t137 x9_2)) 0).f2).toList
                                      · rw [if_pos c27] at H
                                        have c27b0 : (((rd_T41 (rd_L5 l3 (rd t134 x9_2)) 0).f2).toList == ((rd_T41 (rd_L5 l4 (rd t137 x9_2)) 0).f2).toList) = true := beq_iff_eq.mpr c27
                                        have c27b1 : (((rd_T41 (rd_L5 l3 (rd t134 x9_2)) 0).f2).toList != ((rd_T41 (rd_L5 l4 (rd t137 x9_2)) 0).f2).toList) = false := bne_eq_false_iff_eq.mpr c27
                                        clear c27
                                        by_cases c28 : x9_2 > 0
                                        · rw [if_pos c28] at H
                                          have c28b0 : decide (0 < x9_2) = true := decide_eq_true c28
                                          clear c28
                                          obtain ⟨ji29, hji29⟩ : ∃ j_ : Int, (wrap64 (x9_2 - 1)) = j_ := ⟨_, rfl⟩
                                          replace H : (if 0 ≤ (ji29) then (if (ji29) < (t134.length : Int) then (if 0 ≤ (rd t134 (ji29)) then (if (rd t134 (ji29)) < (l3.length : Int) then (if 0 < ((rd_L5 l3 (rd t134 (ji29))).length : Int) then (if (Op.bytesLess (((rd_T41 (rd_L5 l3 (rd t134 x9_2)) 0).f2).toList) (((rd_T41 (rd_L5 l3 (rd t134 (ji29))) 0).f2).toList)) = true then (some false) else (stencillaw13_XsortTurnsZ.l0 k2 l3 l4 a5 t134 t137 (wrap64 (x9_2 + 1)))) else (none)) else (none)) else (none)) else (none)) else (none)) = some r := by first | (rw [hji29] at H; exact H) | (simp only [hji29] at H ⊢; exact H)
                                          have hji29w : (IntKind.i64.wrap (x9_2 - 1)) = ji29 := (i64_w _).trans hji29
                                          by_cases c30 : 0 ≤ (ji29)
                                          · rw [if_pos c30] at H
                                            have c30b0 : decide (0 ≤ (ji29)) = true := decide_eq_true c30
                                            clear c30
                                            by_cases c31 : (ji29) < (t134.length : Int)
                                            · rw [if_pos c31] at H
                                              have c31b0 : decide ((ji29) < (t134.length : Int)) = true := decide_eq_true c31
                                              clear c31
                                              by_cases c32 : 0 ≤ (rd t134 (ji29))
                                              · rw [if_pos c32] at H
                                                have c32b0 : decide (0 ≤ (rd t134 (ji29))) = true := decide_eq_true c32
                                                clear c32
                                                by_cases c33 : (rd t134 (ji29)) < (l3.length : Int)
                                                · rw [if_pos c33] at H
                                                  have c33b0 : decide ((rd t134 (ji29)) < (l3.length : Int)) = true := decide_eq_true c33
                                                  clear c33
                                                  by_cases c34 : 0 < ((rd_L5 l3 (rd t134 (ji29))).length : Int)
                                                  · rw [if_pos c34] at H
                                                    have c34b0 : decide (0 < ((rd_L5 l3 (rd t134 (ji29))).length : Int)) = true := decide_eq_true c34
                                                    have c34b1 : decide (0 < (rd_L5 l3 (rd t134 (ji29))).length) = true := decide_eq_true (by omega)
                                                    clear c34
                                                    by_cases c35 : (Op.bytesLess (((rd_T41 (rd_L5 l3 (rd t134 x9_2)) 0).f2).toList) (((rd_T41 (rd_L5 l3 (rd t134 (ji29))) 0).f2).toList)) = true
                                                    · rw [if_pos c35] at H
                                                      have c35b0 : (Op.bytesLess (((rd_T41 (rd_L5 l3 (rd t134 x9_2)) 0).f2).toList) (((rd_T41 (rd_L5 l3 (rd t134 (ji29))) 0).f2).toList)) = true := c35
                                                      clear c35
                                                      have c35x : Op.bytesLess (((rd_T41 (rd_L5 l3 (rd t134 (ji29))) 0).f2).toList) (((rd_T41 (rd_L5 l3 (rd t134 x9_2)) 0).f2).toList) = false := tb_asy _ _ c35b0
                                                      have c35y : ((((rd_T41 (rd_L5 l3 (rd t134 (ji29))) 0).f2).toList) == (((rd_T41 (rd_L5 l3 (rd t134 x9_2)) 0).f2).toList)) = false := beq_eq_false_iff_ne.mpr (fun e => by rw [e, tb_irr] at c35b0; cases c35b0)
                                                      obtain rfl := Option.some.inj H
                                                      obtain ⟨Ao36, co36, eo36⟩ := Kd.R_slice HO_7.out
                                                      subst eo36
                                                      have p140 : 0 ≤ (x9_2 : Int) := of_decide_eq_true (by first | (with_reducible assumption) | assumption)
                                                      have q140 : x9_2 < (t134.length : Int) := of_decide_eq_true (by first | (with_reducible assumption) | assumption)
                                                      obtain ⟨ad140, e140, hx140_0⟩ := Kd.at_int (Kd.R_reads' HO_7.out).2.2 x9_2 p140 q140
                                                      cases e140
                                                      replace p140 := eq_true p140
                                                      replace q140 := eq_true q140
                                                      have p141 : 0 ≤ ((rd t134 x9_2) : Int) := of_decide_eq_true (by first | (with_reducible assumption) | assumption)
                                                      have q141 : (rd t134 x9_2) < (l3.length : Int) := of_decide_eq_true (by first | (with_reducible assumption) | assumption)
                                                      obtain ⟨ad141, A141_0, c141_0, e141, hx141_0, hl141_0, hi141_0⟩ := at_L5 HR3.out (rd t134 x9_2) p141 q141
                                                      cases e141
                                                      replace hx141_0 := (HB.out.cell (World.block_lt_of_cell? wq _ hx141_0)).trans hx141_0
                                                      have HR141_0 := Aside0.mk hi141_0
                                                      have HC141_0 := Aside0.mk hl141_0
                                                      clear hi141_0 hl141_0
                                                      replace p141 := eq_true p141
                                                      replace q141 := eq_true q141
                                                      have p142 : 0 ≤ (0 : Int) := (by omega)
                                                      have q142 : 0 < ((rd_L5 l3 (rd t134 x9_2)).length : Int) := of_decide_eq_true (by first | (with_reducible assumption) | assumption)
                                                      obtain ⟨ad142, e142, hx142_0, hx142_1, hx142_2, hx142_3, hx142_4⟩ := at_T41 HR141_0.out 0 p142 q142
                                                      cases e142
                                                      have qi142 : (0 < (rd_L5 l3 (rd t134 x9_2)).length) = True := eq_true (by omega)
                                                      (try rw [show ((0 : Int)).toNat = 0 from rfl] at hx142_0)
                                                      (try rw [show 0 * 5 = 0 from rfl] at hx142_0)
                                                      (try rw [Addr.add_zero'] at hx142_0)
                                                      (try rw [show ((0 : Int)).toNat = 0 from rfl] at hx142_1)
                                                      (try rw [show 0 * 5 = 0 from rfl] at hx142_1)
                                                      (try rw [Addr.add_zero'] at hx142_1)
                                                      (try rw [show ((0 : Int)).toNat = 0 from rfl] at hx142_2)
                                                      (try rw [show 0 * 5 = 0 from rfl] at hx142_2)
                                                      (try rw [Addr.add_zero'] at hx142_2)
                                                      (try rw [show ((0 : Int)).toNat = 0 from rfl] at hx142_3)
                                                      (try rw [show 0 * 5 = 0 from rfl] at hx142_3)
                                                      (try rw [Addr.add_zero'] at hx142_3)
                                                      (try rw [show ((0 : Int)).toNat = 0 from rfl] at hx142_4)
                                                      (try rw [show 0 * 5 = 0 from rfl] at hx142_4)
                                                      (try rw [Addr.add_zero'] at hx142_4)
                                                      replace hx142_0 := (HB.out.cell (World.block_lt_of_cell? wq _ hx142_0)).trans hx142_0
                                                      replace hx142_1 := (HB.out.cell (World.block_lt_of_cell? wq _ hx142_1)).trans hx142_1
                                                      replace hx142_2 := (HB.out.cell (World.block_lt_of_cell? wq _ hx142_2)).trans hx142_2
                                                      replace hx142_3 := (HB.out.cell (World.block_lt_of_cell? wq _ hx142_3)).trans hx142_3
                                                      replace hx142_4 := (HB.out.cell (World.block_lt_of_cell? wq _ hx142_4)).trans hx142_4
                                                      replace p142 := eq_true p142
                                                      replace q142 := eq_true q142
                                                      obtain ⟨Ao37, co37, eo37⟩ := Kd.R_slice HO_8.out
                                                      subst eo37
                                                      have p143 : 0 ≤ (x9_2 : Int) := of_decide_eq_true (by first | (with_reducible assumption) | assumption)
                                                      have q143 : x9_2 < (t137.length : Int) := of_decide_eq_true (by first | (with_reducible assumption) | assumption)
                                                      obtain ⟨ad143, e143, hx143_0⟩ := Kd.at_int (Kd.R_reads' HO_8.out).2.2 x9_2 p143 q143
                                                      cases e143
                                                      replace p143 := eq_true p143
                                                      replace q143 := eq_true q143
                                                      have p144 : 0 ≤ ((rd t137 x9_2) : Int) := of_decide_eq_true (by first | (with_reducible assumption) | assumption)
                                                      have q144 : (rd t137 x9_2) < (l4.length : Int) := of_decide_eq_true (by first | (with_reducible assumption) | assumption)
                                                      obtain ⟨ad144, A144_0, c144_0, e144, hx144_0, hl144_0, hi144_0⟩ := at_L5 HR4.out (rd t137 x9_2) p144 q144
                                                      cases e144
                                                      replace hx144_0 := (HB.out.cell (World.block_lt_of_cell? wq _ hx144_0)).trans hx144_0
                                                      have HR144_0 := Aside0.mk hi144_0
                                                      have HC144_0 := Aside0.mk hl144_0
                                                      clear hi144_0 hl144_0
                                                      replace p144 := eq_true p144
                                                      replace q144 := eq_true q144
                                                      have p145 : 0 ≤ (0 : Int) := (by omega)
                                                      have q145 : 0 < ((rd_L5 l4 (rd t137 x9_2)).length : Int) := of_decide_eq_true (by first | (with_reducible assumption) | assumption)
                                                      obtain ⟨ad145, e145, hx145_0, hx145_1, hx145_2, hx145_3, hx145_4⟩ := at_T41 HR144_0.out 0 p145 q145
                                                      cases e145
                                                      have qi145 : (0 < (rd_L5 l4 (rd t137 x9_2)).length) = True := eq_true (by omega)
                                                      (try rw [show ((0 : Int)).toNat = 0 from rfl] at hx145_0)
                                                      (try rw [show 0 * 5 = 0 from rfl] at hx145_0)
                                                      (try rw [Addr.add_zero'] at hx145_0)
                                                      (try rw [show ((0 : Int)).toNat = 0 from rfl] at hx145_1)
                                                      (try rw [show 0 * 5 = 0 from rfl] at hx145_1)
                                                      (try rw [Addr.add_zero'] at hx145_1)
                                                      (try rw [show ((0 : Int)).toNat = 0 from rfl] at hx145_2)
                                                      (try rw [show 0 * 5 = 0 from rfl] at hx145_2)
                                                      (try rw [Addr.add_zero'] at hx145_2)
                                                      (try rw [show ((0 : Int)).toNat = 0 from rfl] at hx145_3)
                                                      (try rw [show 0 * 5 = 0 from rfl] at hx145_3)
                                                      (try rw [Addr.add_zero'] at hx145_3)
                                                      (try rw [show ((0 : Int)).toNat = 0 from rfl] at hx145_4)
                                                      (try rw [show 0 * 5 = 0 from rfl] at hx145_4)
                                                      (try rw [Addr.add_zero'] at hx145_4)
                                                      replace hx145_0 := (HB.out.cell (World.block_lt_of_cell? wq _ hx145_0)).trans hx145_0
                                                      replace hx145_1 := (HB.out.cell (World.block_lt_of_cell? wq _ hx145_1)).trans hx145_1
                                                      replace hx145_2 := (HB.out.cell (World.block_lt_of_cell? wq _ hx145_2)).trans hx145_2
                                                      replace hx145_3 := (HB.out.cell (World.block_lt_of_cell? wq _ hx145_3)).trans hx145_3
                                                      replace hx145_4 := (HB.out.cell (World.block_lt_of_cell? wq _ hx145_4)).trans hx145_4
                                                      replace p145 := eq_true p145
                                                      replace q145 := eq_true q145
                                                      have p146 : 0 ≤ ((ji29) : Int) := of_decide_eq_true (by first | (with_reducible assumption) | assumption)
                                                      have q146 : (ji29) < (t134.length : Int) := of_decide_eq_true (by first | (with_reducible assumption) | assumption)
                                                      obtain ⟨ad146, e146, hx146_0⟩ := Kd.at_int (Kd.R_reads' HO_7.out).2.2 (ji29) p146 q146
                                                      obtain rfl : ad140 = ad146 := (by injection e146)
                                                      replace p146 := eq_true p146
                                                      replace q146 := eq_true q146
                                                      have p147 : 0 ≤ ((rd t134 (ji29)) : Int) := of_decide_eq_true (by first | (with_reducible assumption) | assumption)
                                                      have q147 : (rd t134 (ji29)) < (l3.length : Int) := of_decide_eq_true (by first | (with_reducible assumption) | assumption)
                                                      obtain ⟨ad147, A147_0, c147_0, e147, hx147_0, hl147_0, hi147_0⟩ := at_L5 HR3.out (rd t134 (ji29)) p147 q147
                                                      obtain rfl : ad141 = ad147 := (by injection e147)
                                                      replace hx147_0 := (HB.out.cell (World.block_lt_of_cell? wq _ hx147_0)).trans hx147_0
                                                      have HR147_0 := Aside0.mk hi147_0
                                                      have HC147_0 := Aside0.mk hl147_0
                                                      clear hi147_0 hl147_0
                                                      replace p147 := eq_true p147
                                                      replace q147 := eq_true q147
                                                      have p148 : 0 ≤ (0 : Int) := (by omega)
                                                      have q148 : 0 < ((rd_L5 l3 (rd t134 (ji29))).length : Int) := of_decide_eq_true (by first | (with_reducible assumption) | assumption)
                                                      obtain ⟨ad148, e148, hx148_0, hx148_1, hx148_2, hx148_3, hx148_4⟩ := at_T41 HR147_0.out 0 p148 q148
                                                      cases e148
                                                      have qi148 : (0 < (rd_L5 l3 (rd t134 (ji29))).length) = True := eq_true (by omega)
                                                      (try rw [show ((0 : Int)).toNat = 0 from rfl] at hx148_0)
                                                      (try rw [show 0 * 5 = 0 from rfl] at hx148_0)
                                                      (try rw [Addr.add_zero'] at hx148_0)
                                                      (try rw [show ((0 : Int)).toNat = 0 from rfl] at hx148_1)
                                                      (try rw [show 0 * 5 = 0 from rfl] at hx148_1)
                                                      (try rw [Addr.add_zero'] at hx148_1)
                                                      (try rw [show ((0 : Int)).toNat = 0 from rfl] at hx148_2)
                                                      (try rw [show 0 * 5 = 0 from rfl] at hx148_2)
                                                      (try rw [Addr.add_zero'] at hx148_2)
                                                      (try rw [show ((0 : Int)).toNat = 0 from rfl] at hx148_3)
                                                      (try rw [show 0 * 5 = 0 from rfl] at hx148_3)
                                                      (try rw [Addr.add_zero'] at hx148_3)
                                                      (try rw [show ((0 : Int)).toNat = 0 from rfl] at hx148_4)
                                                      (try rw [show 0 * 5 = 0 from rfl] at hx148_4)
                                                      (try rw [Addr.add_zero'] at hx148_4)
                                                      replace hx148_0 := (HB.out.cell (World.block_lt_of_cell? wq _ hx148_0)).trans hx148_0
                                                      replace hx148_1 := (HB.out.cell (World.block_lt_of_cell? wq _ hx148_1)).trans hx148_1
                                                      replace hx148_2 := (HB.out.cell (World.block_lt_of_cell? wq _ hx148_2)).trans hx148_2
                                                      replace hx148_3 := (HB.out.cell (World.block_lt_of_cell? wq _ hx148_3)).trans hx148_3
                                                      replace hx148_4 := (HB.out.cell (World.block_lt_of_cell? wq _ hx148_4)).trans hx148_4
                                                      replace p148 := eq_true p148
                                                      replace q148 := eq_true q148
                                                      have p149 : 0 ≤ (x9_2 : Int) := of_decide_eq_true (by first | (with_reducible assumption) | assumption)
                                                      have q149 : x9_2 < (t134.length : Int) := of_decide_eq_true (by first | (with_reducible assumption) | assumption)
                                                      obtain ⟨ad149, e149, hx149_0⟩ := Kd.at_int (Kd.R_reads' HO_7.out).2.2 x9_2 p149 q149
                                                      obtain rfl : ad140 = ad149 := (by injection e149)
                                                      replace p149 := eq_true p149
                                                      replace q149 := eq_true q149
                                                      have p150 : 0 ≤ ((rd t134 x9_2) : Int) := of_decide_eq_true (by first | (with_reducible assumption) | assumption)
                                                      have q150 : (rd t134 x9_2) < (l3.length : Int) := of_decide_eq_true (by first | (with_reducible assumption) | assumption)
                                                      obtain ⟨ad150, A150_0, c150_0, e150, hx150_0, hl150_0, hi150_0⟩ := at_L5 HR3.out (rd t134 x9_2) p150 q150
                                                      obtain rfl : ad141 = ad150 := (by injection e150)
                                                      replace hx150_0 := (HB.out.cell (World.block_lt_of_cell? wq _ hx150_0)).trans hx150_0
                                                      have HR150_0 := Aside0.mk hi150_0
                                                      have HC150_0 := Aside0.mk hl150_0
                                                      clear hi150_0 hl150_0
                                                      replace p150 := eq_true p150
                                                      replace q150 := eq_true q150
                                                      have ea_ := Option.some.inj (hx141_0.symm.trans hx150_0)
                                                      injection ea_ with ea_ en_ ec_
                                                      subst ea_
                                                      subst ec_
                                                      clear en_
                                                      have p151 : 0 ≤ (0 : Int) := (by omega)
                                                      have q151 : 0 < ((rd_L5 l3 (rd t134 x9_2)).length : Int) := of_decide_eq_true (by first | (with_reducible assumption) | assumption)
                                                      obtain ⟨ad151, e151, hx151_0, hx151_1, hx151_2, hx151_3, hx151_4⟩ := at_T41 HR150_0.out 0 p151 q151
                                                      cases e151
                                                      have qi151 : (0 < (rd_L5 l3 (rd t134 x9_2)).length) = True := eq_true (by omega)
                                                      (try rw [show ((0 : Int)).toNat = 0 from rfl] at hx151_0)
                                                      (try rw [show 0 * 5 = 0 from rfl] at hx151_0)
                                                      (try rw [Addr.add_zero'] at hx151_0)
                                                      (try rw [show ((0 : Int)).toNat = 0 from rfl] at hx151_1)
                                                      (try rw [show 0 * 5 = 0 from rfl] at hx151_1)
                                                      (try rw [Addr.add_zero'] at hx151_1)
                                                      (try rw [show ((0 : Int)).toNat = 0 from rfl] at hx151_2)
                                                      (try rw [show 0 * 5 = 0 from rfl] at hx151_2)
                                                      (try rw [Addr.add_zero'] at hx151_2)
                                                      (try rw [show ((0 : Int)).toNat = 0 from rfl] at hx151_3)
                                                      (try rw [show 0 * 5 = 0 from rfl] at hx151_3)
                                                      (try rw [Addr.add_zero'] at hx151_3)
                                                      (try rw [show ((0 : Int)).toNat = 0 from rfl] at hx151_4)
                                                      (try rw [show 0 * 5 = 0 from rfl] at hx151_4)
                                                      (try rw [Addr.add_zero'] at hx151_4)
                                                      replace hx151_0 := (HB.out.cell (World.block_lt_of_cell? wq _ hx151_0)).trans hx151_0
                                                      replace hx151_1 := (HB.out.cell (World.block_lt_of_cell? wq _ hx151_1)).trans hx151_1
                                                      replace hx151_2 := (HB.out.cell (World.block_lt_of_cell? wq _ hx151_2)).trans hx151_2
                                                      replace hx151_3 := (HB.out.cell (World.block_lt_of_cell? wq _ hx151_3)).trans hx151_3
                                                      replace hx151_4 := (HB.out.cell (World.block_lt_of_cell? wq _ hx151_4)).trans hx151_4
                                                      replace p151 := eq_true p151
                                                      replace q151 := eq_true q151
                                                      go_wp2
                                                      repeat (go_quiet (fail); try go_wp2)
                                                      go_ret
                                                      exact ⟨by first | rfl | (simp [errW_none, errW_some] <;> rfl) | (simp only [← hji29]; first | rfl | (simp [errW_none, errW_some] <;> rfl)) | (simp [*, errW_none, errW_some] <;> rfl), HW0.out.trans (Below.mono (by repeat (first | (with_reducible first | exact HB.out | apply below_alloc | apply pw_below_drewN | apply below_drew1) | exact HB.out)) HW0.out.size)⟩
                                                    · rw [if_neg c35] at H
                                                      have c35b0 : (Op.bytesLess (((rd_T41 (rd_L5 l3 (rd t134 x9_2)) 0).f2).toList) (((rd_T41 (rd_L5 l3 (rd t134 (ji29))) 0).f2).toList)) = false := by simpa using c35
                                                      clear c35
                                                      by_cases c35x : Op.bytesLess (((rd_T41 (rd_L5 l3 (rd t134 (ji29))) 0).f2).toList) (((rd_T41 (rd_L5 l3 (rd t134 x9_2)) 0).f2).toList) = true
                                                      · have c35z := c35x
                                                        have H' := Aside0.mk H
                                                        clear H
                                                        obtain ⟨Ao38, co38, eo38⟩ := Kd.R_slice HO_7.out
                                                        subst eo38
                                                        have p140 : 0 ≤ (x9_2 : Int) := of_decide_eq_true (by first | (with_reducible assumption) | assumption)
                                                        have q140 : x9_2 < (t134.length : Int) := of_decide_eq_true (by first | (with_reducible assumption) | assumption)
                                                        obtain ⟨ad140, e140, hx140_0⟩ := Kd.at_int (Kd.R_reads' HO_7.out).2.2 x9_2 p140 q140
                                                        cases e140
                                                        replace p140 := eq_true p140
                                                        replace q140 := eq_true q140
                                                        have p141 : 0 ≤ ((rd t134 x9_2) : Int) := of_decide_eq_true (by first | (with_reducible assumption) | assumption)
                                                        have q141 : (rd t134 x9_2) < (l3.length : Int) := of_decide_eq_true (by first | (with_reducible assumption) | assumption)
                                                        obtain ⟨ad141, A141_0, c141_0, e141, hx141_0, hl141_0, hi141_0⟩ := at_L5 HR3.out (rd t134 x9_2) p141 q141
                                                        cases e141
                                                        replace hx141_0 := (HB.out.cell (World.block_lt_of_cell? wq _ hx141_0)).trans hx141_0
                                                        have HR141_0 := Aside0.mk hi141_0
                                                        have HC141_0 := Aside0.mk hl141_0
                                                        clear hi141_0 hl141_0
                                                        replace p141 := eq_true p141
                                                        replace q141 := eq_true q141
                                                        have p142 : 0 ≤ (0 : Int) := (by omega)
                                                        have q142 : 0 < ((rd_L5 l3 (rd t134 x9_2)).length : Int) := of_decide_eq_true (by first | (with_reducible assumption) | assumption)
                                                        obtain ⟨ad142, e142, hx142_0, hx142_1, hx142_2, hx142_3, hx142_4⟩ := at_T41 HR141_0.out 0 p142 q142
                                                        cases e142
                                                        have qi142 : (0 < (rd_L5 l3 (rd t134 x9_2)).length) = True := eq_true (by omega)
                                                        (try rw [show ((0 : Int)).toNat = 0 from rfl] at hx142_0)
                                                        (try rw [show 0 * 5 = 0 from rfl] at hx142_0)
                                                        (try rw [Addr.add_zero'] at hx142_0)
                                                        (try rw [show ((0 : Int)).toNat = 0 from rfl] at hx142_1)
                                                        (try rw [show 0 * 5 = 0 from rfl] at hx142_1)
                                                        (try rw [Addr.add_zero'] at hx142_1)
                                                        (try rw [show ((0 : Int)).toNat = 0 from rfl] at hx142_2)
                                                        (try rw [show 0 * 5 = 0 from rfl] at hx142_2)
                                                        (try rw [Addr.add_zero'] at hx142_2)
                                                        (try rw [show ((0 : Int)).toNat = 0 from rfl] at hx142_3)
                                                        (try rw [show 0 * 5 = 0 from rfl] at hx142_3)
                                                        (try rw [Addr.add_zero'] at hx142_3)
                                                        (try rw [show ((0 : Int)).toNat = 0 from rfl] at hx142_4)
                                                        (try rw [show 0 * 5 = 0 from rfl] at hx142_4)
                                                        (try rw [Addr.add_zero'] at hx142_4)
                                                        replace hx142_0 := (HB.out.cell (World.block_lt_of_cell? wq _ hx142_0)).trans hx142_0
                                                        replace hx142_1 := (HB.out.cell (World.block_lt_of_cell? wq _ hx142_1)).trans hx142_1
                                                        replace hx142_2 := (HB.out.cell (World.block_lt_of_cell? wq _ hx142_2)).trans hx142_2
                                                        replace hx142_3 := (HB.out.cell (World.block_lt_of_cell? wq _ hx142_3)).trans hx142_3
                                                        replace hx142_4 := (HB.out.cell (World.block_lt_of_cell? wq _ hx142_4)).trans hx142_4
                                                        replace p142 := eq_true p142
                                                        replace q142 := eq_true q142
                                                        obtain ⟨Ao39, co39, eo39⟩ := Kd.R_slice HO_8.out
                                                        subst eo39
                                                        have p143 : 0 ≤ (x9_2 : Int) := of_decide_eq_true (by first | (with_reducible assumption) | assumption)
                                                        have q143 : x9_2 < (t137.length : Int) := of_decide_eq_true (by first | (with_reducible assumption) | assumption)
                                                        obtain ⟨ad143, e143, hx143_0⟩ := Kd.at_int (Kd.R_reads' HO_8.out).2.2 x9_2 p143 q143
                                                        cases e143
                                                        replace p143 := eq_true p143
                                                        replace q143 := eq_true q143
                                                        have p144 : 0 ≤ ((rd t137 x9_2) : Int) := of_decide_eq_true (by first | (with_reducible assumption) | assumption)
                                                        have q144 : (rd t137 x9_2) < (l4.length : Int) := of_decide_eq_true (by first | (with_reducible assumption) | assumption)
                                                        obtain ⟨ad144, A144_0, c144_0, e144, hx144_0, hl144_0, hi144_0⟩ := at_L5 HR4.out (rd t137 x9_2) p144 q144
                                                        cases e144
                                                        replace hx144_0 := (HB.out.cell (World.block_lt_of_cell? wq _ hx144_0)).trans hx144_0
                                                        have HR144_0 := Aside0.mk hi144_0
                                                        have HC144_0 := Aside0.mk hl144_0
                                                        clear hi144_0 hl144_0
                                                        replace p144 := eq_true p144
                                                        replace q144 := eq_true q144
                                                        have p145 : 0 ≤ (0 : Int) := (by omega)
                                                        have q145 : 0 < ((rd_L5 l4 (rd t137 x9_2)).length : Int) := of_decide_eq_true (by first | (with_reducible assumption) | assumption)
                                                        obtain ⟨ad145, e145, hx145_0, hx145_1, hx145_2, hx145_3, hx145_4⟩ := at_T41 HR144_0.out 0 p145 q145
                                                        cases e145
                                                        have qi145 : (0 < (rd_L5 l4 (rd t137 x9_2)).length) = True := eq_true (by omega)
                                                        (try rw [show ((0 : Int)).toNat = 0 from rfl] at hx145_0)
                                                        (try rw [show 0 * 5 = 0 from rfl] at hx145_0)
                                                        (try rw [Addr.add_zero'] at hx145_0)
                                                        (try rw [show ((0 : Int)).toNat = 0 from rfl] at hx145_1)
                                                        (try rw [show 0 * 5 = 0 from rfl] at hx145_1)
                                                        (try rw [Addr.add_zero'] at hx145_1)
                                                        (try rw [show ((0 : Int)).toNat = 0 from rfl] at hx145_2)
                                                        (try rw [show 0 * 5 = 0 from rfl] at hx145_2)
                                                        (try rw [Addr.add_zero'] at hx145_2)
                                                        (try rw [show ((0 : Int)).toNat = 0 from rfl] at hx145_3)
                                                        (try rw [show 0 * 5 = 0 from rfl] at hx145_3)
                                                        (try rw [Addr.add_zero'] at hx145_3)
                                                        (try rw [show ((0 : Int)).toNat = 0 from rfl] at hx145_4)
                                                        (try rw [show 0 * 5 = 0 from rfl] at hx145_4)
                                                        (try rw [Addr.add_zero'] at hx145_4)
                                                        replace hx145_0 := (HB.out.cell (World.block_lt_of_cell? wq _ hx145_0)).trans hx145_0
                                                        replace hx145_1 := (HB.out.cell (World.block_lt_of_cell? wq _ hx145_1)).trans hx145_1
                                                        replace hx145_2 := (HB.out.cell (World.block_lt_of_cell? wq _ hx145_2)).trans hx145_2
                                                        replace hx145_3 := (HB.out.cell (World.block_lt_of_cell? wq _ hx145_3)).trans hx145_3
                                                        replace hx145_4 := (HB.out.cell (World.block_lt_of_cell? wq _ hx145_4)).trans hx145_4
                                                        replace p145 := eq_true p145
                                                        replace q145 := eq_true q145
                                                        have p146 : 0 ≤ ((ji29) : Int) := of_decide_eq_true (by first | (with_reducible assumption) | assumption)
                                                        have q146 : (ji29) < (t134.length : Int) := of_decide_eq_true (by first | (with_reducible assumption) | assumption)
                                                        obtain ⟨ad146, e146, hx146_0⟩ := Kd.at_int (Kd.R_reads' HO_7.out).2.2 (ji29) p146 q146
                                                        obtain rfl : ad140 = ad146 := (by injection e146)
                                                        replace p146 := eq_true p146
                                                        replace q146 := eq_true q146
                                                        have p147 : 0 ≤ ((rd t134 (ji29)) : Int) := of_decide_eq_true (by first | (with_reducible assumption) | assumption)
                                                        have q147 : (rd t134 (ji29)) < (l3.length : Int) := of_decide_eq_true (by first | (with_reducible assumption) | assumption)
                                                        obtain ⟨ad147, A147_0, c147_0, e147, hx147_0, hl147_0, hi147_0⟩ := at_L5 HR3.out (rd t134 (ji29)) p147 q147
                                                        obtain rfl : ad141 = ad147 := (by injection e147)
                                                        replace hx147_0 := (HB.out.cell (World.block_lt_of_cell? wq _ hx147_0)).trans hx147_0
                                                        have HR147_0 := Aside0.mk hi147_0
                                                        have HC147_0 := Aside0.mk hl147_0
                                                        clear hi147_0 hl147_0
                                                        replace p147 := eq_true p147
                                                        replace q147 := eq_true q147
                                                        have p148 : 0 ≤ (0 : Int) := (by omega)
                                                        have q148 : 0 < ((rd_L5 l3 (rd t134 (ji29))).length : Int) := of_decide_eq_true (by first | (with_reducible assumption) | assumption)
                                                        obtain ⟨ad148, e148, hx148_0, hx148_1, hx148_2, hx148_3, hx148_4⟩ := at_T41 HR147_0.out 0 p148 q148
                                                        cases e148
                                                        have qi148 : (0 < (rd_L5 l3 (rd t134 (ji29))).length) = True := eq_true (by omega)
                                                        (try rw [show ((0 : Int)).toNat = 0 from rfl] at hx148_0)
                                                        (try rw [show 0 * 5 = 0 from rfl] at hx148_0)
                                                        (try rw [Addr.add_zero'] at hx148_0)
                                                        (try rw [show ((0 : Int)).toNat = 0 from rfl] at hx148_1)
                                                        (try rw [show 0 * 5 = 0 from rfl] at hx148_1)
                                                        (try rw [Addr.add_zero'] at hx148_1)
                                                        (try rw [show ((0 : Int)).toNat = 0 from rfl] at hx148_2)
                                                        (try rw [show 0 * 5 = 0 from rfl] at hx148_2)
                                                        (try rw [Addr.add_zero'] at hx148_2)
                                                        (try rw [show ((0 : Int)).toNat = 0 from rfl] at hx148_3)
                                                        (try rw [show 0 * 5 = 0 from rfl] at hx148_3)
                                                        (try rw [Addr.add_zero'] at hx148_3)
                                                        (try rw [show ((0 : Int)).toNat = 0 from rfl] at hx148_4)
                                                        (try rw [show 0 * 5 = 0 from rfl] at hx148_4)
                                                        (try rw [Addr.add_zero'] at hx148_4)
                                                        replace hx148_0 := (HB.out.cell (World.block_lt_of_cell? wq _ hx148_0)).trans hx148_0
                                                        replace hx148_1 := (HB.out.cell (World.block_lt_of_cell? wq _ hx148_1)).trans hx148_1
                                                        replace hx148_2 := (HB.out.cell (World.block_lt_of_cell? wq _ hx148_2)).trans hx148_2
                                                        replace hx148_3 := (HB.out.cell (World.block_lt_of_cell? wq _ hx148_3)).trans hx148_3
                                                        replace hx148_4 := (HB.out.cell (World.block_lt_of_cell? wq _ hx148_4)).trans hx148_4
                                                        replace p148 := eq_true p148
                                                        replace q148 := eq_true q148
                                                        have p149 : 0 ≤ (x9_2 : Int) := of_decide_eq_true (by first | (with_reducible assumption) | assumption)
                                                        have q149 : x9_2 < (t134.length : Int) := of_decide_eq_true (by first | (with_reducible assumption) | assumption)
                                                        obtain ⟨ad149, e149, hx149_0⟩ := Kd.at_int (Kd.R_reads' HO_7.out).2.2 x9_2 p149 q149
                                                        obtain rfl : ad140 = ad149 := (by injection e149)
                                                        replace p149 := eq_true p149
                                                        replace q149 := eq_true q149
                                                        have p150 : 0 ≤ ((rd t134 x9_2) : Int) := of_decide_eq_true (by first | (with_reducible assumption) | assumption)
                                                        have q150 : (rd t134 x9_2) < (l3.length : Int) := of_decide_eq_true (by first | (with_reducible assumption) | assumption)
                                                        obtain ⟨ad150, A150_0, c150_0, e150, hx150_0, hl150_0, hi150_0⟩ := at_L5 HR3.out (rd t134 x9_2) p150 q150
                                                        obtain rfl : ad141 = ad150 := (by injection e150)
                                                        replace hx150_0 := (HB.out.cell (World.block_lt_of_cell? wq _ hx150_0)).trans hx150_0
                                                        have HR150_0 := Aside0.mk hi150_0
                                                        have HC150_0 := Aside0.mk hl150_0
                                                        clear hi150_0 hl150_0
                                                        replace p150 := eq_true p150
                                                        replace q150 := eq_true q150
                                                        have ea_ := Option.some.inj (hx141_0.symm.trans hx150_0)
                                                        injection ea_ with ea_ en_ ec_
                                                        subst ea_
                                                        subst ec_
                                                        clear en_
                                                        have p151 : 0 ≤ (0 : Int) := (by omega)
                                                        have q151 : 0 < ((rd_L5 l3 (rd t134 x9_2)).length : Int) := of_decide_eq_true (by first | (with_reducible assumption) | assumption)
                                                        obtain ⟨ad151, e151, hx151_0, hx151_1, hx151_2, hx151_3, hx151_4⟩ := at_T41 HR150_0.out 0 p151 q151
                                                        cases e151
                                                        have qi151 : (0 < (rd_L5 l3 (rd t134 x9_2)).length) = True := eq_true (by omega)
                                                        (try rw [show ((0 : Int)).toNat = 0 from rfl] at hx151_0)
                                                        (try rw [show 0 * 5 = 0 from rfl] at hx151_0)
                                                        (try rw [Addr.add_zero'] at hx151_0)
                                                        (try rw [show ((0 : Int)).toNat = 0 from rfl] at hx151_1)
                                                        (try rw [show 0 * 5 = 0 from rfl] at hx151_1)
                                                        (try rw [Addr.add_zero'] at hx151_1)
                                                        (try rw [show ((0 : Int)).toNat = 0 from rfl] at hx151_2)
                                                        (try rw [show 0 * 5 = 0 from rfl] at hx151_2)
                                                        (try rw [Addr.add_zero'] at hx151_2)
                                                        (try rw [show ((0 : Int)).toNat = 0 from rfl] at hx151_3)
                                                        (try rw [show 0 * 5 = 0 from rfl] at hx151_3)
                                                        (try rw [Addr.add_zero'] at hx151_3)
                                                        (try rw [show ((0 : Int)).toNat = 0 from rfl] at hx151_4)
                                                        (try rw [show 0 * 5 = 0 from rfl] at hx151_4)
                                                        (try rw [Addr.add_zero'] at hx151_4)
                                                        replace hx151_0 := (HB.out.cell (World.block_lt_of_cell? wq _ hx151_0)).trans hx151_0
                                                        replace hx151_1 := (HB.out.cell (World.block_lt_of_cell? wq _ hx151_1)).trans hx151_1
                                                        replace hx151_2 := (HB.out.cell (World.block_lt_of_cell? wq _ hx151_2)).trans hx151_2
                                                        replace hx151_3 := (HB.out.cell (World.block_lt_of_cell? wq _ hx151_3)).trans hx151_3
                                                        replace hx151_4 := (HB.out.cell (World.block_lt_of_cell? wq _ hx151_4)).trans hx151_4
                                                        replace p151 := eq_true p151
                                                        replace q151 := eq_true q151
                                                        go_wp2
                                                        repeat (go_quiet (fail); try go_wp2)
                                                        go_roundg k2
                                                        case measure => have := HJ8.out; have := HK2.out; omega
                                                        case rel => exact ⟨(wrap64 (x9_2 + 1)), (by first | rfl | (simp; done) | (simp [*]; done)), H', ⟨by have := HJ8.out; have := HK2.out; omega⟩, ⟨by (with_reducible repeat (first | apply Kd.R_alloc | apply Kd.R_drewN | apply Kd.R_drew)); exact HO_7.out⟩, ⟨by (with_reducible repeat (first | apply Kd.R_alloc | apply Kd.R_drewN | apply Kd.R_drew)); exact HO_8.out⟩, ⟨by repeat (first | (with_reducible first | exact HB.out | apply below_alloc | apply pw_below_drewN | apply below_drew1) | exact HB.out)⟩⟩
                                                      · replace c35x : Op.bytesLess (((rd_T41 (rd_L5 l3 (rd t134 (ji29))) 0).f2).toList) (((rd_T41 (rd_L5 l3 (rd t134 x9_2)) 0).f2).toList) = false := by simpa using c35x
                                                        have c35y : ((((rd_T41 (rd_L5 l3 (rd t134 (ji29))) 0).f2).toList) == (((rd_T41 (rd_L5 l3 (rd t134 x9_2)) 0).f2).toList)) = true := beq_iff_eq.mpr (tb_tri _ _ c35x c35b0)
                                                        have H' := Aside0.mk H
                                                        clear H
                                                        obtain ⟨Ao38, co38, eo38⟩ := Kd.R_slice HO_7.out
                                                        subst eo38
                                                        have p140 : 0 ≤ (x9_2 : Int) := of_decide_eq_true (by first | (with_reducible assumption) | assumption)
                                                        have q140 : x9_2 < (t134.length : Int) := of_decide_eq_true (by first | (with_reducible assumption) | assumption)
                                                        obtain ⟨ad140, e140, hx140_0⟩ := Kd.at_int (Kd.R_reads' HO_7.out).2.2 x9_2 p140 q140
                                                        cases e140
                                                        replace p140 := eq_true p140
                                                        replace q140 := eq_true q140
                                                        have p141 : 0 ≤ ((rd t134 x9_2) : Int) := of_decide_eq_true (by first | (with_reducible assumption) | assumption)
                                                        have q141 : (rd t134 x9_2) < (l3.length : Int) := of_decide_eq_true (by first | (with_reducible assumption) | assumption)
                                                        obtain ⟨ad141, A141_0, c141_0, e141, hx141_0, hl141_0, hi141_0⟩ := at_L5 HR3.out (rd t134 x9_2) p141 q141
                                                        cases e141
                                                        replace hx141_0 := (HB.out.cell (World.block_lt_of_cell? wq _ hx141_0)).trans hx141_0
                                                        have HR141_0 := Aside0.mk hi141_0
                                                        have HC141_0 := Aside0.mk hl141_0
                                                        clear hi141_0 hl141_0
                                                        replace p141 := eq_true p141
                                                        replace q141 := eq_true q141
                                                        have p142 : 0 ≤ (0 : Int) := (by omega)
                                                        have q142 : 0 < ((rd_L5 l3 (rd t134 x9_2)).length : Int) := of_decide_eq_true (by first | (with_reducible assumption) | assumption)
                                                        obtain ⟨ad142, e142, hx142_0, hx142_1, hx142_2, hx142_3, hx142_4⟩ := at_T41 HR141_0.out 0 p142 q142
                                                        cases e142
                                                        have qi142 : (0 < (rd_L5 l3 (rd t134 x9_2)).length) = True := eq_true (by omega)
                                                        (try rw [show ((0 : Int)).toNat = 0 from rfl] at hx142_0)
                                                        (try rw [show 0 * 5 = 0 from rfl] at hx142_0)
                                                        (try rw [Addr.add_zero'] at hx142_0)
                                                        (try rw [show ((0 : Int)).toNat = 0 from rfl] at hx142_1)
                                                        (try rw [show 0 * 5 = 0 from rfl] at hx142_1)
                                                        (try rw [Addr.add_zero'] at hx142_1)
                                                        (try rw [show ((0 : Int)).toNat = 0 from rfl] at hx142_2)
                                                        (try rw [show 0 * 5 = 0 from rfl] at hx142_2)
                                                        (try rw [Addr.add_zero'] at hx142_2)
                                                        (try rw [show ((0 : Int)).toNat = 0 from rfl] at hx142_3)
                                                        (try rw [show 0 * 5 = 0 from rfl] at hx142_3)
                                                        (try rw [Addr.add_zero'] at hx142_3)
                                                        (try rw [show ((0 : Int)).toNat = 0 from rfl] at hx142_4)
                                                        (try rw [show 0 * 5 = 0 from rfl] at hx142_4)
                                                        (try rw [Addr.add_zero'] at hx142_4)
                                                        replace hx142_0 := (HB.out.cell (World.block_lt_of_cell? wq _ hx142_0)).trans hx142_0
                                                        replace hx142_1 := (HB.out.cell (World.block_lt_of_cell? wq _ hx142_1)).trans hx142_1
                                                        replace hx142_2 := (HB.out.cell (World.block_lt_of_cell? wq _ hx142_2)).trans hx142_2
                                                        replace hx142_3 := (HB.out.cell (World.block_lt_of_cell? wq _ hx142_3)).trans hx142_3
                                                        replace hx142_4 := (HB.out.cell (World.block_lt_of_cell? wq _ hx142_4)).trans hx142_4
                                                        replace p142 := eq_true p142
                                                        replace q142 := eq_true q142
                                                        obtain ⟨Ao39, co39, eo39⟩ := Kd.R_slice HO_8.out
                                                        subst eo39
                                                        have p143 : 0 ≤ (x9_2 : Int) := of_decide_eq_true (by first | (with_reducible assumption) | assumption)
                                                        have q143 : x9_2 < (t137.length : Int) := of_decide_eq_true (by first | (with_reducible assumption) | assumption)
                                                        obtain ⟨ad143, e143, hx143_0⟩ := Kd.at_int (Kd.R_reads' HO_8.out).2.2 x9_2 p143 q143
                                                        cases e143
                                                        replace p143 := eq_true p143
                                                        replace q143 := eq_true q143
                                                        have p144 : 0 ≤ ((rd t137 x9_2) : Int) := of_decide_eq_true (by first | (with_reducible assumption) | assumption)
                                                        have q144 : (rd t137 x9_2) < (l4.length : Int) := of_decide_eq_true (by first | (with_reducible assumption) | assumption)
                                                        obtain ⟨ad144, A144_0, c144_0, e144, hx144_0, hl144_0, hi144_0⟩ := at_L5 HR4.out (rd t137 x9_2) p144 q144
                                                        cases e144
                                                        replace hx144_0 := (HB.out.cell (World.block_lt_of_cell? wq _ hx144_0)).trans hx144_0
                                                        have HR144_0 := Aside0.mk hi144_0
                                                        have HC144_0 := Aside0.mk hl144_0
                                                        clear hi144_0 hl144_0
                                                        replace p144 := eq_true p144
                                                        replace q144 := eq_true q144
                                                        have p145 : 0 ≤ (0 : Int) := (by omega)
                                                        have q145 : 0 < ((rd_L5 l4 (rd t137 x9_2)).length : Int) := of_decide_eq_true (by first | (with_reducible assumption) | assumption)
                                                        obtain ⟨ad145, e145, hx145_0, hx145_1, hx145_2, hx145_3, hx145_4⟩ := at_T41 HR144_0.out 0 p145 q145
                                                        cases e145
                                                        have qi145 : (0 < (rd_L5 l4 (rd t137 x9_2)).length) = True := eq_true (by omega)
                                                        (try rw [show ((0 : Int)).toNat = 0 from rfl] at hx145_0)
                                                        (try rw [show 0 * 5 = 0 from rfl] at hx145_0)
                                                        (try rw [Addr.add_zero'] at hx145_0)
                                                        (try rw [show ((0 : Int)).toNat = 0 from rfl] at hx145_1)
                                                        (try rw [show 0 * 5 = 0 from rfl] at hx145_1)
                                                        (try rw [Addr.add_zero'] at hx145_1)
                                                        (try rw [show ((0 : Int)).toNat = 0 from rfl] at hx145_2)
                                                        (try rw [show 0 * 5 = 0 from rfl] at hx145_2)
                                                        (try rw [Addr.add_zero'] at hx145_2)
                                                        (try rw [show ((0 : Int)).toNat = 0 from rfl] at hx145_3)
                                                        (try rw [show 0 * 5 = 0 from rfl] at hx145_3)
                                                        (try rw [Addr.add_zero'] at hx145_3)
                                                        (try rw [show ((0 : Int)).toNat = 0 from rfl] at hx145_4)
                                                        (try rw [show 0 * 5 = 0 from rfl] at hx145_4)
                                                        (try rw [Addr.add_zero'] at hx145_4)
                                                        replace hx145_0 := (HB.out.cell (World.block_lt_of_cell? wq _ hx145_0)).trans hx145_0
                                                        replace hx145_1 := (HB.out.cell (World.block_lt_of_cell? wq _ hx145_1)).trans hx145_1
                                                        replace hx145_2 := (HB.out.cell (World.block_lt_of_cell? wq _ hx145_2)).trans hx145_2
                                                        replace hx145_3 := (HB.out.cell (World.block_lt_of_cell? wq _ hx145_3)).trans hx145_3
                                                        replace hx145_4 := (HB.out.cell (World.block_lt_of_cell? wq _ hx145_4)).trans hx145_4
                                                        replace p145 := eq_true p145
                                                        replace q145 := eq_true q145
                                                        have p146 : 0 ≤ ((ji29) : Int) := of_decide_eq_true (by first | (with_reducible assumption) | assumption)
                                                        have q146 : (ji29) < (t134.length : Int) := of_decide_eq_true (by first | (with_reducible assumption) | assumption)
                                                        obtain ⟨ad146, e146, hx146_0⟩ := Kd.at_int (Kd.R_reads' HO_7.out).2.2 (ji29) p146 q146
                                                        obtain rfl : ad140 = ad146 := (by injection e146)
                                                        replace p146 := eq_true p146
                                                        replace q146 := eq_true q146
                                                        have p147 : 0 ≤ ((rd t134 (ji29)) : Int) := of_decide_eq_true (by first | (with_reducible assumption) | assumption)
                                                        have q147 : (rd t134 (ji29)) < (l3.length : Int) := of_decide_eq_true (by first | (with_reducible assumption) | assumption)
                                                        obtain ⟨ad147, A147_0, c147_0, e147, hx147_0, hl147_0, hi147_0⟩ := at_L5 HR3.out (rd t134 (ji29)) p147 q147
                                                        obtain rfl : ad141 = ad147 := (by injection e147)
                                                        replace hx147_0 := (HB.out.cell (World.block_lt_of_cell? wq _ hx147_0)).trans hx147_0
                                                        have HR147_0 := Aside0.mk hi147_0
                                                        have HC147_0 := Aside0.mk hl147_0
                                                        clear hi147_0 hl147_0
                                                        replace p147 := eq_true p147
                                                        replace q147 := eq_true q147
                                                        have p148 : 0 ≤ (0 : Int) := (by omega)
                                                        have q148 : 0 < ((rd_L5 l3 (rd t134 (ji29))).length : Int) := of_decide_eq_true (by first | (with_reducible assumption) | assumption)
                                                        obtain ⟨ad148, e148, hx148_0, hx148_1, hx148_2, hx148_3, hx148_4⟩ := at_T41 HR147_0.out 0 p148 q148
                                                        cases e148
                                                        have qi148 : (0 < (rd_L5 l3 (rd t134 (ji29))).length) = True := eq_true (by omega)
                                                        (try rw [show ((0 : Int)).toNat = 0 from rfl] at hx148_0)
                                                        (try rw [show 0 * 5 = 0 from rfl] at hx148_0)
                                                        (try rw [Addr.add_zero'] at hx148_0)
                                                        (try rw [show ((0 : Int)).toNat = 0 from rfl] at hx148_1)
                                                        (try rw [show 0 * 5 = 0 from rfl] at hx148_1)
                                                        (try rw [Addr.add_zero'] at hx148_1)
                                                        (try rw [show ((0 : Int)).toNat = 0 from rfl] at hx148_2)
                                                        (try rw [show 0 * 5 = 0 from rfl] at hx148_2)
                                                        (try rw [Addr.add_zero'] at hx148_2)
                                                        (try rw [show ((0 : Int)).toNat = 0 from rfl] at hx148_3)
                                                        (try rw [show 0 * 5 = 0 from rfl] at hx148_3)
                                                        (try rw [Addr.add_zero'] at hx148_3)
                                                        (try rw [show ((0 : Int)).toNat = 0 from rfl] at hx148_4)
                                                        (try rw [show 0 * 5 = 0 from rfl] at hx148_4)
                                                        (try rw [Addr.add_zero'] at hx148_4)
                                                        replace hx148_0 := (HB.out.cell (World.block_lt_of_cell? wq _ hx148_0)).trans hx148_0
                                                        replace hx148_1 := (HB.out.cell (World.block_lt_of_cell? wq _ hx148_1)).trans hx148_1
                                                        replace hx148_2 := (HB.out.cell (World.block_lt_of_cell? wq _ hx148_2)).trans hx148_2
                                                        replace hx148_3 := (HB.out.cell (World.block_lt_of_cell? wq _ hx148_3)).trans hx148_3
                                                        replace hx148_4 := (HB.out.cell (World.block_lt_of_cell? wq _ hx148_4)).trans hx148_4
                                                        replace p148 := eq_true p148
                                                        replace q148 := eq_true q148
                                                        have p149 : 0 ≤ (x9_2 : Int) := of_decide_eq_true (by first | (with_reducible assumption) | assumption)
                                                        have q149 : x9_2 < (t134.length : Int) := of_decide_eq_true (by first | (with_reducible assumption) | assumption)
                                                        obtain ⟨ad149, e149, hx149_0⟩ := Kd.at_int (Kd.R_reads' HO_7.out).2.2 x9_2 p149 q149
                                                        obtain rfl : ad140 = ad149 := (by injection e149)
                                                        replace p149 := eq_true p149
                                                        replace q149 := eq_true q149
                                                        have p150 : 0 ≤ ((rd t134 x9_2) : Int) := of_decide_eq_true (by first | (with_reducible assumption) | assumption)
                                                        have q150 : (rd t134 x9_2) < (l3.length : Int) := of_decide_eq_true (by first | (with_reducible assumption) | assumption)
                                                        obtain ⟨ad150, A150_0, c150_0, e150, hx150_0, hl150_0, hi150_0⟩ := at_L5 HR3.out (rd t134 x9_2) p150 q150
                                                        obtain rfl : ad141 = ad150 := (by injection e150)
                                                        replace hx150_0 := (HB.out.cell (World.block_lt_of_cell? wq _ hx150_0)).trans hx150_0
                                                        have HR150_0 := Aside0.mk hi150_0
                                                        have HC150_0 := Aside0.mk hl150_0
                                                        clear hi150_0 hl150_0
                                                        replace p150 := eq_true p150
                                                        replace q150 := eq_true q150
                                                        have ea_ := Option.some.inj (hx141_0.symm.trans hx150_0)
                                                        injection ea_ with ea_ en_ ec_
                                                        subst ea_
                                                        subst ec_
                                                        clear en_
                                                        have p151 : 0 ≤ (0 : Int) := (by omega)
                                                        have q151 : 0 < ((rd_L5 l3 (rd t134 x9_2)).length : Int) := of_decide_eq_true (by first | (with_reducible assumption) | assumption)
                                                        obtain ⟨ad151, e151, hx151_0, hx151_1, hx151_2, hx151_3, hx151_4⟩ := at_T41 HR150_0.out 0 p151 q151
                                                        cases e151
                                                        have qi151 : (0 < (rd_L5 l3 (rd t134 x9_2)).length) = True := eq_true (by omega)
                                                        (try rw [show ((0 : Int)).toNat = 0 from rfl] at hx151_0)
                                                        (try rw [show 0 * 5 = 0 from rfl] at hx151_0)
                                                        (try rw [Addr.add_zero'] at hx151_0)
                                                        (try rw [show ((0 : Int)).toNat = 0 from rfl] at hx151_1)
                                                        (try rw [show 0 * 5 = 0 from rfl] at hx151_1)
                                                        (try rw [Addr.add_zero'] at hx151_1)
                                                        (try rw [show ((0 : Int)).toNat = 0 from rfl] at hx151_2)
                                                        (try rw [show 0 * 5 = 0 from rfl] at hx151_2)
                                                        (try rw [Addr.add_zero'] at hx151_2)
                                                        (try rw [show ((0 : Int)).toNat = 0 from rfl] at hx151_3)
                                                        (try rw [show 0 * 5 = 0 from rfl] at hx151_3)
                                                        (try rw [Addr.add_zero'] at hx151_3)
                                                        (try rw [show ((0 : Int)).toNat = 0 from rfl] at hx151_4)
                                                        (try rw [show 0 * 5 = 0 from rfl] at hx151_4)
                                                        (try rw [Addr.add_zero'] at hx151_4)
                                                        replace hx151_0 := (HB.out.cell (World.block_lt_of_cell? wq _ hx151_0)).trans hx151_0
                                                        replace hx151_1 := (HB.out.cell (World.block_lt_of_cell? wq _ hx151_1)).trans hx151_1
                                                        replace hx151_2 := (HB.out.cell (World.block_lt_of_cell? wq _ hx151_2)).trans hx151_2
                                                        replace hx151_3 := (HB.out.cell (World.block_lt_of_cell? wq _ hx151_3)).trans hx151_3
                                                        replace hx151_4 := (HB.out.cell (World.block_lt_of_cell? wq _ hx151_4)).trans hx151_4
                                                        replace p151 := eq_true p151
                                                        replace q151 := eq_true q151
                                                        go_wp2
                                                        repeat (go_quiet (fail); try go_wp2)
                                                        go_roundg k2
                                                        case measure => have := HJ8.out; have := HK2.out; omega
                                                        case rel => exact ⟨(wrap64 (x9_2 + 1)), (by first | rfl | (simp; done) | (simp [*]; done)), H', ⟨by have := HJ8.out; have := HK2.out; omega⟩, ⟨by (with_reducible repeat (first | apply Kd.R_alloc | apply Kd.R_drewN | apply Kd.R_drew)); exact HO_7.out⟩, ⟨by (with_reducible repeat (first | apply Kd.R_alloc | apply Kd.R_drewN | apply Kd.R_drew)); exact HO_8.out⟩, ⟨by repeat (first | (with_reducible first | exact HB.out | apply below_alloc | apply pw_below_drewN | apply below_drew1) | exact HB.out)⟩⟩
                                                  · rw [if_neg c34] at H
                                                    exact absurd H (by simp)
                                                · rw [if_neg c33] at H
                                                  exact absurd H (by simp)
                                              · rw [if_neg c32] at H
                                                exact absurd H (by simp)
                                            · rw [if_neg c31] at H
                                              exact absurd H (by simp)
                                          · rw [if_neg c30] at H
                                            exact absurd H (by simp)
                                        · rw [if_neg c28] at H
                                          have c28b0 : decide (0 < x9_2) = false := decide_eq_false c28
                                          clear c28
                                          have H' := Aside0.mk H
                                          clear H
                                          obtain ⟨Ao40, co40, eo40⟩ := Kd.R_slice HO_7.out
                                          subst eo40
                                          have p140 : 0 ≤ (x9_2 : Int) := of_decide_eq_true (by first | (with_reducible assumption) | assumption)
                                          have q140 : x9_2 < (t134.length : Int) := of_decide_eq_true (by first | (with_reducible assumption) | assumption)
                                          obtain ⟨ad140, e140, hx140_0⟩ := Kd.at_int (Kd.R_reads' HO_7.out).2.2 x9_2 p140 q140
                                          cases e140
                                          replace p140 := eq_true p140
                                          replace q140 := eq_true q140
                                          have p141 : 0 ≤ ((rd t134 x9_2) : Int) := of_decide_eq_true (by first | (with_reducible assumption) | assumption)
                                          have q141 : (rd t134 x9_2) < (l3.length : Int) := of_decide_eq_true (by first | (with_reducible assumption) | assumption)
                                          obtain ⟨ad141, A141_0, c141_0, e141, hx141_0, hl141_0, hi141_0⟩ := at_L5 HR3.out (rd t134 x9_2) p141 q141
                                          cases e141
                                          replace hx141_0 := (HB.out.cell (World.block_lt_of_cell? wq _ hx141_0)).trans hx141_0
                                          have HR141_0 := Aside0.mk hi141_0
                                          have HC141_0 := Aside0.mk hl141_0
                                          clear hi141_0 hl141_0
                                          replace p141 := eq_true p141
                                          replace q141 := eq_true q141
                                          have p142 : 0 ≤ (0 : Int) := (by omega)
                                          have q142 : 0 < ((rd_L5 l3 (rd t134 x9_2)).length : Int) := of_decide_eq_true (by first | (with_reducible assumption) | assumption)
                                          obtain ⟨ad142, e142, hx142_0, hx142_1, hx142_2, hx142_3, hx142_4⟩ := at_T41 HR141_0.out 0 p142 q142
                                          cases e142
                                          have qi142 : (0 < (rd_L5 l3 (rd t134 x9_2)).length) = True := eq_true (by omega)
                                          (try rw [show ((0 : Int)).toNat = 0 from rfl] at hx142_0)
                                          (try rw [show 0 * 5 = 0 from rfl] at hx142_0)
                                          (try rw [Addr.add_zero'] at hx142_0)
                                          (try rw [show ((0 : Int)).toNat = 0 from rfl] at hx142_1)
                                          (try rw [show 0 * 5 = 0 from rfl] at hx142_1)
                                          (try rw [Addr.add_zero'] at hx142_1)
                                          (try rw [show ((0 : Int)).toNat = 0 from rfl] at hx142_2)
                                          (try rw [show 0 * 5 = 0 from rfl] at hx142_2)
                                          (try rw [Addr.add_zero'] at hx142_2)
                                          (try rw [show ((0 : Int)).toNat = 0 from rfl] at hx142_3)
                                          (try rw [show 0 * 5 = 0 from rfl] at hx142_3)
                                          (try rw [Addr.add_zero'] at hx142_3)
                                          (try rw [show ((0 : Int)).toNat = 0 from rfl] at hx142_4)
                                          (try rw [show 0 * 5 = 0 from rfl] at hx142_4)
                                          (try rw [Addr.add_zero'] at hx142_4)
                                          replace hx142_0 := (HB.out.cell (World.block_lt_of_cell? wq _ hx142_0)).trans hx142_0
                                          replace hx142_1 := (HB.out.cell (World.block_lt_of_cell? wq _ hx142_1)).trans hx142_1
                                          replace hx142_2 := (HB.out.cell (World.block_lt_of_cell? wq _ hx142_2)).trans hx142_2
                                          replace hx142_3 := (HB.out.cell (World.block_lt_of_cell? wq _ hx142_3)).trans hx142_3
                                          replace hx142_4 := (HB.out.cell (World.block_lt_of_cell? wq _ hx142_4)).trans hx142_4
                                          replace p142 := eq_true p142
                                          replace q142 := eq_true q142
                                          obtain ⟨Ao41, co41, eo41⟩ := Kd.R_slice HO_8.out
                                          subst eo41
                                          have p143 : 0 ≤ (x9_2 : Int) := of_decide_eq_true (by first | (with_reducible assumption) | assumption)
                                          have q143 : x9_2 < (t137.length : Int) := of_decide_eq_true (by first | (with_reducible assumption) | assumption)
                                          obtain ⟨ad143, e143, hx143_0⟩ := Kd.at_int (Kd.R_reads' HO_8.out).2.2 x9_2 p143 q143
                                          cases e143
                                          replace p143 := eq_true p143
                                          replace q143 := eq_true q143
                                          have p144 : 0 ≤ ((rd t137 x9_2) : Int) := of_decide_eq_true (by first | (with_reducible assumption) | assumption)
                                          have q144 : (rd t137 x9_2) < (l4.length : Int) := of_decide_eq_true (by first | (with_reducible assumption) | assumption)
                                          obtain ⟨ad144, A144_0, c144_0, e144, hx144_0, hl144_0, hi144_0⟩ := at_L5 HR4.out (rd t137 x9_2) p144 q144
                                          cases e144
                                          replace hx144_0 := (HB.out.cell (World.block_lt_of_cell? wq _ hx144_0)).trans hx144_0
                                          have HR144_0 := Aside0.mk hi144_0
                                          have HC144_0 := Aside0.mk hl144_0
                                          clear hi144_0 hl144_0
                                          replace p144 := eq_true p144
                                          replace q144 := eq_true q144
                                          have p145 : 0 ≤ (0 : Int) := (by omega)
                                          have q145 : 0 < ((rd_L5 l4 (rd t137 x9_2)).length : Int) := of_decide_eq_true (by first | (with_reducible assumption) | assumption)
                                          obtain ⟨ad145, e145, hx145_0, hx145_1, hx145_2, hx145_3, hx145_4⟩ := at_T41 HR144_0.out 0 p145 q145
                                          cases e145
                                          have qi145 : (0 < (rd_L5 l4 (rd t137 x9_2)).length) = True := eq_true (by omega)
                                          (try rw [show ((0 : Int)).toNat = 0 from rfl] at hx145_0)
                                          (try rw [show 0 * 5 = 0 from rfl] at hx145_0)
                                          (try rw [Addr.add_zero'] at hx145_0)
                                          (try rw [show ((0 : Int)).toNat = 0 from rfl] at hx145_1)
                                          (try rw [show 0 * 5 = 0 from rfl] at hx145_1)
                                          (try rw [Addr.add_zero'] at hx145_1)
                                          (try rw [show ((0 : Int)).toNat = 0 from rfl] at hx145_2)
                                          (try rw [show 0 * 5 = 0 from rfl] at hx145_2)
                                          (try rw [Addr.add_zero'] at hx145_2)
                                          (try rw [show ((0 : Int)).toNat = 0 from rfl] at hx145_3)
                                          (try rw [show 0 * 5 = 0 from rfl] at hx145_3)
                                          (try rw [Addr.add_zero'] at hx145_3)
                                          (try rw [show ((0 : Int)).toNat = 0 from rfl] at hx145_4)
                                          (try rw [show 0 * 5 = 0 from rfl] at hx145_4)
                                          (try rw [Addr.add_zero'] at hx145_4)
                                          replace hx145_0 := (HB.out.cell (World.block_lt_of_cell? wq _ hx145_0)).trans hx145_0
                                          replace hx145_1 := (HB.out.cell (World.block_lt_of_cell? wq _ hx145_1)).trans hx145_1
                                          replace hx145_2 := (HB.out.cell (World.block_lt_of_cell? wq _ hx145_2)).trans hx145_2
                                          replace hx145_3 := (HB.out.cell (World.block_lt_of_cell? wq _ hx145_3)).trans hx145_3
                                          replace hx145_4 := (HB.out.cell (World.block_lt_of_cell? wq _ hx145_4)).trans hx145_4
                                          replace p145 := eq_true p145
                                          replace q145 := eq_true q145
                                          go_wp2
                                          repeat (go_quiet (fail); try go_wp2)
                                          go_roundg k2
                                          case measure => have := HJ8.out; have := HK2.out; omega
                                          case rel => exact ⟨(wrap64 (x9_2 + 1)), (by first | rfl | (simp; done) | (simp [*]; done)), H', ⟨by have := HJ8.out; have := HK2.out; omega⟩, ⟨by (with_reducible repeat (first | apply Kd.R_alloc | apply Kd.R_drewN | apply Kd.R_drew)); exact HO_7.out⟩, ⟨by (with_reducible repeat (first | apply Kd.R_alloc | apply Kd.R_drewN | apply Kd.R_drew)); exact HO_8.out⟩, ⟨by repeat (first | (with_reducible first | exact HB.out | apply below_alloc | apply pw_below_drewN | apply below_drew1) | exact HB.out)⟩⟩
                                      · rw [if_neg c27] at H
                                        have c27b0 : (((rd_T41 (rd_L5 l3 (rd t134 x9_2)) 0).f2).toList == ((rd_T41 (rd_L5 l4 (rd t137 x9_2)) 0).f2).toList) = false := beq_eq_false_iff_ne.mpr c27
                                        have c27b1 : (((rd_T41 (rd_L5 l3 (rd t134 x9_2)) 0).f2).toList != ((rd_T41 (rd_L5 l4 (rd t137 x9_2)) 0).f2).toList) = true := bne_iff_ne.mpr c27
                                        obtain rfl := Option.some.inj H
                                        obtain ⟨Ao42, co42, eo42⟩ := Kd.R_slice HO_7.out
                                        subst eo42
                                        have p140 : 0 ≤ (x9_2 : Int) := of_decide_eq_true (by first | (with_reducible assumption) | assumption)
                                        have q140 : x9_2 < (t134.length : Int) := of_decide_eq_true (by first | (with_reducible assumption) | assumption)
                                        obtain ⟨ad140, e140, hx140_0⟩ := Kd.at_int (Kd.R_reads' HO_7.out).2.2 x9_2 p140 q140
                                        cases e140
                                        replace p140 := eq_true p140
                                        replace q140 := eq_true q140
                                        have p141 : 0 ≤ ((rd t134 x9_2) : Int) := of_decide_eq_true (by first | (with_reducible assumption) | assumption)
                                        have q141 : (rd t134 x9_2) < (l3.length : Int) := of_decide_eq_true (by first | (with_reducible assumption) | assumption)
                                        obtain ⟨ad141, A141_0, c141_0, e141, hx141_0, hl141_0, hi141_0⟩ := at_L5 HR3.out (rd t134 x9_2) p141 q141
                                        cases e141
                                        replace hx141_0 := (HB.out.cell (World.block_lt_of_cell? wq _ hx141_0)).trans hx141_0
                                        have HR141_0 := Aside0.mk hi141_0
                                        have HC141_0 := Aside0.mk hl141_0
                                        clear hi141_0 hl141_0
                                        replace p141 := eq_true p141
                                        replace q141 := eq_true q141
                                        have p142 : 0 ≤ (0 : Int) := (by omega)
                                        have q142 : 0 < ((rd_L5 l3 (rd t134 x9_2)).length : Int) := of_decide_eq_true (by first | (with_reducible assumption) | assumption)
                                        obtain ⟨ad142, e142, hx142_0, hx142_1, hx142_2, hx142_3, hx142_4⟩ := at_T41 HR141_0.out 0 p142 q142
                                        cases e142
                                        have qi142 : (0 < (rd_L5 l3 (rd t134 x9_2)).length) = True := eq_true (by omega)
                                        (try rw [show ((0 : Int)).toNat = 0 from rfl] at hx142_0)
                                        (try rw [show 0 * 5 = 0 from rfl] at hx142_0)
                                        (try rw [Addr.add_zero'] at hx142_0)
                                        (try rw [show ((0 : Int)).toNat = 0 from rfl] at hx142_1)
                                        (try rw [show 0 * 5 = 0 from rfl] at hx142_1)
                                        (try rw [Addr.add_zero'] at hx142_1)
                                        (try rw [show ((0 : Int)).toNat = 0 from rfl] at hx142_2)
                                        (try rw [show 0 * 5 = 0 from rfl] at hx142_2)
                                        (try rw [Addr.add_zero'] at hx142_2)
                                        (try rw [show ((0 : Int)).toNat = 0 from rfl] at hx142_3)
                                        (try rw [show 0 * 5 = 0 from rfl] at hx142_3)
                                        (try rw [Addr.add_zero'] at hx142_3)
                                        (try rw [show ((0 : Int)).toNat = 0 from rfl] at hx142_4)
                                        (try rw [show 0 * 5 = 0 from rfl] at hx142_4)
                                        (try rw [Addr.add_zero'] at hx142_4)
                                        replace hx142_0 := (HB.out.cell (World.block_lt_of_cell? wq _ hx142_0)).trans hx142_0
                                        replace hx142_1 := (HB.out.cell (World.block_lt_of_cell? wq _ hx142_1)).trans hx142_1
                                        replace hx142_2 := (HB.out.cell (World.block_lt_of_cell? wq _ hx142_2)).trans hx142_2
                                        replace hx142_3 := (HB.out.cell (World.block_lt_of_cell? wq _ hx142_3)).trans hx142_3
                                        replace hx142_4 := (HB.out.cell (World.block_lt_of_cell? wq _ hx142_4)).trans hx142_4
                                        replace p142 := eq_true p142
                                        replace q142 := eq_true q142
                                        obtain ⟨Ao43, co43, eo43⟩ := Kd.R_slice HO_8.out
                                        subst eo43
                                        have p143 : 0 ≤ (x9_2 : Int) := of_decide_eq_true (by first | (with_reducible assumption) | assumption)
                                        have q143 : x9_2 < (t137.length : Int) := of_decide_eq_true (by first | (with_reducible assumption) | assumption)
                                        obtain ⟨ad143, e143, hx143_0⟩ := Kd.at_int (Kd.R_reads' HO_8.out).2.2 x9_2 p143 q143
                                        cases e143
                                        replace p143 := eq_true p143
                                        replace q143 := eq_true q143
                                        have p144 : 0 ≤ ((rd t137 x9_2) : Int) := of_decide_eq_true (by first | (with_reducible assumption) | assumption)
                                        have q144 : (rd t137 x9_2) < (l4.length : Int) := of_decide_eq_true (by first | (with_reducible assumption) | assumption)
                                        obtain ⟨ad144, A144_0, c144_0, e144, hx144_0, hl144_0, hi144_0⟩ := at_L5 HR4.out (rd t137 x9_2) p144 q144
                                        cases e144
                                        replace hx144_0 := (HB.out.cell (World.block_lt_of_cell? wq _ hx144_0)).trans hx144_0
                                        have HR144_0 := Aside0.mk hi144_0
                                        have HC144_0 := Aside0.mk hl144_0
                                        clear hi144_0 hl144_0
                                        replace p144 := eq_true p144
                                        replace q144 := eq_true q144
                                        have p145 : 0 ≤ (0 : Int) := (by omega)
                                        have q145 : 0 < ((rd_L5 l4 (rd t137 x9_2)).length : Int) := of_decide_eq_true (by first | (with_reducible assumption) | assumption)
                                        obtain ⟨ad145, e145, hx145_0, hx145_1, hx145_2, hx145_3, hx145_4⟩ := at_T41 HR144_0.out 0 p145 q145
                                        cases e145
                                        have qi145 : (0 < (rd_L5 l4 (rd t137 x9_2)).length) = True := eq_true (by omega)
                                        (try rw [show ((0 : Int)).toNat = 0 from rfl] at hx145_0)
                                        (try rw [show 0 * 5 = 0 from rfl] at hx145_0)
                                        (try rw [Addr.add_zero'] at hx145_0)
                                        (try rw [show ((0 : Int)).toNat = 0 from rfl] at hx145_1)
                                        (try rw [show 0 * 5 = 0 from rfl] at hx145_1)
                                        (try rw [Addr.add_zero'] at hx145_1)
                                        (try rw [show ((0 : Int)).toNat = 0 from rfl] at hx145_2)
                                        (try rw [show 0 * 5 = 0 from rfl] at hx145_2)
                                        (try rw [Addr.add_zero'] at hx145_2)
                                        (try rw [show ((0 : Int)).toNat = 0 from rfl] at hx145_3)
                                        (try rw [show 0 * 5 = 0 from rfl] at hx145_3)
                                        (try rw [Addr.add_zero'] at hx145_3)
                                        (try rw [show ((0 : Int)).toNat = 0 from rfl] at hx145_4)
                                        (try rw [show 0 * 5 = 0 from rfl] at hx145_4)
                                        (try rw [Addr.add_zero'] at hx145_4)
                                        replace hx145_0 := (HB.out.cell (World.block_lt_of_cell? wq _ hx145_0)).trans hx145_0
                                        replace hx145_1 := (HB.out.cell (World.block_lt_of_cell? wq _ hx145_1)).trans hx145_1
                                        replace hx145_2 := (HB.out.cell (World.block_lt_of_cell? wq _ hx145_2)).trans hx145_2
                                        replace hx145_3 := (HB.out.cell (World.block_lt_of_cell? wq _ hx145_3)).trans hx145_3
                                        replace hx145_4 := (HB.out.cell (World.block_lt_of_cell? wq _ hx145_4)).trans hx145_4
                                        replace p145 := eq_true p145
                                        replace q145 := eq_true q145
                                        go_wp2
                                        repeat (go_quiet (fail); try go_wp2)
                                        go_ret
                                        exact ⟨by first | rfl | (simp [errW_none, errW_some] <;> rfl) | (simp [*, errW_none, errW_some] <;> rfl), HW0.out.trans (Below.mono (by repeat (first | (with_reducible first | exact HB.out | apply below_alloc | apply pw_below_drewN | apply below_drew1) | exact HB.out)) HW0.out.size)⟩
                                    · rw [if_neg c26] at H
                                      exact absurd H (by simp)
                                  · rw [if_neg c25] at H
                                    exact absurd H (by simp)
                                · rw [if_neg c24] at H
                                  exact absurd H (by simp)
                              · rw [if_neg c23] at H
                                exact absurd H (by simp)
                            · rw [if_neg c22] at H
                              exact absurd H (by simp)
                          · rw [if_neg c21] at H
                            exact absurd H (by simp)
                        · rw [if_neg c20] at H
                          exact absurd H (by simp)
                      · rw [if_neg c19] at H
                        exact absurd H (by simp)
                    · rw [if_neg c18] at H
                      exact absurd H (by simp)
                  · rw [if_neg c17] at H
                    have c17b0 : decide (x9_2 < a5) = false := decide_eq_false c17
                    clear c17
                    replace H := Option.bind_eq_some_iff.mp H
                    obtain ⟨t152, A440, H⟩ := H
                    replace H : (some t152) = some r := H
                    have A44 := Aside0.mk A440
                    clear A440
                    obtain rfl := Option.some.inj H
                    go_wp2_with (first | (go_at_call 10; (with_reducible refine (stencillaw13_live.calls k2  t152 _ ?side1 A44.out).mono ?_); (case side1 => first | exact HLD | exact Laid.below HLD (by repeat (first | (with_reducible first | exact HB.out | apply below_alloc | apply pw_below_drewN | apply below_drew1) | exact HB.out))); rintro e w45 ⟨rfl, hb⟩; have n0_ := Aside0.mk (Kd.R_below (by (with_reducible repeat (first | apply Kd.R_alloc | apply Kd.R_drewN | apply Kd.R_drew)); exact HO_7.out) hb); have n1_ := Aside0.mk (Kd.R_below (by (with_reducible repeat (first | apply Kd.R_alloc | apply Kd.R_drewN | apply Kd.R_drew)); exact HO_8.out) hb); have n2_ := Aside0.mk (below_step (by repeat (first | (with_reducible first | exact HB.out | apply below_alloc | apply pw_below_drewN | apply below_drew1) | exact HB.out)) hb); clear HO_7; clear HO_8; clear HB; have HO_7 := n0_; have HO_8 := n1_; have HB := n2_; clear n0_ n1_ n2_; (try clear hb); (try clear hb2); (try clear hk); (try clear hi)))
                    repeat (go_quiet (first | (go_at_call 10; (with_reducible refine (stencillaw13_live.calls k2  t152 _ ?side1 A44.out).mono ?_); (case side1 => first | exact HLD | exact Laid.below HLD (by repeat (first | (with_reducible first | exact HB.out | apply below_alloc | apply pw_below_drewN | apply below_drew1) | exact HB.out))); rintro e w45 ⟨rfl, hb⟩; have n0_ := Aside0.mk (Kd.R_below (by (with_reducible repeat (first | apply Kd.R_alloc | apply Kd.R_drewN | apply Kd.R_drew)); exact HO_7.out) hb); have n1_ := Aside0.mk (Kd.R_below (by (with_reducible repeat (first | apply Kd.R_alloc | apply Kd.R_drewN | apply Kd.R_drew)); exact HO_8.out) hb); have n2_ := Aside0.mk (below_step (by repeat (first | (with_reducible first | exact HB.out | apply below_alloc | apply pw_below_drewN | apply below_drew1) | exact HB.out)) hb); clear HO_7; clear HO_8; clear HB; have HO_7 := n0_; have HO_8 := n1_; have HB := n2_; clear n0_ n1_ n2_; (try clear hb); (try clear hb2); (try clear hk); (try clear hi))); try go_wp2_with (first | (go_at_call 10; (with_reducible refine (stencillaw13_live.calls k2  t152 _ ?side1 A44.out).mono ?_); (case side1 => first | exact HLD | exact Laid.below HLD (by repeat (first | (with_reducible first | exact HB.out | apply below_alloc | apply pw_below_drewN | apply below_drew1) | exact HB.out))); rintro e w45 ⟨rfl, hb⟩; have n0_ := Aside0.mk (Kd.R_below (by (with_reducible repeat (first | apply Kd.R_alloc | apply Kd.R_drewN | apply Kd.R_drew)); exact HO_7.out) hb); have n1_ := Aside0.mk (Kd.R_below (by (with_reducible repeat (first | apply Kd.R_alloc | apply Kd.R_drewN | apply Kd.R_drew)); exact HO_8.out) hb); have n2_ := Aside0.mk (below_step (by repeat (first | (with_reducible first | exact HB.out | apply below_alloc | apply pw_below_drewN | apply below_drew1) | exact HB.out)) hb); clear HO_7; clear HO_8; clear HB; have HO_7 := n0_; have HO_8 := n1_; have HB := n2_; clear n0_ n1_ n2_; (try clear hb); (try clear hb2); (try clear hk); (try clear hi))))
                    go_ret
                    exact ⟨by first | rfl | (simp [errW_none, errW_some] <;> rfl) | (simp [*, errW_none, errW_some] <;> rfl), HW0.out.trans (Below.mono (by repeat (first | (with_reducible first | exact HB.out | apply below_alloc | apply pw_below_drewN | apply below_drew1) | exact HB.out)) HW0.out.size)⟩


end Go.Proofs.YthedigbdkjcpfaaDoor.Print
