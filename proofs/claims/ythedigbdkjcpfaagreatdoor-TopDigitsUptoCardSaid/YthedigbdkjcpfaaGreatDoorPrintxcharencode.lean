-- Laid by xprint.py (ours), out of the seat's translation; Lean checks it.
import Derived.Test.YthedigbdkjcpfaaGreatDoorWRepsOne
import Derived.Test.YthedigbdkjcpfaaGreatDoorPrint0
import Derived.Test.YthedigbdkjcpfaaGreatDoorPrintlibvalid
import Derived.LoopTactic
import Derived.Lib.Hide
import Derived.Laws.BitsLemmas
import Derived.Test.YthedigbdkjcpfaaGreatDoorPlain
namespace Go.Proofs.YthedigbdkjcpfaaGreatDoor.Print
open Go.RowKit Go.Proofs.YthedigbdkjcpfaaGreatDoorW.PrintWords Go.Proofs.YthedigbdkjcpfaaGreatDoorW.PrintLast Go.Proofs.YthedigbdkjcpfaaGreatDoorW.PrintMore
attribute [local go_sem] max2_int min2_int max_two min_two max_three min_three max_four min_four   -- for this text's walks alone
open Go.Proofs.YthedigbdkjcpfaaGreatDoor.Plain
set_option linter.unusedVariables false
set_option linter.unusedSimpArgs false

-- GIVEN stencil/xchar.Encode making
/-- what lies of the row that grows: its cell g; i: a block that it is not -/
structure Ed (w0 W : World) (g i : Nat) (v : Value) (bs : List Int) : Prop where
  cell : W.heap[g]? = some (.cells #[v] 28 (0, 0))
  row : (Kd.int .u8).R 5 W w0.heap.size (fun k => k ≠ g ∧ k ≠ i) v bs
  bel : Below w0.heap.size w0 W
  base : w0.heap.size ≤ g
  ilt : i < W.heap.size
theorem lit_C (W : World) (l : List Int) (cs : Array Value) (h : cs.toList = l.map (Value.int .u8)) (hl : l.length ≤ 1000) (fz : Nat × Nat) :
    Kd.C (Kd.int .u8) (W.alloc (.cells cs 5 fz)) (some ⟨W.heap.size, 0, none⟩) l.length l := by
  refine Kd.C_of_reads (d := (0 : Int)) (h1 := fun _ => rfl) ⟨rfl, by omega, fun _ => ⟨_, rfl, fun j hj => ?_⟩⟩
  rw [add_plain, World.cell?_alloc_mark]
  have : cs[j]? = (l.map (Value.int .u8))[j]? := by rw [← h]; simp
  rw [this, List.getElem?_map, List.getElem?_eq_getElem hj, List.getD_eq_getElem?_getD, List.getElem?_eq_getElem hj]
  rfl
theorem len_two (bs : List Int) (a b : Int) : (bs ++ [a, b]).length = bs.length + 2 := by simp
def PutPost (w0 W : World) (g i : Nat) (bs : List Int) (e : Ending) (w' : World) : Prop :=
  e = .returned (.tuple #[]) ∧ ∃ v', Ed w0 w' g i v' bs ∧ (i ≠ g → w'.heap[i]? = W.heap[i]?)
theorem heap_old {W : World} {g : Nat} {o : Obj} (h : W.heap[g]? = some o) (x : Obj) : (W.alloc x).heap[g]? = some o :=
  (((Below.refl W.heap.size W).alloc (Nat.le_refl _) x).block g (blk_lt h)).trans h
set_option maxRecDepth 100000 in
set_option maxHeartbeats 4000000 in
theorem put_any {w0 W : World} {g i : Nat} {v : Value} {bs : List Int} (H : Ed w0 W g i v bs) (u : Int) (h0 : 0 ≤ u) (h1 : u ≤ 65535) (hl : bs.length ≤ 100000000) :
    Calls Tryz.prog 19 #[.int .i32 u, .pointer (some ⟨g, 0, none⟩)] W (PutPost w0 W g i (bs ++ [u / 256, u % 256])) := by
  have c : W.cell? ⟨g, 0, none⟩ = some v := (blk_cell H.cell 0).trans rfl
  have HH := Lib.hid H
  have d0 : 0 ≤ u / 256 := by omega
  have d1 : u / 256 < 256 := by omega
  have hgi : ∀ k, v.ownBlock = some k → k ≠ g ∧ k ≠ i := H.row.1
  have hne : some g ≠ v.ownBlock := fun e => (hgi g e.symm).1 rfl
  have hni : some i ≠ v.ownBlock := fun e => (hgi i e.symm).2 rfl
  have hglt := blk_lt H.cell
  have hilt := H.ilt
  have hbs := H.base
  clear H hgi
  go_enter Tryz.func19, Tryz.ntmps19
  go_wp2_with (first
    | ((with_reducible refine gate_dst (N := 9) rfl ?_); refine Kd.R_lit (Kd.int .u8) _ 5 ?hg (N := 9) ?hd (xs := [u / 256, u % 256]) (inner := [.int .u8 (u / 256), .int .u8 (u % 256)]) (ok := fun _ => True) (okp := fun _ => True) ?hr ?hp (fun _ hk => hk) trivial (Below.refl _ _) (Nat.le_refl _) (by simp) ?_; (case hd => rfl); (case hg => rfl); (case hr => first | (go_simp; done) | (go_simp; rfl)); (case hp => exact Reps.one (show Kd.M (Kd.int .u8) _ _ _ (u / 256) [.int .u8 (u / 256)] from rfl) (Reps.one (show Kd.M (Kd.int .u8) _ _ _ (u % 256) [.int .u8 (u % 256)] from rfl) (Reps.none _ _))); intro v9 w9 ho9 hb9 hg9 hat9; obtain ⟨A9, c9, rfl, hl9, hC9⟩ := Kd.R_reads ho9; have HC9 := Lib.hid hC9; have HB9 := Lib.hid hb9; clear ho9 hb9 hg9 hat9 hC9 hl9)
    | ((with_reducible refine gate_builtin (b := .append) (xs := #[.tmp 3, .tmp 9]) rfl ?_); at_builtin; refine Kd.R_append_rows (Kd.int .u8) (w0 := w0) w0.heap.size rfl (.tmp 3) (.tmp 9) 28 5 (.int .u8 0) 1 rfl Tryz.underlying28 info5 rfl (by decide) (by omega) v bs [u / 256, u % 256] _ _ _ (fun k => k ≠ g ∧ k ≠ i) (fun _ => False) rfl rfl ?aO ?aR (fun _ _ h => h) (fun _ h => h.elim) ?aF ?aB ?aS ?aL ?_; (case aR => exact HC9.out); (case aB => exact HH.out.bel.trans (HB9.out.mono HH.out.bel.size)); (case aF => exact (fun k hk => by have := HB9.out.size; omega)); (case aO => exact Kd.R_below HH.out.row HB9.out); (case aS => exact Nat.le_trans HH.out.bel.size HB9.out.size); (case aL => exact (by simp only [List.length_cons, List.length_nil]; omega)); intro v1 w1 ho hb hg hat; obtain ⟨A1, c1, hv1, _, _⟩ := Kd.R_reads ho; rw [len_two] at hv1; subst hv1; have hg1 := blk_grown ((HB9.out.block g hglt).trans HH.out.cell) hg hne; have hc1 := blk_cell hg1 0; have hf1 := blk_frozen hg1 0; have HO := Lib.hid ho; have HB := Lib.hid hb; have HG := Lib.hid hg; have HG1 := Lib.hid hg1; clear ho hb hg hg1 hat))
  go_end0
  refine ⟨rfl, .slice A1 (bs.length + 2) c1, ⟨?_, ?_, HB.out.setCell hbs _, hbs, ?_⟩, fun hig => ?_⟩
  · exact blk_set HG1.out 0 _
  · exact Kd.R_far HO.out (fun k hk => hk.1) _
  · have h2 := HG.out.size
    have h4 := HB9.out.size
    rw [World.size_setCell]
    omega
  · rw [Below.heap_setCell _ _ _ i hig]
    have h4 := HB9.out.size
    rw [HG.out.block i (by omega) hni]
    exact HB9.out.block i hilt
/-- a rune as units of 16 bits, each as two bytes -/
def units16 (r : Int) : List Int := if r < 65536 then [r / 256, r % 256] else [(55296 + (r - 65536) / 1024) / 256, (55296 + (r - 65536) / 1024) % 256, (56320 + (r - 65536) % 1024) / 256, (56320 + (r - 65536) % 1024) % 256]
def wideL : Nat → List UInt8 → List Int
  | 0, _ => []
  | f + 1, l => if l = [] then [] else units16 (Lib.decodeL l).1 ++ wideL f (l.drop (Lib.decodeL l).2)
theorem wideL_nil (f : Nat) : wideL f [] = [] := by cases f <;> simp [wideL]
def xchar_Encode.f (a0 : ByteArray) (a1 : Bool) : Option (List Int × Int) :=
  if a0.size ≤ 1000000000 then
    if Lib.validD a0.data.toList = false then some ([], 3)
    else if 32768 < a0.size then some ([], 6)
    else if a1 = false then some (bytesOf a0, 0)
    else some ([254, 255] ++ wideL a0.size a0.data.toList, 0)
  else none
/-- what a call hands back: bytes that can be read, and a number -/
def BytesPost (w : World) (r1 : List Int) (r2 : Int) (e : Ending) (w' : World) : Prop :=
  ∃ A c, e = .returned (.tuple #[.slice A r1.length c, .int .i64 r2]) ∧ Kd.C (Kd.int .u8) w' A r1.length r1 ∧ r1.length ≤ c ∧ Below w.heap.size w w'
theorem Ed.iterAt {w0 W : World} {g i : Nat} {v : Value} {bs : List Int} (H : Ed w0 W g i v bs) (hgi : g ≠ i) (hi : w0.heap.size ≤ i) (s : ByteArray) (p : Nat) : Ed w0 (W.iterAt i s p) g i v bs :=
  ⟨(Lib.iterAt_other W i g s p hgi).trans H.cell, Kd.R_step H.row (fun k hk _ => Lib.iterAt_other W i k s p hk.2), Lib.below_iterAt H.bel hi s p, H.base, by rw [Lib.iterAt_size]; exact H.ilt⟩
theorem heap_new (W : World) (x : Obj) : (W.alloc x).heap[W.heap.size]? = some x := by
  show (W.heap.push x)[W.heap.size]? = some x
  simp
theorem units_len (r : Int) : (units16 r).length ≤ 4 := by unfold units16; split <;> simp
theorem bnd_lo {q : Int} (h0 : 0 ≤ q) (h1 : q ≤ 1048575) : 0 ≤ 55296 + q / 1024 ∧ 55296 + q / 1024 ≤ 65535 ∧ 0 ≤ 56320 + q % 1024 ∧ 56320 + q % 1024 ≤ 65535 := by omega
set_option maxRecDepth 100000 in
set_option maxHeartbeats 8000000 in
theorem encode_wide (s : ByteArray) (w : World) (HL : Laid w) (hz : s.size ≤ 32768) (hv : Lib.validD s.data.toList = true) :
    Calls Tryz.prog 8 #[.string s, .bool true] w (BytesPost w ([254, 255] ++ wideL s.size s.data.toList) 0) := by
  obtain ⟨R, hR⟩ : ∃ R, [254, 255] ++ wideL s.size s.data.toList = R := ⟨_, rfl⟩
  rw [hR]
  have HR := Lib.hid hR
  clear hR
  have cV := utf8_ValidString.calls s true w HL (by unfold utf8_ValidString.f; rw [if_pos (by omega), hv])
  have HV := Lib.hid cV
  have hgt : decide ((s.size : Int) > 32768) = false := decide_eq_false (by omega)
  have hgt2 : decide (32768 < (s.size : Int)) = false := decide_eq_false (by omega)
  have hmf : ∀ (fn : Fn) (first cap : Array Value) (w : World), (Instr.makeFunc fn first cap).run Tryz.prog w = .ok (.func fn first cap) w := fun _ _ _ _ => rfl
  clear cV hv
  go_enter Tryz.func8, Tryz.ntmps8
  go_wp2_with (first
    | (go_at_call 18; refine HV.out.mono ?_; rintro e w1 ⟨rfl, hb1⟩; have HB1 := Lib.hid hb1; clear hb1)
    | ((with_reducible refine gate_dst (N := 23) rfl ?_); refine Kd.R_lit (Kd.int .u8) _ 5 ?hg (N := 23) ?hd (xs := [254, 255]) (inner := [.int .u8 254, .int .u8 255]) (ok := fun _ => True) (okp := fun _ => True) ?hr ?hp (fun _ hk => hk) trivial (Below.refl _ _) (Nat.le_refl _) (by simp) ?_; (case hd => rfl); (case hg => rfl); (case hr => first | (go_simp; done) | (go_simp; rfl)); (case hp => exact Reps.one (show Kd.M (Kd.int .u8) _ _ _ 254 [.int .u8 254] from rfl) (Reps.one (show Kd.M (Kd.int .u8) _ _ _ 255 [.int .u8 255] from rfl) (Reps.none _ _))); intro v9 w9 ho9 hb9 hg9 hat9; obtain ⟨A9, c9, rfl, hl9, hC9⟩ := Kd.R_reads ho9; have HO9 := Lib.hid ho9; have HB9 := Lib.hid hb9; clear ho9 hb9 hg9 hat9 hC9 hl9))
  have hsz9 : w1.heap.size ≤ w9.heap.size := HB9.out.size
  have hsz1 : w.heap.size ≤ w1.heap.size := HB1.out.size
  have hE : Ed w ((w9.alloc (.cells #[.slice A9 2 c9] 28)).iter s 0) w9.heap.size (w9.heap.size + 1) (.slice A9 2 c9) [254, 255] := by
    refine ⟨heap_old (heap_new _ _) _, ?_, ?_, by omega, ?_⟩
    · have r1 := Kd.R_mono (ok' := fun k => k ≠ w9.heap.size ∧ k ≠ w9.heap.size + 1) (Kd.R_bound HO9.out) (fun k hk => by have := hk.2.2.1; omega)
      exact Kd.R_alloc (Kd.R_alloc (Kd.R_lower r1 hsz1) _) _
    · exact ((HB1.out.then_ HB9.out).alloc (by omega) _).alloc (by simp; omega) _
    · show _ < (World.alloc _ _).heap.size
      simp
  have HE := Lib.hid hE
  clear hE
  go_loopw [9] (fun _ wr => ∃ (pos fuel : Nat) (v : Value) (bs : List Int), wr.heap[w9.heap.size + 1]? = some (.stringIter s pos) ∧ Ed w wr w9.heap.size (w9.heap.size + 1) v bs ∧ Hid (bs ++ wideL fuel (s.data.toList.drop pos) = R) ∧ s.size ≤ pos + fuel ∧ bs.length ≤ 4 * pos + 2 ∧ pos ≤ s.size + 4) (fun _ wr => s.size + 8 - wr.iterPos (w9.heap.size + 1))
  case atStart => exact ⟨0, s.size, _, _, by have h3 := World.iter_heap (w9.alloc (.cells #[.slice A9 2 c9] 28)) s 0; rw [World.size_alloc] at h3; exact h3, HE.out, HR, by omega, by simp, by omega⟩
  case round =>
    obtain ⟨pos, fuel, v, bs, hit, hEd, hacc, hfu, hbl, hpl⟩ := hrel
    by_cases hp : pos < s.size
    · obtain ⟨r, N, hd, hdl, hN, hr⟩ := decode_facts s pos
      obtain ⟨f, rfl⟩ : ∃ f, fuel = f + 1 := ⟨fuel - 1, by omega⟩
      have hacc' := hacc.out
      rw [wideL, if_neg (drop_ne s pos hp), hdl] at hacc'
      simp only [List.drop_drop] at hacc'
      have hin := decode_in s pos r N hp hdl
      have hnx : ∀ ty, (Instr.next (.pointer (some ⟨w9.heap.size + 1, 0, none⟩)) true ty).run Tryz.prog wr = .ok (.tuple #[.bool true, .int .i64 pos, .int .i32 r]) (wr.iterAt (w9.heap.size + 1) s (pos + N)) := fun ty => by
        have := Lib.run_next_any_at (P := Tryz.prog) wr (w9.heap.size + 1) s pos ty hit hp
        rw [hd] at this
        exact this
      have hit2 := Lib.iterAt_heap wr (w9.heap.size + 1) s pos (pos + N) hit
      have HE2 := Lib.hid (hEd.iterAt (by omega) (by omega) s (pos + N))
      have hm0 := iter_pos hit
      have HIT := Lib.hid hit2
      have HM0 := Lib.hid hm0
      have HHD := Lib.hid (Nat.le_refl 0)
      clear hacc hd hdl HR hEd hit hit2 hm0 HE
      by_cases hlt : (r : Int) < 65536
      · have hdec : decide ((r : Int) < 65536) = true := decide_eq_true hlt
        have HA := Lib.hid hacc'
        clear hacc'
        go_wp2_with (go_at_call 19; refine (put_any HE2.out (r : Int) (by omega) (by omega) (by omega)).mono ?_; rintro e w2 ⟨rfl, v2, hE2, hk2⟩; have HE3 := Lib.hid hE2; have HK3 := Lib.hid hk2; clear hE2 hk2)
        go_roundw
        case rel => exact ⟨pos + N, f, v2, _, (HK3.out (by omega)).trans HIT.out, HE3.out, by rw [List.append_assoc]; have h := HA.out; unfold units16 at h; rw [if_pos hlt] at h; exact h, by omega, by rw [List.length_append]; simp only [List.length_cons, List.length_nil]; omega, by omega⟩
        case measure => rw [HM0.out, iter_pos ((HK3.out (by omega)).trans HIT.out)]; omega
      · have hdec : decide ((r : Int) < 65536) = false := decide_eq_false hlt
        have hq0 : 0 ≤ (r : Int) - 65536 := by omega
        have hq1 : (r : Int) - 65536 ≤ 1048575 := by omega
        obtain ⟨b1, b2, b3, b4⟩ := bnd_lo hq0 hq1
        have hand : bits .and .i32 ((r : Int) - 65536) 1023 = ((r : Int) - 65536) % 1024 := bits_mask .i32 31 (by decide) wraps_i32 10 (by decide) _ hq0 (by omega)
        have HA := Lib.hid hacc'
        clear hacc'
        go_wp2_with (first
          | (go_at_call 19; (with_reducible refine (put_any HE2.out (55296 + ((r : Int) - 65536) / 1024) b1 b2 (by omega)).mono ?_); rintro e w2 ⟨rfl, v2, hE2, hk2⟩; have HE3 := Lib.hid hE2; have HK3 := Lib.hid hk2; clear hE2 hk2)
          | (go_at_call 19; (with_reducible refine (put_any HE3.out (56320 + ((r : Int) - 65536) % 1024) b3 b4 (by rw [len_two]; omega)).mono ?_); rintro e w3 ⟨rfl, v3, hE3, hk3⟩; have HE4 := Lib.hid hE3; have HK4 := Lib.hid hk3; clear hE3 hk3))
        go_roundw
        case rel => exact ⟨pos + N, f, v3, _, (HK4.out (by omega)).trans ((HK3.out (by omega)).trans HIT.out), HE4.out, by rw [List.append_assoc, List.append_assoc]; have h := HA.out; unfold units16 at h; rw [if_neg (show ¬ ((r : Int) < 65536) by omega)] at h; exact h, by omega, by rw [len_two, len_two]; omega, by omega⟩
        case measure => rw [HM0.out, iter_pos ((HK4.out (by omega)).trans ((HK3.out (by omega)).trans HIT.out))]; omega
    · obtain ⟨A, c, rfl, hlc, hC⟩ := Kd.R_reads hEd.row
      have hnx : ∀ ty, (Instr.next (.pointer (some ⟨w9.heap.size + 1, 0, none⟩)) true ty).run Tryz.prog wr = _ := fun ty => Lib.run_next_end_at wr (w9.heap.size + 1) s pos ty hit hp
      have hfin : bs = R := by
        have h := hacc.out
        rw [drop_nil s pos hp, wideL_nil, List.append_nil] at h
        exact h
      have HF := Lib.hid hfin
      have cc : wr.cell? ⟨w9.heap.size, 0, none⟩ = some (.slice A bs.length c) := (blk_cell hEd.cell 0).trans rfl
      have HCC := Lib.hid hC
      have HLC := Lib.hid hlc
      have HBB := Lib.hid hEd.bel
      clear hacc HR hfin hEd hit hC hlc HE
      go_wp2
      go_ret2
      rw [← HF.out]
      exact ⟨A, c, rfl, HCC.out, HLC.out, HBB.out⟩
set_option maxRecDepth 100000 in
set_option maxHeartbeats 4000000 in
theorem xchar_Encode.calls (a0 : ByteArray) (a1 : Bool) (r1 : List Int) (r2 : Int) (w : World) (HL : Laid w) (h : xchar_Encode.f a0 a1 = some (r1, r2)) :
    Calls Tryz.prog 8 #[.string a0, .bool a1] w (BytesPost w r1 r2) := by
  unfold xchar_Encode.f at h
  split at h
  · rename_i hz
    have nilC : ∀ W : World, Kd.C (Kd.int .u8) W none ([] : List Int).length [] := fun W => ⟨rfl, by simp, fun h => by simp at h⟩
    split at h
    · rename_i hv
      simp only [Option.some.injEq, Prod.mk.injEq] at h
      obtain ⟨rfl, rfl⟩ := h
      have HV := Lib.hid (utf8_ValidString.calls a0 false w HL (by unfold utf8_ValidString.f; rw [if_pos (by omega), hv]))
      clear hv
      go_enter Tryz.func8, Tryz.ntmps8
      go_wp2_with (go_at_call 18; refine HV.out.mono ?_; rintro e w1 ⟨rfl, hb1⟩)
      go_ret2
      exact ⟨none, 0, rfl, nilC _, Nat.le_refl _, hb1⟩
    · rename_i hv
      have hv' : Lib.validD a0.data.toList = true := by simpa using hv
      have HV := Lib.hid (utf8_ValidString.calls a0 true w HL (by unfold utf8_ValidString.f; rw [if_pos (by omega), hv']))
      clear hv
      split at h
      · rename_i hg
        simp only [Option.some.injEq, Prod.mk.injEq] at h
        obtain ⟨rfl, rfl⟩ := h
        have hgt : decide ((a0.size : Int) > 32768) = true := decide_eq_true (by omega)
        have hgt2 : decide (32768 < (a0.size : Int)) = true := decide_eq_true (by omega)
        clear hv'
        go_enter Tryz.func8, Tryz.ntmps8
        go_wp2_with (go_at_call 18; refine HV.out.mono ?_; rintro e w1 ⟨rfl, hb1⟩)
        go_ret2
        exact ⟨none, 0, rfl, nilC _, Nat.le_refl _, hb1⟩
      · rename_i hg
        split at h
        · rename_i hw
          subst hw
          simp only [Option.some.injEq, Prod.mk.injEq] at h
          obtain ⟨h1, rfl⟩ := h
          have HH := Lib.hid h1
          clear h1 hv'
          have hgt : decide ((a0.size : Int) > 32768) = false := decide_eq_false (by omega)
          have hgt2 : decide (32768 < (a0.size : Int)) = false := decide_eq_false (by omega)
          have kb := fun W => print_bytes (P := Tryz.prog) 9 28 5 Tryz.underlying9 Tryz.underlying28 Tryz.underlying5 a0 W
          go_enter Tryz.func8, Tryz.ntmps8
          go_wp2_with (go_at_call 18; refine HV.out.mono ?_; rintro e w1 ⟨rfl, hb1⟩)
          go_ret2
          have hle : a0.size ≤ grownCap w1 a0.size 0 5 := grownCap_ge _ _ _ _
          have hC := Kd.C_of_reads (d := (0 : Int)) (h1 := fun _ => rfl) (bytes_reads w1 5 a0 (by omega))
          rw [← HH.out]
          have e2 : (bytesOf a0).length = a0.size := bytesOf_length a0
          refine ⟨some ⟨w1.heap.size, 0, none⟩, grownCap w1 a0.size 0 5, by rw [e2]; rfl, ?_, by rw [e2]; exact hle, bytes_below hb1 hb1.size _ _⟩
          rw [e2]
          exact hC
        · rename_i hw
          have hw' : a1 = true := by simpa using hw
          subst hw'
          simp only [Option.some.injEq, Prod.mk.injEq] at h
          obtain ⟨rfl, rfl⟩ := h
          exact encode_wide a0 w HL (by omega) hv'
  · cases h

end Go.Proofs.YthedigbdkjcpfaaGreatDoor.Print
