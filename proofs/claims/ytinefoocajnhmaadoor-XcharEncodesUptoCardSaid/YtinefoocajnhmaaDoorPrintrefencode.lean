-- Laid by xprint.py (ours), out of the seat's translation; Lean checks it.
import Derived.Test.YtinefoocajnhmaaDoorPrint0
import Derived.Test.YtinefoocajnhmaaDoorPrintlibdecode
import Derived.Test.YtinefoocajnhmaaDoorPrintlibvalid
import Derived.Test.YtinefoocajnhmaaDoorPrintxcharencode
import Derived.LoopTactic
import Derived.Lib.Hide
import Derived.Laws.BitsLemmas
import Derived.Test.YtinefoocajnhmaaDoorPlain
namespace Go.Proofs.YtinefoocajnhmaaDoor.Print
open Go.RowKit Go.Proofs.YtinefoocajnhmaaDoorW.PrintWords Go.Proofs.YtinefoocajnhmaaDoorW.PrintLast Go.Proofs.YtinefoocajnhmaaDoorW.PrintMore
attribute [local go_sem] max2_int min2_int max_two min_two max_three min_three max_four min_four   -- for this text's walks alone
open Go.Proofs.YtinefoocajnhmaaDoor.Plain
set_option linter.unusedVariables false
set_option linter.unusedSimpArgs false

-- GIVEN stencil/stencilref01.Encode making
def stencilref01_Encode.f (a0 : ByteArray) (a1 : Bool) : Option (List Int × Int) := xchar_Encode.f a0 a1
theorem len_four (bs : List Int) (a b c d : Int) : (bs ++ [a, b, c, d]).length = bs.length + 4 := by simp
def slotAt : Value → Nat
  | .int _ i => i.toNat
  | _ => 0
set_option maxRecDepth 100000 in
set_option maxHeartbeats 8000000 in
theorem encode_ref_wide (s : ByteArray) (w : World) (HL : Laid w) (hz : s.size ≤ 32768) (hv : Lib.validD s.data.toList = true) :
    Calls Tryd.prog 47 #[.string s, .bool true] w (BytesPost w ([254, 255] ++ wideL s.size s.data.toList) 0) := by
  obtain ⟨R, hR⟩ : ∃ R, [254, 255] ++ wideL s.size s.data.toList = R := ⟨_, rfl⟩
  rw [hR]
  have HR := Lib.hid hR
  clear hR
  have cV := utf8_ValidString.calls s true w HL (by unfold utf8_ValidString.f; rw [if_pos (by omega), hv])
  have HV := Lib.hid cV
  have hgt : decide ((s.size : Int) > 32768) = false := decide_eq_false (by omega)
  have hgt2 : decide (32768 < (s.size : Int)) = false := decide_eq_false (by omega)
  clear cV hv
  go_enter Tryd.func47, Tryd.ntmps47
  go_wp2_with (first
    | (go_at_call 66; refine HV.out.mono ?_; rintro e w1 ⟨rfl, hb1⟩; have HB1 := Lib.hid hb1; clear hb1)
    | ((with_reducible refine gate_dst (N := 24) rfl ?_); refine Kd.R_lit (Kd.int .u8) _ 5 ?hg (N := 24) ?hd (xs := [254, 255]) (inner := [.int .u8 254, .int .u8 255]) (ok := fun _ => True) (okp := fun _ => True) ?hr ?hp (fun _ hk => hk) trivial (Below.refl _ _) (Nat.le_refl _) (by simp) ?_; (case hd => rfl); (case hg => rfl); (case hr => first | (go_simp; done) | (go_simp; rfl)); (case hp => exact Reps.one (show Kd.M (Kd.int .u8) _ _ _ 254 [.int .u8 254] from rfl) (Reps.one (show Kd.M (Kd.int .u8) _ _ _ 255 [.int .u8 255] from rfl) (Reps.none _ _))); intro v9 w9 ho9 hb9 hg9 hat9; have HO9 := Lib.hid ho9; have HB9 := Lib.hid hb9; clear ho9 hb9 hg9 hat9))
  have hsz9 : w1.heap.size ≤ w9.heap.size := HB9.out.size
  have hsz1 : w.heap.size ≤ w1.heap.size := HB1.out.size
  go_loopw [6, 7] (fun v6 v7 wr => ∃ (pos fuel : Nat) (bs : List Int), v7 = .int .i64 (pos : Int) ∧ Hid ((Kd.int .u8).R 5 wr w.heap.size (fun _ => True) v6 bs) ∧ Hid (Below w.heap.size w wr) ∧ Hid (bs ++ wideL fuel (s.data.toList.drop pos) = R) ∧ s.size ≤ pos + fuel ∧ bs.length ≤ 4 * pos + 2 ∧ pos ≤ s.size) (fun _ v7 _ => s.size - slotAt v7)
  case atStart => exact ⟨0, s.size, [254, 255], rfl, Lib.hid (Kd.R_lower HO9.out hsz1), Lib.hid (HB1.out.then_ HB9.out), HR, by omega, by simp, by omega⟩
  case round =>
    obtain ⟨pos, fuel, bs, rfl, HO, HB, hacc, hfu, hbl, hpl⟩ := hrel
    by_cases hp : pos < s.size
    · obtain ⟨r, N, hd, hdl, hN, hr⟩ := decode_facts s pos
      obtain ⟨f, rfl⟩ : ∃ f, fuel = f + 1 := ⟨fuel - 1, by omega⟩
      have hacc' := hacc.out
      rw [wideL, if_neg (drop_ne s pos hp), hdl] at hacc'
      simp only [List.drop_drop] at hacc'
      have hin := decode_in s pos r N hp hdl
      have HG : Hid (Lib.decodeGo (s.extract pos s.size) = (r, N)) := (decodeGo_at s pos hp).trans hd
      have cD := utf8_DecodeRuneInString.calls (s.extract pos s.size) r N wr (HL.below HB.out) (by unfold utf8_DecodeRuneInString.f; rw [HG.out])
      have HC := Lib.hid cD
      have HA := Lib.hid hacc'
      have hb0 : w.heap.size ≤ wr.heap.size := HB.out.size
      clear cD hacc hd hdl HR hacc'
      by_cases hlt : (r : Int) < 65536
      · have hdec : decide ((r : Int) > 65535) = false := decide_eq_false (by omega)
        have hdec2 : decide (65535 < (r : Int)) = false := decide_eq_false (by omega)
        have d0 : 0 ≤ (r : Int) / 256 := by omega
        have d1 : (r : Int) / 256 < 256 := by omega
        go_wp2_with (first
          | (go_at_call 51; refine HC.out.mono ?_; rintro e w2 ⟨rfl, hb2⟩; have HB2 := Lib.hid hb2; clear hb2)
          | ((with_reducible refine gate_dst (N := 68) rfl ?_); refine Kd.R_lit (Kd.int .u8) _ 5 ?hg (N := 68) ?hd (xs := [(r : Int) / 256, (r : Int) % 256]) (inner := [.int .u8 ((r : Int) / 256), .int .u8 ((r : Int) % 256)]) (ok := fun _ => True) (okp := fun _ => True) ?hr ?hp (fun _ hk => hk) trivial (Below.refl _ _) (Nat.le_refl _) (by simp) ?_; (case hd => rfl); (case hg => rfl); (case hr => first | (go_simp; done) | (go_simp; rfl)); (case hp => exact Reps.one (show Kd.M (Kd.int .u8) _ _ _ ((r : Int) / 256) [.int .u8 ((r : Int) / 256)] from rfl) (Reps.one (show Kd.M (Kd.int .u8) _ _ _ ((r : Int) % 256) [.int .u8 ((r : Int) % 256)] from rfl) (Reps.none _ _))); intro v9 w9 ho9 hb9 hg9 hat9; obtain ⟨A9, c9, rfl, hl9, hC9⟩ := Kd.R_reads ho9; have HC9 := Lib.hid hC9; have HB9 := Lib.hid hb9; clear ho9 hb9 hg9 hat9 hC9 hl9)
          | ((with_reducible refine gate_builtin (b := .append) (xs := #[.tmp 62, .tmp 68]) rfl ?_); at_builtin; refine Kd.R_append_rows (Kd.int .u8) (w0 := w) w.heap.size rfl (.tmp 62) (.tmp 68) 37 5 (.int .u8 0) 1 rfl Tryd.underlying37 info5 rfl (by decide) (by omega) _ bs [(r : Int) / 256, (r : Int) % 256] _ _ _ (fun _ => True) (fun _ => False) rfl rfl ?aO ?aR (fun _ _ h => h) (fun _ h => h.elim) (fun _ _ => trivial) ?aB ?aS ?aL ?_; (case aR => exact HC9.out); (case aB => exact (HB.out.then_ HB2.out).then_ HB9.out); (case aO => exact Kd.R_below (Kd.R_below HO.out HB2.out) HB9.out); (case aS => exact (by have := HB2.out.size; have := HB9.out.size; omega)); (case aL => exact (by simp only [List.length_cons, List.length_nil]; omega)); intro v1 w5 ho hb hg hat; have HO5 := Lib.hid ho; have HB5 := Lib.hid hb; clear ho hb hg hat))
        go_roundw
        case rel => exact ⟨pos + N, f, _, by congr 1, HO5, HB5, Lib.hid (by rw [List.append_assoc]; have h := HA.out; unfold units16 at h; rw [if_pos hlt] at h; exact h), by omega, by rw [len_two]; omega, by omega⟩
        case measure => simp only [slotAt]; omega
      · have hdec : decide ((r : Int) > 65535) = true := decide_eq_true (by omega)
        have hdec2 : decide (65535 < (r : Int)) = true := decide_eq_true (by omega)
        have hq0 : 0 ≤ (r : Int) - 65536 := by omega
        have hq1 : (r : Int) - 65536 ≤ 1048575 := by omega
        obtain ⟨b1, b2, b3, b4⟩ := bnd_lo hq0 hq1
        have hand : bits .and .i32 ((r : Int) - 65536) 1023 = ((r : Int) - 65536) % 1024 := bits_mask .i32 31 (by decide) wraps_i32 10 (by decide) _ hq0 (by omega)
        obtain ⟨a, ha⟩ : ∃ a, 55296 + ((r : Int) - 65536) / 1024 = a := ⟨_, rfl⟩
        obtain ⟨b, hb⟩ : ∃ b, 56320 + ((r : Int) - 65536) % 1024 = b := ⟨_, rfl⟩
        have a0 : 0 ≤ a / 256 := by omega
        have a1 : a / 256 < 256 := by omega
        have c0 : 0 ≤ b / 256 := by omega
        have c1 : b / 256 < 256 := by omega
        go_wp2_with (first
          | (go_at_call 51; refine HC.out.mono ?_; rintro e w2 ⟨rfl, hb2⟩; have HB2 := Lib.hid hb2; clear hb2)
          | ((with_reducible refine gate_dst (N := 60) rfl ?_); refine Kd.R_lit (Kd.int .u8) _ 5 ?hg (N := 60) ?hd (xs := [a / 256, a % 256, b / 256, b % 256]) (inner := [.int .u8 (a / 256), .int .u8 (a % 256), .int .u8 (b / 256), .int .u8 (b % 256)]) (ok := fun _ => True) (okp := fun _ => True) ?hr ?hp (fun _ hk => hk) trivial (Below.refl _ _) (Nat.le_refl _) (by simp) ?_; (case hd => rfl); (case hg => rfl); (case hr => first | (go_simp; done) | (go_simp; rfl)); (case hp => exact Reps.one (show Kd.M (Kd.int .u8) _ _ _ (a / 256) [.int .u8 (a / 256)] from rfl) (Reps.one (show Kd.M (Kd.int .u8) _ _ _ (a % 256) [.int .u8 (a % 256)] from rfl) (Reps.one (show Kd.M (Kd.int .u8) _ _ _ (b / 256) [.int .u8 (b / 256)] from rfl) (Reps.one (show Kd.M (Kd.int .u8) _ _ _ (b % 256) [.int .u8 (b % 256)] from rfl) (Reps.none _ _))))); intro v9 w9 ho9 hb9 hg9 hat9; obtain ⟨A9, c9, rfl, hl9, hC9⟩ := Kd.R_reads ho9; have HC9 := Lib.hid hC9; have HB9 := Lib.hid hb9; clear ho9 hb9 hg9 hat9 hC9 hl9)
          | ((with_reducible refine gate_builtin (b := .append) (xs := #[.tmp 49, .tmp 60]) rfl ?_); at_builtin; refine Kd.R_append_rows (Kd.int .u8) (w0 := w) w.heap.size rfl (.tmp 49) (.tmp 60) 37 5 (.int .u8 0) 1 rfl Tryd.underlying37 info5 rfl (by decide) (by omega) _ bs [a / 256, a % 256, b / 256, b % 256] _ _ _ (fun _ => True) (fun _ => False) rfl rfl ?aO ?aR (fun _ _ h => h) (fun _ h => h.elim) (fun _ _ => trivial) ?aB ?aS ?aL ?_; (case aR => exact HC9.out); (case aB => exact (HB.out.then_ HB2.out).then_ HB9.out); (case aO => exact Kd.R_below (Kd.R_below HO.out HB2.out) HB9.out); (case aS => exact (by have := HB2.out.size; have := HB9.out.size; omega)); (case aL => exact (by simp only [List.length_cons, List.length_nil]; omega)); intro v1 w5 ho hb hg hat; have HO5 := Lib.hid ho; have HB5 := Lib.hid hb; clear ho hb hg hat))
        go_roundw
        case rel => exact ⟨pos + N, f, _, by congr 1, HO5, HB5, Lib.hid (by rw [List.append_assoc]; have h := HA.out; unfold units16 at h; rw [if_neg (show ¬ ((r : Int) < 65536) by omega), ha, hb] at h; exact h), by omega, by rw [len_four]; omega, by omega⟩
        case measure => simp only [slotAt]; omega
    · obtain ⟨A, c, rfl, hlc, hC⟩ := Kd.R_reads HO.out
      have hfin : bs = R := by
        have h := hacc.out
        rw [drop_nil s pos hp, wideL_nil, List.append_nil] at h
        exact h
      have HF := Lib.hid hfin
      have HCC := Lib.hid hC
      have HLC := Lib.hid hlc
      clear hacc HR hfin hC hlc
      go_wp2
      go_ret2
      rw [← HF.out]
      exact ⟨A, c, rfl, HCC.out, HLC.out, HB.out⟩
set_option maxRecDepth 100000 in
set_option maxHeartbeats 4000000 in
theorem stencilref01_Encode.calls (a0 : ByteArray) (a1 : Bool) (r1 : List Int) (r2 : Int) (w : World) (HL : Laid w) (h : stencilref01_Encode.f a0 a1 = some (r1, r2)) :
    Calls Tryd.prog 47 #[.string a0, .bool a1] w (BytesPost w r1 r2) := by
  unfold stencilref01_Encode.f xchar_Encode.f at h
  split at h
  · rename_i hz
    have nilC : ∀ W : World, Kd.C (Kd.int .u8) W none ([] : List Int).length [] := fun W => ⟨rfl, by simp, fun h => by simp at h⟩
    split at h
    · rename_i hv
      simp only [Option.some.injEq, Prod.mk.injEq] at h
      obtain ⟨rfl, rfl⟩ := h
      have HV := Lib.hid (utf8_ValidString.calls a0 false w HL (by unfold utf8_ValidString.f; rw [if_pos (by omega), hv]))
      clear hv
      go_enter Tryd.func47, Tryd.ntmps47
      go_wp2_with (go_at_call 66; refine HV.out.mono ?_; rintro e w1 ⟨rfl, hb1⟩)
      go_ret2
      exact ⟨none, 0, rfl, nilC _, Nat.le_refl _, hb1⟩
    · rename_i hv
      have hv' : Lib.validD a0.data.toList = true := by simpa using hv
      have HV := Lib.hid (utf8_ValidString.calls a0 true w HL (by unfold utf8_ValidString.f; rw [if_pos (by omega), hv']))
      clear hv
      split at h
      · rename_i hg
        simp only [Option.some.injEq, Prod.mk.injEq] at h
        obtain ⟨rfl, rfl⟩ := h
        have hgt : decide ((a0.size : Int) > 32768) = true := decide_eq_true (by omega)
        have hgt2 : decide (32768 < (a0.size : Int)) = true := decide_eq_true (by omega)
        clear hv'
        go_enter Tryd.func47, Tryd.ntmps47
        go_wp2_with (go_at_call 66; refine HV.out.mono ?_; rintro e w1 ⟨rfl, hb1⟩)
        go_ret2
        exact ⟨none, 0, rfl, nilC _, Nat.le_refl _, hb1⟩
      · rename_i hg
        split at h
        · rename_i hw
          subst hw
          simp only [Option.some.injEq, Prod.mk.injEq] at h
          obtain ⟨h1, rfl⟩ := h
          have HH := Lib.hid h1
          clear h1 hv'
          have hgt : decide ((a0.size : Int) > 32768) = false := decide_eq_false (by omega)
          have hgt2 : decide (32768 < (a0.size : Int)) = false := decide_eq_false (by omega)
          have kb := fun W => print_bytes (P := Tryd.prog) 9 37 5 Tryd.underlying9 Tryd.underlying37 Tryd.underlying5 a0 W
          go_enter Tryd.func47, Tryd.ntmps47
          go_wp2_with (go_at_call 66; refine HV.out.mono ?_; rintro e w1 ⟨rfl, hb1⟩)
          go_ret2
          have hle : a0.size ≤ grownCap w1 a0.size 0 5 := grownCap_ge _ _ _ _
          have hC := Kd.C_of_reads (d := (0 : Int)) (h1 := fun _ => rfl) (bytes_reads w1 5 a0 (by omega))
          rw [← HH.out]
          have e2 : (bytesOf a0).length = a0.size := bytesOf_length a0
          refine ⟨some ⟨w1.heap.size, 0, none⟩, grownCap w1 a0.size 0 5, by first | (rw [e2]; done) | (rw [e2]; rfl), ?_, by rw [e2]; exact hle, bytes_below hb1 hb1.size _ _⟩
          rw [e2]
          exact hC
        · rename_i hw
          have hw' : a1 = true := by simpa using hw
          subst hw'
          simp only [Option.some.injEq, Prod.mk.injEq] at h
          obtain ⟨rfl, rfl⟩ := h
          exact encode_ref_wide a0 w HL (by omega) hv'
  · cases h

end Go.Proofs.YtinefoocajnhmaaDoor.Print
