-- Laid by xprint.py (ours), out of the seat's translation; Lean checks it.
import Derived.Test.YthedigbdkjcpfaaGreatDoorPrint0
import Derived.Test.YthedigbdkjcpfaaGreatDoorPrintf16
import Derived.Test.YthedigbdkjcpfaaGreatDoorPrintlibcut
import Derived.Test.YthedigbdkjcpfaaGreatDoorPrintf28
import Derived.Lib.Hide
import Derived.Lib.ParseIntB
import Derived.Lib.SlTrimSet
import Derived.Test.YthedigbdkjcpfaaGreatDoorShelf
namespace Go.Proofs.YthedigbdkjcpfaaGreatDoor.Print
open Go.RowKit Go.Proofs.YthedigbdkjcpfaaGreatDoorW.PrintWords Go.Proofs.YthedigbdkjcpfaaGreatDoorW.PrintLast Go.Proofs.YthedigbdkjcpfaaGreatDoorW.PrintMore
attribute [local go_sem] max2_int min2_int max_two min_two max_three min_three max_four min_four   -- for this text's walks alone
open Go.Proofs.YthedigbdkjcpfaaGreatDoor.Plain
set_option linter.unusedVariables false
set_option linter.unusedSimpArgs false

-- GIVEN stencil/xnum.Parse making
/-- what xnum.Parse reckons on a text without blanks and sign: the whole part and the places, behind them noughts, six of them -/
def parseC (u : List UInt8) (below : Bool) : Option (Int × Int) :=
  if (Lib.cut u [46]).1 ++ (Lib.cut u [46]).2.1 = [] then some (1, 0)
  else if Lib.trimS ((Lib.cut u [46]).1 ++ (Lib.cut u [46]).2.1) [48, 49, 50, 51, 52, 53, 54, 55, 56, 57] = [] then
    match Lib.parseUintB 64 ((Lib.cut u [46]).1 ++ ((Lib.cut u [46]).2.1 ++ [48, 48, 48, 48, 48, 48]).take 6) with
    | .ok n => xnum_fin.f n below
    | .range => xnum_inf.f below
    | _ => none
  else some (1, 0)
def xnum_Parse.f (a0 : ByteArray) : Option (Int × Int) :=
  if a0.size ≤ 1073741824 then parseC (Lib.trimPrefix (Lib.trimS a0.data.toList [9, 10, 13, 32]) [45]) (Lib.hasPrefix (Lib.trimS a0.data.toList [9, 10, 13, 32]) [45]) else none
theorem trimLeftS_le (l c : List UInt8) : (Lib.trimLeftS l c).length ≤ l.length := by unfold Lib.trimLeftS; exact (List.dropWhile_sublist _).length_le
theorem trimS_le (l c : List UInt8) : (Lib.trimS l c).length ≤ l.length := by
  unfold Lib.trimS Lib.trimRightS
  refine Nat.le_trans (trimLeftS_le _ _) ?_
  rw [List.length_reverse]
  refine Nat.le_trans (List.dropWhile_sublist _).length_le ?_
  rw [List.length_reverse]
  exact Nat.le_refl _
theorem cut_le (l c : List UInt8) : (Lib.cut l c).1.length + (Lib.cut l c).2.1.length ≤ l.length := by
  unfold Lib.cut
  split
  · simp only [List.length_take, List.length_drop]
    omega
  · simp
theorem bytes_of (l : List UInt8) : ∃ B : ByteArray, B = ⟨l.toArray⟩ ∧ B.data.toList = l ∧ B.size = l.length := ⟨_, rfl, rfl, by show l.toArray.size = _; simp⟩
theorem toList_of {B : ByteArray} {l : List UInt8} (h : B.data.toList = l) : B.toList = l := by rw [Lib.toList_data]; exact h
set_option maxRecDepth 100000 in
set_option maxHeartbeats 4000000 in
theorem xnum_Parse.calls (a0 : ByteArray) (r1 r2 : Int) (w : World) (HLD : Laid w) (h : xnum_Parse.f a0 = some (r1, r2)) :
    Calls Tryz.prog 10 #[.string a0] w fun e w' => e = .returned (.agg #[.int .i64 r1, .int .i64 r2]) ∧ Below w.heap.size w w' := by
  unfold xnum_Parse.f at h
  split at h
  · rename_i hsz
    have l1 := trimS_le a0.data.toList [9, 10, 13, 32]
    have hd : a0.data.toList.length = a0.size := by rw [Array.length_toList]; rfl
    rw [hd] at l1
    obtain ⟨T, eT, dT, sT⟩ := bytes_of (Lib.trimS a0.data.toList [9, 10, 13, 32])
    have K1 : Hid (∀ W, Calls Tryz.prog 26 #[.string a0, .string ⟨#[9, 10, 13, 32]⟩] W fun e w' => e = .returned (.string T) ∧ Below W.heap.size W w') := Lib.hid fun W => by
      rw [eT]
      exact Tryz.strings_Trim_laid a0 ⟨#[9, 10, 13, 32]⟩ W (by omega) (by decide) (Go.Proofs.ascii_of_all (by decide))
    generalize hTL : Lib.trimS a0.data.toList [9, 10, 13, 32] = tl at *
    have l2 := Lib.trimPrefix_le tl [45]
    obtain ⟨U, eU, dU, sU⟩ := bytes_of (Lib.trimPrefix tl [45])
    have K2 : Hid (∀ W, Calls Tryz.prog 25 #[.string T, .string ⟨#[45]⟩] W fun e w' => e = .returned (.tuple #[.string U, .bool (Lib.hasPrefix tl [45])]) ∧ w' = W) := Lib.hid fun W => by
      have K := Tryz.strings_CutPrefix T ⟨#[45]⟩ W
      rw [dT] at K
      rw [eU]
      exact K
    generalize hbl : Lib.hasPrefix tl [45] = bl at *
    generalize hul : Lib.trimPrefix tl [45] = u at *
    have l3 := cut_le u [46]
    unfold parseC at h
    obtain ⟨P, eP, dP, sP⟩ := bytes_of (Lib.cut u [46]).1
    obtain ⟨Q, eQ, dQ, sQ⟩ := bytes_of (Lib.cut u [46]).2.1
    have K3 : Hid (∀ W, Laid W → Calls Tryz.prog 27 #[.string U, .string ⟨#[46]⟩] W fun e w' => e = .returned (.tuple #[.string P, .string Q, .bool (Lib.cut u [46]).2.2]) ∧ Drawn0 W w') := Lib.hid fun W HW => by
      refine strings_Cut.calls U ⟨#[46]⟩ P Q (Lib.cut u [46]).2.2 W HW ?_
      unfold strings_Cut.f
      rw [if_pos (by omega), dU, eP, eQ]
    generalize (Lib.cut u [46]).2.2 = b3 at *
    generalize hp : (Lib.cut u [46]).1 = p at *
    generalize hq : (Lib.cut u [46]).2.1 = q at *
    have ePQ : (P ++ Q).data.toList = p ++ q := by rw [← dP, ← dQ]; simp
    have sPQ : (P ++ Q).size = P.size + Q.size := ByteArray.size_append
    have g1 : P.size + Q.size ≤ 9223372036854775807 := by omega
    have g1b : decide (P.size + Q.size ≤ 9223372036854775807) = true := decide_eq_true g1
    have g1c : (9223372036854775807 < P.size + Q.size) = False := eq_false (by omega)
    have sm : P.size + Q.size ≤ 1073741824 := by omega
    clear eT eU eP eQ hTL hul hbl hp hq l1 l2 l3
    have HB := Aside0.mk (Below.refl w.heap.size w)
    by_cases hz : p ++ q = []
    · rw [if_pos hz] at h
      have z1 : (P ++ Q).toList = [] := by rw [toList_of ePQ, hz]
      have z2 : ((P ++ Q).toList == []) = true := by rw [z1]; rfl
      have HN := Lib.hid fun (W : World) (hl : Laid W) => xnum_nan.calls r1 r2 W hl h
      clear h hz
      go_enter Tryz.func10, Tryz.ntmps10
      go_wp2_with (first
        | ((with_reducible refine gate_dst (N := 2) rfl ?_); refine box_event ?hg (N := 2) ?hd (cs := #[.int .i64 0, .int .i64 0]) (t := 24) ?hr ?_; (case hd => rfl); (case hg => rfl); (case hr => first | (go_simp; done) | (go_simp; rfl)); intro gb hg w5 hbox hb; have GE := Aside0.mk ((by rw [hg]; exact below_size HB.out) : w.heap.size ≤ gb); replace HB := zs HB hb; have BK := Aside0.mk hbox; clear hb hbox hg)
        | (go_at_call 26; (with_reducible refine (K1.out _).mono ?_); rintro e w1 ⟨rfl, hb1⟩; replace HB := zs HB hb1; replace BK := zb BK hb1; clear hb1)
        | (go_at_call 25; (with_reducible refine (K2.out _).mono ?_); rintro e w2 ⟨rfl, hw2⟩; subst hw2)
        | (go_at_call 27; (with_reducible refine (K3.out _ (HLD.below HB.out)).mono ?_); rintro e w3 ⟨rfl, ⟨n3, rfl⟩⟩; replace HB := Aside0.mk (pw_below_drewN HB.out n3); replace BK := Aside0.mk (blk_drewN BK.out n3))
        | (go_at_call 28; (with_reducible refine (HN.out _ (HLD.below HB.out)).mono ?_); rintro e w4 ⟨rfl, hb4⟩; replace HB := zs HB hb4; replace BK := zb BK hb4; clear hb4; have hc0 : w4.cell? ⟨gb, 0, none⟩ = some (.int .i64 0) := (blk_cell BK.out 0).trans rfl; have hc1 : w4.cell? ⟨gb, 1, none⟩ = some (.int .i64 0) := (blk_cell BK.out 1).trans rfl; have hf0 := blk_frozen BK.out 0; have hf1 := blk_frozen BK.out 1))
      refine bodyPost_ret (results_cell_row rfl _ _ gb 24 #[.int .i64 r1, .int .i64 r2] (0, 0) _ rfl (by refine blk_put (cs := #[.int .i64 r1, .int .i64 0]) ?_ 1 _ rfl; refine blk_put (cs := #[.int .i64 0, .int .i64 0]) ?_ 0 _ rfl; exact BK.out) Tryz.underlying24 rfl (by kernel_rfl)) rfl ?_
      exact ⟨rfl, below_set (below_set HB.out GE.out) GE.out⟩
    · rw [if_neg hz] at h
      have z1 : ¬ (P ++ Q).toList = [] := by rw [toList_of ePQ]; exact hz
      have z2 : ((P ++ Q).toList == []) = false := by rw [beq_eq_false_iff_ne]; exact z1
      obtain ⟨R, eR, dR, sR⟩ := bytes_of (Lib.trimS (p ++ q) [48, 49, 50, 51, 52, 53, 54, 55, 56, 57])
      have K4 : Hid (∀ W, Calls Tryz.prog 26 #[.string (P ++ Q), .string ⟨#[48, 49, 50, 51, 52, 53, 54, 55, 56, 57]⟩] W fun e w' => e = .returned (.string R) ∧ Below W.heap.size W w') := Lib.hid fun W => by
        rw [eR, ← ePQ]
        exact Tryz.strings_Trim_laid (P ++ Q) ⟨#[48, 49, 50, 51, 52, 53, 54, 55, 56, 57]⟩ W (by rw [sPQ]; omega) (by decide) (Go.Proofs.ascii_of_all (by decide))
      clear eR sR
      by_cases hr : Lib.trimS (p ++ q) [48, 49, 50, 51, 52, 53, 54, 55, 56, 57] = []
      · rw [if_pos hr] at h
        have y1 : R.toList = [] := by rw [toList_of dR, hr]
        have y2 : (R.toList == []) = true := by rw [y1]; rfl
        have y3 : (R.toList != []) = false := by rw [y1]; rfl
        have g2 : Q.size + 6 ≤ 9223372036854775807 := by omega
        have g2b : decide (Q.size + 6 ≤ 9223372036854775807) = true := decide_eq_true g2
        have g2c : (9223372036854775807 < Q.size + 6) = False := eq_false (by omega)
        clear hr dR
        have eW : ((Q ++ (⟨#[48, 48, 48, 48, 48, 48]⟩ : ByteArray)).extract 0 6).data.toList = (q ++ [48, 48, 48, 48, 48, 48]).take 6 := by
          rw [Lib.extract_data]
          simp [dQ]
        have eA : (P ++ (Q ++ (⟨#[48, 48, 48, 48, 48, 48]⟩ : ByteArray)).extract 0 6).data.toList = p ++ (q ++ [48, 48, 48, 48, 48, 48]).take 6 := by
          rw [← eW, ← dP]
          simp
        have sA : (P ++ (Q ++ (⟨#[48, 48, 48, 48, 48, 48]⟩ : ByteArray)).extract 0 6).size ≤ P.size + 6 := by
          rw [ByteArray.size_append, ByteArray.size_extract]
          omega
        have g3 : P.size + ((Q ++ (⟨#[48, 48, 48, 48, 48, 48]⟩ : ByteArray)).extract 0 6).size ≤ 9223372036854775807 := by
          rw [ByteArray.size_extract]
          omega
        cases hU : Lib.parseUintB 64 (p ++ (q ++ [48, 48, 48, 48, 48, 48]).take 6) with
        | ok n =>
          rw [hU] at h
          have K5 : Hid (∀ W, Laid W → Calls Tryz.prog 29 #[.string (P ++ (Q ++ ⟨#[48, 48, 48, 48, 48, 48]⟩).extract 0 6), .int .i64 10, .int .i64 64] W fun e w' => e = .returned (.tuple #[.int .u64 n, .nilIface]) ∧ Below W.heap.size W w') := Lib.hid fun W _ => by
            refine (Tryz.strconv_ParseUint_10_at64_ok _ (by omega) n (by rw [eA]; exact hU) W).mono ?_
            rintro e w' ⟨rfl, hw | hw⟩
            · subst hw; exact ⟨rfl, Below.refl _ _⟩
            · subst hw; exact ⟨rfl, Lib.bytesWorld_below _ _ _⟩
          have HN := Lib.hid fun (W : World) (hl : Laid W) => xnum_fin.calls n bl r1 r2 W hl h
          clear h hz hU eW eA sA
          go_enter Tryz.func10, Tryz.ntmps10
          go_wp2_with (first
            | ((with_reducible refine gate_dst (N := 2) rfl ?_); refine box_event ?hg (N := 2) ?hd (cs := #[.int .i64 0, .int .i64 0]) (t := 24) ?hr ?_; (case hd => rfl); (case hg => rfl); (case hr => first | (go_simp; done) | (go_simp; rfl)); intro gb hg w5 hbox hb; have GE := Aside0.mk ((by rw [hg]; exact below_size HB.out) : w.heap.size ≤ gb); replace HB := zs HB hb; have BK := Aside0.mk hbox; clear hb hbox hg)
            | (go_at_call 26; (with_reducible refine (K1.out _).mono ?_); rintro e w1 ⟨rfl, hb1⟩; replace HB := zs HB hb1; replace BK := zb BK hb1; clear hb1)
            | (go_at_call 25; (with_reducible refine (K2.out _).mono ?_); rintro e w2 ⟨rfl, hw2⟩; subst hw2)
            | (go_at_call 27; (with_reducible refine (K3.out _ (HLD.below HB.out)).mono ?_); rintro e w3 ⟨rfl, ⟨n3, rfl⟩⟩; replace HB := Aside0.mk (pw_below_drewN HB.out n3); replace BK := Aside0.mk (blk_drewN BK.out n3))
            | (go_at_call 26; (with_reducible refine (K4.out _).mono ?_); rintro e w6 ⟨rfl, hb6⟩; replace HB := zs HB hb6; replace BK := zb BK hb6; clear hb6)
            | (go_at_call 29; (with_reducible refine (K5.out _ (HLD.below HB.out)).mono ?_); rintro e w7 ⟨rfl, hb7⟩; replace HB := zs HB hb7; replace BK := zb BK hb7; clear hb7)
            | (go_at_call 30; (with_reducible refine (HN.out _ (HLD.below HB.out)).mono ?_); rintro e w4 ⟨rfl, hb4⟩; replace HB := zs HB hb4; replace BK := zb BK hb4; clear hb4; have hc0 : w4.cell? ⟨gb, 0, none⟩ = some (.int .i64 0) := (blk_cell BK.out 0).trans rfl; have hc1 : w4.cell? ⟨gb, 1, none⟩ = some (.int .i64 0) := (blk_cell BK.out 1).trans rfl; have hf0 := blk_frozen BK.out 0; have hf1 := blk_frozen BK.out 1))
          refine bodyPost_ret (results_cell_row rfl _ _ gb 24 #[.int .i64 r1, .int .i64 r2] (0, 0) _ rfl (by refine blk_put (cs := #[.int .i64 r1, .int .i64 0]) ?_ 1 _ rfl; refine blk_put (cs := #[.int .i64 0, .int .i64 0]) ?_ 0 _ rfl; exact BK.out) Tryz.underlying24 rfl (by kernel_rfl)) rfl ?_
          exact ⟨rfl, below_set (below_set HB.out GE.out) GE.out⟩
        | range =>
          rw [hU] at h
          have K5 : Hid (∀ W, Laid W → Calls Tryz.prog 29 #[.string (P ++ (Q ++ ⟨#[48, 48, 48, 48, 48, 48]⟩).extract 0 6), .int .i64 10, .int .i64 64] W fun e w' => (∃ N, e = .returned (.tuple #[.int .u64 18446744073709551615, .iface 129 (.pointer (some ⟨N, 0, none⟩))])) ∧ Below W.heap.size W w') := Lib.hid fun W HW => by
            obtain ⟨tp, pv, hv⟩ := HW.errR
            refine (Tryz.strconv_ParseUint_10_at64_range _ (by omega) (by rw [eA]; exact hU) _ W hv (Or.inr ⟨tp, pv, rfl⟩)).mono ?_
            rintro e w' ⟨N, rfl, _, _, hb⟩
            exact ⟨⟨N, rfl⟩, hb⟩
          have HN := Lib.hid fun (W : World) (hl : Laid W) => xnum_inf.calls bl r1 r2 W hl h
          clear h hz hU eW eA sA
          go_enter Tryz.func10, Tryz.ntmps10
          go_wp2_with (first
            | ((with_reducible refine gate_dst (N := 2) rfl ?_); refine box_event ?hg (N := 2) ?hd (cs := #[.int .i64 0, .int .i64 0]) (t := 24) ?hr ?_; (case hd => rfl); (case hg => rfl); (case hr => first | (go_simp; done) | (go_simp; rfl)); intro gb hg w5 hbox hb; have GE := Aside0.mk ((by rw [hg]; exact below_size HB.out) : w.heap.size ≤ gb); replace HB := zs HB hb; have BK := Aside0.mk hbox; clear hb hbox hg)
            | (go_at_call 26; (with_reducible refine (K1.out _).mono ?_); rintro e w1 ⟨rfl, hb1⟩; replace HB := zs HB hb1; replace BK := zb BK hb1; clear hb1)
            | (go_at_call 25; (with_reducible refine (K2.out _).mono ?_); rintro e w2 ⟨rfl, hw2⟩; subst hw2)
            | (go_at_call 27; (with_reducible refine (K3.out _ (HLD.below HB.out)).mono ?_); rintro e w3 ⟨rfl, ⟨n3, rfl⟩⟩; replace HB := Aside0.mk (pw_below_drewN HB.out n3); replace BK := Aside0.mk (blk_drewN BK.out n3))
            | (go_at_call 26; (with_reducible refine (K4.out _).mono ?_); rintro e w6 ⟨rfl, hb6⟩; replace HB := zs HB hb6; replace BK := zb BK hb6; clear hb6)
            | (go_at_call 29; (with_reducible refine (K5.out _ (HLD.below HB.out)).mono ?_); rintro e w7 ⟨⟨N7, rfl⟩, hb7⟩; replace HB := zs HB hb7; replace BK := zb BK hb7; clear hb7)
            | (go_at_call 17; (with_reducible refine (HN.out _ (HLD.below HB.out)).mono ?_); rintro e w4 ⟨rfl, hb4⟩; replace HB := zs HB hb4; replace BK := zb BK hb4; clear hb4; have hc0 : w4.cell? ⟨gb, 0, none⟩ = some (.int .i64 0) := (blk_cell BK.out 0).trans rfl; have hc1 : w4.cell? ⟨gb, 1, none⟩ = some (.int .i64 0) := (blk_cell BK.out 1).trans rfl; have hf0 := blk_frozen BK.out 0; have hf1 := blk_frozen BK.out 1))
          refine bodyPost_ret (results_cell_row rfl _ _ gb 24 #[.int .i64 r1, .int .i64 r2] (0, 0) _ rfl (by refine blk_put (cs := #[.int .i64 r1, .int .i64 0]) ?_ 1 _ rfl; refine blk_put (cs := #[.int .i64 0, .int .i64 0]) ?_ 0 _ rfl; exact BK.out) Tryz.underlying24 rfl (by kernel_rfl)) rfl ?_
          exact ⟨rfl, below_set (below_set HB.out GE.out) GE.out⟩
        | _ => rw [hU] at h; cases h
      · rw [if_neg hr] at h
        have y1 : ¬ R.toList = [] := by rw [toList_of dR]; exact hr
        have y2 : (R.toList == []) = false := by rw [beq_eq_false_iff_ne]; exact y1
        have y3 : (R.toList != []) = true := by rw [bne, y2]; rfl
        have HN := Lib.hid fun (W : World) (hl : Laid W) => xnum_nan.calls r1 r2 W hl h
        clear h hz hr dR
        go_enter Tryz.func10, Tryz.ntmps10
        go_wp2_with (first
          | ((with_reducible refine gate_dst (N := 2) rfl ?_); refine box_event ?hg (N := 2) ?hd (cs := #[.int .i64 0, .int .i64 0]) (t := 24) ?hr ?_; (case hd => rfl); (case hg => rfl); (case hr => first | (go_simp; done) | (go_simp; rfl)); intro gb hg w5 hbox hb; have GE := Aside0.mk ((by rw [hg]; exact below_size HB.out) : w.heap.size ≤ gb); replace HB := zs HB hb; have BK := Aside0.mk hbox; clear hb hbox hg)
          | (go_at_call 26; (with_reducible refine (K1.out _).mono ?_); rintro e w1 ⟨rfl, hb1⟩; replace HB := zs HB hb1; replace BK := zb BK hb1; clear hb1)
          | (go_at_call 25; (with_reducible refine (K2.out _).mono ?_); rintro e w2 ⟨rfl, hw2⟩; subst hw2)
          | (go_at_call 27; (with_reducible refine (K3.out _ (HLD.below HB.out)).mono ?_); rintro e w3 ⟨rfl, ⟨n3, rfl⟩⟩; replace HB := Aside0.mk (pw_below_drewN HB.out n3); replace BK := Aside0.mk (blk_drewN BK.out n3))
          | (go_at_call 26; (with_reducible refine (K4.out _).mono ?_); rintro e w6 ⟨rfl, hb6⟩; replace HB := zs HB hb6; replace BK := zb BK hb6; clear hb6)
          | (go_at_call 28; (with_reducible refine (HN.out _ (HLD.below HB.out)).mono ?_); rintro e w4 ⟨rfl, hb4⟩; replace HB := zs HB hb4; replace BK := zb BK hb4; clear hb4; have hc0 : w4.cell? ⟨gb, 0, none⟩ = some (.int .i64 0) := (blk_cell BK.out 0).trans rfl; have hc1 : w4.cell? ⟨gb, 1, none⟩ = some (.int .i64 0) := (blk_cell BK.out 1).trans rfl; have hf0 := blk_frozen BK.out 0; have hf1 := blk_frozen BK.out 1))
        refine bodyPost_ret (results_cell_row rfl _ _ gb 24 #[.int .i64 r1, .int .i64 r2] (0, 0) _ rfl (by refine blk_put (cs := #[.int .i64 r1, .int .i64 0]) ?_ 1 _ rfl; refine blk_put (cs := #[.int .i64 0, .int .i64 0]) ?_ 0 _ rfl; exact BK.out) Tryz.underlying24 rfl (by kernel_rfl)) rfl ?_
        exact ⟨rfl, below_set (below_set HB.out GE.out) GE.out⟩
  · cases h

end Go.Proofs.YthedigbdkjcpfaaGreatDoor.Print
