-- Laid by xprint.py (ours), out of the seat's translation; Lean checks it.
import Derived.Test.YtinefoocajnhmaaDoorPrint0
import Derived.Test.YtinefoocajnhmaaDoorPrintf26
import Derived.Test.YtinefoocajnhmaaDoorPrintlaw01live
import Derived.LoopTactic
import Derived.Lib.Hide
import Derived.Deep.QuietTactic
import Derived.BigQuiet
namespace Go.Proofs.YtinefoocajnhmaaDoor.Print
open Go.RowKit Go.Proofs.YtinefoocajnhmaaDoorW.PrintWords Go.Proofs.YtinefoocajnhmaaDoorW.PrintLast Go.Proofs.YtinefoocajnhmaaDoorW.PrintMore
attribute [local go_sem] max2_int min2_int max_two min_two max_three min_three max_four min_four   -- for this text's walks alone
open Go.Proofs.YtinefoocajnhmaaDoor.Plain
set_option linter.unusedVariables false
set_option linter.unusedSimpArgs false

-- GIVEN stencil/stencillaw01.XcharLines making
def bomB (s : ByteArray) : Bool := decide (s.data.toList.take 3 = [239, 187, 191])
def againB (s : ByteArray) : ByteArray := if bomB s = true then s.extract 3 s.size else s
theorem againB_cases (s : ByteArray) : againB s = if bomB s = true then s.extract 3 s.size else s := rfl
theorem pre3 (s : ByteArray) : (s.extract 0 3).toList = s.data.toList.take 3 := by
  rw [Lib.toList_data, Lib.extract_data]; simp
theorem bom_yes (s : ByteArray) (h : bomB s = true) : 3 ≤ s.size ∧ ((s.extract 0 3).toList == [239, 187, 191]) = true := by
  unfold bomB at h
  have h1 := of_decide_eq_true h
  refine ⟨?_, by rw [pre3, h1]; rfl⟩
  have h2 := congrArg List.length h1
  rw [List.length_take, Array.length_toList] at h2
  have h3 : s.data.size = s.size := rfl
  simp only [List.length_cons, List.length_nil] at h2
  omega
theorem bom_no (s : ByteArray) (h : ¬ bomB s = true) (_ : 3 ≤ s.size) : ((s.extract 0 3).toList == [239, 187, 191]) = false := by
  rw [pre3]
  refine beq_eq_false_iff_ne.2 fun e => h ?_
  unfold bomB
  exact decide_eq_true e
def stencillaw01_XcharLines.f (l0 : List Int) : Option Bool := (xchar_Decode.f l0).bind fun x =>
  if x.2.1 = 0 then
    if x.1.size ≤ 1000000000 ∧ 13 ∉ x.1.data.toList then (xchar_Decode.f (bytesOf x.1)).bind fun y =>
      if 32768 < x.1.size ∨ (y.2.1 = 0 ∧ y.1 = againB x.1) then some true else none
    else none
  else if x.1 = ⟨#[]⟩ then some true else none
set_option maxRecDepth 100000 in
set_option maxHeartbeats 4000000 in
theorem stencillaw01_XcharLines.calls (A0 : Option Addr) (c0 : Nat) (l0 : List Int) (r : Bool) (w : World) (hr0 : Kd.C (Kd.int .u8) w A0 l0.length l0) (hc0 : l0.length ≤ c0) (HLD : Laid w) (h : stencillaw01_XcharLines.f l0 = some r) :
    Calls Tryd.prog 11 #[.slice A0 l0.length c0] w fun e w' => e = .returned (.bool r) ∧ Below w.heap.size w w' := by
  unfold stencillaw01_XcharLines.f at h
  obtain ⟨⟨s, e1, p1⟩, hD, h⟩ := Option.bind_eq_some_iff.1 h
  have HD := Lib.hid (xchar_Decode.calls A0 c0 l0 s e1 p1 w hr0 hc0 HLD hD)
  clear hD
  simp only at h
  split at h
  · rename_i he
    subst he
    split at h
    · rename_i hs
      obtain ⟨hsz, hs⟩ := hs
      obtain ⟨⟨t, e2, p2⟩, hD2, h⟩ := Option.bind_eq_some_iff.1 h
      have HD2 := Lib.hid hD2
      simp only at h
      split at h
      · rename_i hc
        obtain rfl := Option.some.inj h
        have HC := Lib.hid hc
        have HS : Hid (∀ i (hi : i < s.size), ((s[i].toNat : Int) == 13) = false) := by
          intro i hi
          refine beq_eq_false_iff_ne.2 fun e => hs ?_
          have h1 : s[i] = 13 := UInt8.toNat_inj.1 (show s[i].toNat = (13 : UInt8).toNat by show _ = 13; omega)
          rw [← h1]
          exact Array.getElem_mem_toList (h := hi)
        have hbl : (bytesOf s).length = s.size := bytesOf_length s
        clear hc h hs hD2
        go_enter Tryd.func11, Tryd.ntmps11
        go_wp2_with (go_at_call 26; (with_reducible refine HD.out.mono ?_); rintro e w1 ⟨rfl, hb1⟩; have HB1 := Lib.hid hb1; clear hb1)
        go_loop [6] (fun v6 => ∃ k : Nat, k ≤ s.size ∧ v6 = .int .i64 (k : Int)) (fun v6 => s.size - (intOf v6).toNat)
        case atStart => exact ⟨0, Nat.zero_le _, rfl⟩
        case round =>
          obtain ⟨k, hk, rfl⟩ := hrel
          by_cases hlt : k < s.size
          · have hne := HS.out k hlt
            go_wp2
            go_round
            case rel => exact ⟨k + 1, by omega, by go_num⟩
            case measure => simp [intOf]; omega
          · have kb := fun W => print_bytes (P := Tryd.prog) 9 37 5 Tryd.underlying9 Tryd.underlying37 Tryd.underlying5 s W
            have hC := Kd.C_of_reads (d := (0 : Int)) (h1 := fun _ => rfl) (bytes_reads w1 5 s (by omega))
            have hle : s.size ≤ grownCap w1 s.size 0 5 := grownCap_ge _ _ _ _
            have hB2 : Below w.heap.size w (Lib.bytesWorld w1 5 s) := bytes_below HB1.out HB1.out.size _ _
            have cD := xchar_Decode.calls (some ⟨w1.heap.size, 0, none⟩) (grownCap w1 s.size 0 5) (bytesOf s) t e2 p2 (Lib.bytesWorld w1 5 s) (by rw [hbl]; exact hC) (by rw [hbl]; exact hle) (HLD.below hB2) HD2.out
            rw [hbl] at cD
            have HCD := Lib.hid cD
            have HB2 := Lib.hid hB2
            clear hC hle hB2 cD hbl
            go_wp2_with (go_at_call 26; (with_reducible refine HCD.out.mono ?_); rintro e w3 ⟨rfl, hb3⟩; have HB3 := Lib.hid hb3; clear hb3)
            have HLV := Lib.hid ((HLD.below HB2.out).below HB3.out)
            have HBE := Lib.hid (HB2.out.then_ HB3.out)
            have hag := againB_cases s
            by_cases hbm : bomB s = true
            · rw [if_pos hbm] at hag
              obtain ⟨h3, g3⟩ := bom_yes s hbm
              have g1 : decide ((s.size : Int) ≥ 3) = true := decide_eq_true (by omega)
              have g2 : decide (3 ≤ (s.size : Int)) = true := decide_eq_true (by omega)
              rw [hag] at HC
              clear hbm hag
              by_cases hbig : 32768 < s.size
              · have k1 : decide ((s.size : Int) > 32768) = true := decide_eq_true (by omega)
                have k2 : decide (32768 < (s.size : Int)) = true := decide_eq_true (by omega)
                go_quiet (fail)
                go_wp2_with (go_at_call 28; (with_reducible refine (stencillaw01_live.calls true _ (by first | exact HLV.out | exact HLV.out.drewN _) rfl).mono ?_); rintro e w4 ⟨rfl, hb4⟩; have HB4 := Lib.hid hb4; clear hb4)
                go_ret
                exact ⟨rfl, (pw_below_drewN HBE.out _).then_ HB4.out⟩
              · obtain ⟨rfl, rfl⟩ := HC.out.resolve_left hbig
                have k1 : decide ((s.size : Int) > 32768) = false := decide_eq_false (by omega)
                have k2 : decide (32768 < (s.size : Int)) = false := decide_eq_false (by omega)
                go_quiet (fail)
                go_wp2_with (go_at_call 28; (with_reducible refine (stencillaw01_live.calls true _ (by first | exact HLV.out | exact HLV.out.drewN _) rfl).mono ?_); rintro e w4 ⟨rfl, hb4⟩; have HB4 := Lib.hid hb4; clear hb4)
                go_ret
                exact ⟨rfl, (pw_below_drewN HBE.out _).then_ HB4.out⟩
            · rw [if_neg hbm] at hag
              rw [hag] at HC
              have hno := bom_no s hbm
              clear hbm hag
              by_cases h3 : 3 ≤ s.size
              · have g3 := hno h3
                have g1 : decide ((s.size : Int) ≥ 3) = true := decide_eq_true (by omega)
                have g2 : decide (3 ≤ (s.size : Int)) = true := decide_eq_true (by omega)
                by_cases hbig : 32768 < s.size
                · have k1 : decide ((s.size : Int) > 32768) = true := decide_eq_true (by omega)
                  have k2 : decide (32768 < (s.size : Int)) = true := decide_eq_true (by omega)
                  go_quiet (fail)
                  go_wp2_with (go_at_call 28; (with_reducible refine (stencillaw01_live.calls true _ (by first | exact HLV.out | exact HLV.out.drewN _) rfl).mono ?_); rintro e w4 ⟨rfl, hb4⟩; have HB4 := Lib.hid hb4; clear hb4)
                  go_ret
                  exact ⟨rfl, (pw_below_drewN HBE.out _).then_ HB4.out⟩
                · obtain ⟨rfl, rfl⟩ := HC.out.resolve_left hbig
                  have k1 : decide ((t.size : Int) > 32768) = false := decide_eq_false (by omega)
                  have k2 : decide (32768 < (t.size : Int)) = false := decide_eq_false (by omega)
                  go_quiet (fail)
                  go_wp2_with (go_at_call 28; (with_reducible refine (stencillaw01_live.calls true _ (by first | exact HLV.out | exact HLV.out.drewN _) rfl).mono ?_); rintro e w4 ⟨rfl, hb4⟩; have HB4 := Lib.hid hb4; clear hb4)
                  go_ret
                  exact ⟨rfl, (pw_below_drewN HBE.out _).then_ HB4.out⟩
              · have g1 : decide ((s.size : Int) ≥ 3) = false := decide_eq_false (by omega)
                have g2 : decide (3 ≤ (s.size : Int)) = false := decide_eq_false (by omega)
                have hbig : ¬ 32768 < s.size := by omega
                obtain ⟨rfl, rfl⟩ := HC.out.resolve_left hbig
                have k1 : decide ((t.size : Int) > 32768) = false := decide_eq_false (by omega)
                have k2 : decide (32768 < (t.size : Int)) = false := decide_eq_false (by omega)
                go_quiet (fail)
                go_wp2_with (go_at_call 28; (with_reducible refine (stencillaw01_live.calls true _ (by first | exact HLV.out | exact HLV.out.drewN _) rfl).mono ?_); rintro e w4 ⟨rfl, hb4⟩; have HB4 := Lib.hid hb4; clear hb4)
                go_ret
                exact ⟨rfl, (pw_below_drewN HBE.out _).then_ HB4.out⟩
      · cases h
    · cases h
  · rename_i he
    split at h
    · rename_i hs
      obtain rfl := Option.some.inj h
      subst hs
      have hne : (e1 != 0) = true := by simpa using he
      go_enter Tryd.func11, Tryd.ntmps11
      go_wp2_with (first
        | (go_at_call 26; (with_reducible refine HD.out.mono ?_); rintro e w1 ⟨rfl, hb1⟩; have HB1 := Lib.hid hb1; clear hb1)
        | (go_at_call 28; (with_reducible refine (stencillaw01_live.calls true _ (HLD.below HB1.out) rfl).mono ?_); rintro e w3 ⟨rfl, hb3⟩; have HB3 := Lib.hid hb3; clear hb3))
      go_ret
      exact ⟨rfl, HB1.out.then_ HB3.out⟩
    · cases h

end Go.Proofs.YtinefoocajnhmaaDoor.Print
