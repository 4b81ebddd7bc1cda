-- Laid by xprint.py (ours), out of the seat's translation; Lean checks it.
import Derived.Test.YtinefoocajnhmaaDoorPrint0
import Derived.Test.YtinefoocajnhmaaDoorPrintf55
import Derived.Test.YtinefoocajnhmaaDoorPrintf26
import Derived.Test.YtinefoocajnhmaaDoorPrintlaw01live
import Derived.Test.YtinefoocajnhmaaDoorPrintxcharencode
import Derived.LoopTactic
import Derived.Lib.Hide
namespace Go.Proofs.YtinefoocajnhmaaDoor.Print
open Go.RowKit Go.Proofs.YtinefoocajnhmaaDoorW.PrintWords Go.Proofs.YtinefoocajnhmaaDoorW.PrintLast Go.Proofs.YtinefoocajnhmaaDoorW.PrintMore
attribute [local go_sem] max2_int min2_int max_two min_two max_three min_three max_four min_four   -- for this text's walks alone
open Go.Proofs.YtinefoocajnhmaaDoor.Plain
set_option linter.unusedVariables false
set_option linter.unusedSimpArgs false

-- GIVEN stencil/stencillaw01.XcharBack rounds making
def markB (s : ByteArray) : Bool := decide (s.data.toList.take 3 = [239, 187, 191])
theorem mark_pre (s : ByteArray) : (s.extract 0 3).toList = s.data.toList.take 3 := by
  rw [Lib.toList_data, Lib.extract_data]; simp
theorem mark_yes (s : ByteArray) (h : markB s = true) : 3 ≤ s.size ∧ ((s.extract 0 3).toList == [239, 187, 191]) = true := by
  unfold markB at h
  have h1 := of_decide_eq_true h
  refine ⟨?_, by rw [mark_pre, h1]; rfl⟩
  have h2 := congrArg List.length h1
  rw [List.length_take, Array.length_toList] at h2
  have h3 : s.data.size = s.size := rfl
  simp only [List.length_cons, List.length_nil] at h2
  omega
theorem mark_no (s : ByteArray) (h : ¬ markB s = true) (_ : 3 ≤ s.size) : ((s.extract 0 3).toList == [239, 187, 191]) = false := by
  rw [mark_pre]
  refine beq_eq_false_iff_ne.2 fun e => h ?_
  unfold markB
  exact decide_eq_true e
theorem ne13_step {s : ByteArray} {j : Nat} (hlt : j < s.size) (h : ∀ i (hi : i < s.size), i < j → s[i] ≠ 13) (h13 : ¬ s[j] = 13) : ∀ i (hi : i < s.size), i < j + 1 → s[i] ≠ 13 := by
  intro i hi h2
  by_cases h1 : i < j
  · exact h i hi h1
  · obtain rfl : i = j := by omega
    exact h13
def stencillaw01_XcharBack.f (k : Nat) (a0 : ByteArray) (a1 : Bool) : Option Bool := (xchar_Encode.f a0 a1).bind fun x =>
  if x.2 = 0 then (stencilref01_IsText.f k a0).bind fun t =>
    if t = true then
      if a0.size ≤ 1000000000 then
        if 32768 < x.1.length then some true
        else if 13 ∈ a0.data.toList then some true
        else if markB a0 = true then some true
        else (xchar_Decode.f x.1).bind fun y => if y = (a0, 0, 0) then some true else none
      else none
    else some true
  else some true
set_option maxRecDepth 100000 in
set_option maxHeartbeats 8000000 in
theorem stencillaw01_XcharBack.calls (k : Nat) (a0 : ByteArray) (a1 : Bool) (r : Bool) (w : World) (HLD : Laid w) (h : stencillaw01_XcharBack.f k a0 a1 = some r) :
    Calls Tryd.prog 15 #[.string a0, .bool a1] w fun e w' => e = .returned (.bool r) ∧ Below w.heap.size w w' := by
  unfold stencillaw01_XcharBack.f at h
  obtain ⟨⟨l, n⟩, hE, h⟩ := Option.bind_eq_some_iff.1 h
  have HE := Lib.hid hE
  simp only at h
  have HLIV := fun (W : World) (hl : Laid W) => stencillaw01_live.calls true W hl rfl
  have HLI := Lib.hid HLIV
  clear hE HLIV
  split at h
  · rename_i hn
    subst hn
    obtain ⟨t, hT, h⟩ := Option.bind_eq_some_iff.1 h
    have HT := Lib.hid hT
    clear hT
    split at h
    · rename_i ht
      subst ht
      split at h
      · rename_i hz
        split at h
        · rename_i hg
          obtain rfl := Option.some.inj h
          have k1 : decide ((l.length : Int) > 32768) = true := decide_eq_true (by omega)
          have k2 : decide (32768 < (l.length : Int)) = true := decide_eq_true (by omega)
          have k3 : decide (32768 < l.length) = true := decide_eq_true (by omega)
          clear h
          go_enter Tryd.func15, Tryd.ntmps15
          go_wp2_with (first
            | (go_at_call 46; (with_reducible refine (xchar_Encode.calls a0 a1 l 0 _ HLD HE.out).mono ?_); rintro e w1 ⟨A1, c1, rfl, hC1, hl1, hb1⟩; have HB1 := Lib.hid hb1; clear hC1 hl1 hb1)
            | (go_at_call 25; (with_reducible refine (stencilref01_IsText.calls k a0 true _ (HLD.below HB1.out) HT.out).mono ?_); rintro e w2 ⟨rfl, hb2⟩; have HB2 := Lib.hid hb2; clear hb2)
            | (go_at_call 28; (with_reducible refine (HLI.out _ ((HLD.below HB1.out).below HB2.out)).mono ?_); rintro e w3 ⟨rfl, hb3⟩; have HB3 := Lib.hid hb3; clear hb3))
          go_ret
          exact ⟨rfl, HB1.out.then_ (HB2.out.then_ HB3.out)⟩
        · rename_i hg
          have k1 : decide ((l.length : Int) > 32768) = false := decide_eq_false (by omega)
          have k2 : decide (32768 < (l.length : Int)) = false := decide_eq_false (by omega)
          have k3 : decide (32768 < l.length) = false := decide_eq_false (by omega)
          have HH := Lib.hid h
          clear h
          go_enter Tryd.func15, Tryd.ntmps15
          go_wp2_with (first
            | (go_at_call 46; (with_reducible refine (xchar_Encode.calls a0 a1 l 0 _ HLD HE.out).mono ?_); rintro e w1 ⟨A1, c1, rfl, hC1, hl1, hb1⟩; have HB1 := Lib.hid hb1; have HC1 := Lib.hid hC1; have HL1 := Lib.hid hl1; clear hC1 hl1 hb1)
            | (go_at_call 25; (with_reducible refine (stencilref01_IsText.calls k a0 true _ (HLD.below HB1.out) HT.out).mono ?_); rintro e w2 ⟨rfl, hb2⟩; have HB2 := Lib.hid hb2; clear hb2))
          clear k1 k2 k3
          have HLW := Lib.hid ((HLD.below HB1.out).below HB2.out)
          have HBW := Lib.hid (HB1.out.then_ HB2.out)
          go_loop [7] (fun v7 => ∃ j : Nat, j ≤ a0.size ∧ v7 = .int .i64 (j : Int) ∧ Hid (∀ i (hi : i < a0.size), i < j → a0[i] ≠ 13)) (fun v7 => a0.size - (intOf v7).toNat)
          case atStart => exact ⟨0, Nat.zero_le _, rfl, Lib.hid (fun i _ h => by omega)⟩
          case round =>
            obtain ⟨j, hj, rfl, HN⟩ := hrel
            by_cases hlt : j < a0.size
            · by_cases h13 : a0[j] = 13
              · have hmem : 13 ∈ a0.data.toList := by rw [← h13]; exact Array.getElem_mem_toList (h := hlt)
                have h2 := HH.out
                rw [if_pos hmem] at h2
                obtain rfl := Option.some.inj h2
                have hne : ((a0[j].toNat : Int) == 13) = true := by rw [h13]; rfl
                clear hmem h2 h13
                go_wp2_with (go_at_call 28; (with_reducible refine (HLI.out _ HLW.out).mono ?_); rintro e w3 ⟨rfl, hb3⟩; have HB3 := Lib.hid hb3; clear hb3)
                go_ret
                exact ⟨rfl, HBW.out.then_ HB3.out⟩
              · have hne : ((a0[j].toNat : Int) == 13) = false := by
                  refine beq_eq_false_iff_ne.2 fun e => h13 ?_
                  exact UInt8.toNat_inj.1 (show a0[j].toNat = (13 : UInt8).toNat by show _ = 13; omega)
                have H13 := Lib.hid h13
                clear h13
                go_wp2
                go_round
                case rel => exact ⟨j + 1, by omega, by go_num, Lib.hid (ne13_step hlt HN.out H13.out)⟩
                case measure => simp [intOf]; omega
            · have hmem : ¬ 13 ∈ a0.data.toList := by
                intro hm
                obtain ⟨i, hi, he⟩ := List.mem_iff_getElem.1 hm
                have hi2 : i < a0.size := by rw [Array.length_toList] at hi; exact hi
                exact HN.out i hi2 (by omega) he
              have h2 := HH.out
              rw [if_neg hmem] at h2
              clear hmem HH
              by_cases hm : markB a0 = true
              · rw [if_pos hm] at h2
                obtain rfl := Option.some.inj h2
                obtain ⟨h3, g3⟩ := mark_yes a0 hm
                have g1 : decide ((a0.size : Int) ≥ 3) = true := decide_eq_true (by omega)
                have g2 : decide (3 ≤ (a0.size : Int)) = true := decide_eq_true (by omega)
                clear hm h2
                go_wp2_with (go_at_call 28; (with_reducible refine (HLI.out _ HLW.out).mono ?_); rintro e w3 ⟨rfl, hb3⟩; have HB3 := Lib.hid hb3; clear hb3)
                go_ret
                exact ⟨rfl, HBW.out.then_ HB3.out⟩
              · rw [if_neg hm] at h2
                obtain ⟨y, hD, h2⟩ := Option.bind_eq_some_iff.1 h2
                split at h2
                · rename_i hy
                  subst hy
                  obtain rfl := Option.some.inj h2
                  have hno := mark_no a0 hm
                  have cD := xchar_Decode.calls A1 c1 l a0 0 0 w2 (Kd.C_below HC1.out HB2.out) HL1.out HLW.out hD
                  have HCD := Lib.hid cD
                  clear hm cD hD h2
                  by_cases h3 : 3 ≤ a0.size
                  · have g3 := hno h3
                    have g1 : decide ((a0.size : Int) ≥ 3) = true := decide_eq_true (by omega)
                    have g2 : decide (3 ≤ (a0.size : Int)) = true := decide_eq_true (by omega)
                    clear hno
                    go_wp2_with (first
                      | (go_at_call 26; (with_reducible refine HCD.out.mono ?_); rintro e w3 ⟨rfl, hb3⟩; have HB3 := Lib.hid hb3; clear hb3)
                      | (go_at_call 28; (with_reducible refine (HLI.out _ (HLW.out.below HB3.out)).mono ?_); rintro e w4 ⟨rfl, hb4⟩; have HB4 := Lib.hid hb4; clear hb4))
                    go_ret
                    exact ⟨rfl, HBW.out.then_ (HB3.out.then_ HB4.out)⟩
                  · have g1 : decide ((a0.size : Int) ≥ 3) = false := decide_eq_false (by omega)
                    have g2 : decide (3 ≤ (a0.size : Int)) = false := decide_eq_false (by omega)
                    clear hno
                    go_wp2_with (first
                      | (go_at_call 26; (with_reducible refine HCD.out.mono ?_); rintro e w3 ⟨rfl, hb3⟩; have HB3 := Lib.hid hb3; clear hb3)
                      | (go_at_call 28; (with_reducible refine (HLI.out _ (HLW.out.below HB3.out)).mono ?_); rintro e w4 ⟨rfl, hb4⟩; have HB4 := Lib.hid hb4; clear hb4))
                    go_ret
                    exact ⟨rfl, HBW.out.then_ (HB3.out.then_ HB4.out)⟩
                · cases h2
      · cases h
    · rename_i ht
      have ht' : t = false := by simpa using ht
      subst ht'
      obtain rfl := Option.some.inj h
      clear ht h
      go_enter Tryd.func15, Tryd.ntmps15
      go_wp2_with (first
        | (go_at_call 46; (with_reducible refine (xchar_Encode.calls a0 a1 l 0 _ HLD HE.out).mono ?_); rintro e w1 ⟨A1, c1, rfl, hC1, hl1, hb1⟩; have HB1 := Lib.hid hb1; clear hC1 hl1 hb1)
        | (go_at_call 25; (with_reducible refine (stencilref01_IsText.calls k a0 false _ (HLD.below HB1.out) HT.out).mono ?_); rintro e w2 ⟨rfl, hb2⟩; have HB2 := Lib.hid hb2; clear hb2)
        | (go_at_call 28; (with_reducible refine (HLI.out _ ((HLD.below HB1.out).below HB2.out)).mono ?_); rintro e w3 ⟨rfl, hb3⟩; have HB3 := Lib.hid hb3; clear hb3))
      go_ret
      exact ⟨rfl, HB1.out.then_ (HB2.out.then_ HB3.out)⟩
  · rename_i hn
    obtain rfl := Option.some.inj h
    have hne : (n != 0) = true := by simpa using hn
    clear h hn
    go_enter Tryd.func15, Tryd.ntmps15
    go_wp2_with (first
      | (go_at_call 46; (with_reducible refine (xchar_Encode.calls a0 a1 l n _ HLD HE.out).mono ?_); rintro e w1 ⟨A1, c1, rfl, hC1, hl1, hb1⟩; have HB1 := Lib.hid hb1; clear hC1 hl1 hb1)
      | (go_at_call 28; (with_reducible refine (HLI.out _ (HLD.below HB1.out)).mono ?_); rintro e w3 ⟨rfl, hb3⟩; have HB3 := Lib.hid hb3; clear hb3))
    go_ret
    exact ⟨rfl, HB1.out.then_ HB3.out⟩

end Go.Proofs.YtinefoocajnhmaaDoor.Print
