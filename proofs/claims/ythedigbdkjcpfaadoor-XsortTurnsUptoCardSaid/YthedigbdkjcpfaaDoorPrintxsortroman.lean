-- Laid by xprint.py (ours), out of the seat's translation; Lean checks it.
import Derived.Test.YthedigbdkjcpfaaDoorPrint0
import Derived.Test.YthedigbdkjcpfaaDoorPrintlibrepeat
import Derived.LoopTactic
import Derived.Lib.Hide
import Derived.Deep.QuietTactic
import Derived.BigQuiet
namespace Go.Proofs.YthedigbdkjcpfaaDoor.Print
open Go.RowKit Go.Proofs.YthedigbdkjcpfaaDoorW.PrintWords Go.Proofs.YthedigbdkjcpfaaDoorW.PrintLast Go.Proofs.YthedigbdkjcpfaaDoorW.PrintMore
attribute [local go_sem] max2_int min2_int max_two min_two max_three min_three max_four min_four   -- for this text's walks alone
open Go.Proofs.YthedigbdkjcpfaaDoor.Plain
set_option linter.unusedVariables false
set_option linter.unusedSimpArgs false

-- GIVEN stencil/xsort.Roman making
/-- the signs of one, five and ten at a place of the number -/
def rsign (i j : Nat) : ByteArray := ⟨#[([73, 86, 88, 76, 67, 68, 77, 32, 32] : List UInt8).getD (2 * i + j) 0]⟩
def rstep (i : Nat) (n : Int) : Option ByteArray := (strings_Repeat.f (rsign i 0) (Int.tmod n 5)).bind fun t => if t.size ≤ 1000000 then (if Int.tmod n 10 = 9 then some (rsign i 0 ++ rsign i 2) else if Int.tmod n 10 = 4 then some (rsign i 0 ++ rsign i 1) else if Int.tmod n 10 ≥ 5 then some (rsign i 1 ++ t) else some t) else none
def xsort_Roman.l0 : Nat → Nat → Int → ByteArray → Option ByteArray
  | 0, _, _, s => some s
  | r + 1, i, n, s => (rstep i n).bind fun g => if s.size ≤ 1000000 then xsort_Roman.l0 r (i + 1) (Int.tdiv n 10) (g ++ s) else none
def xsort_Roman.f (a0 : Int) : Option ByteArray := if a0 < 1 then some (⟨#[]⟩ : ByteArray) else if a0 > 3999 then some (⟨#[]⟩ : ByteArray) else xsort_Roman.l0 4 0 a0 (⟨#[]⟩ : ByteArray)
theorem tdiv_small {n : Int} (h0 : 0 ≤ n) (h1 : n ≤ 3999) : wrap64 (Int.tdiv n 10) = Int.tdiv n 10 ∧ 0 ≤ Int.tdiv n 10 ∧ Int.tdiv n 10 ≤ 3999 := by
  rw [Int.tdiv_eq_ediv_of_nonneg h0]
  unfold wrap64
  omega
set_option maxRecDepth 100000 in
set_option maxHeartbeats 8000000 in
theorem xsort_Roman.calls (a0 : Int) (r : ByteArray) (w : World) (HLD : Laid w) (h : xsort_Roman.f a0 = some r) :
    Calls Tryd.prog 11 #[.int .i64 a0] w fun e w' => e = .returned (.string r) ∧ Below w.heap.size w w' := by
  unfold xsort_Roman.f at h
  by_cases hl : a0 < 1
  · rw [if_pos hl] at h
    obtain rfl := Option.some.inj h
    have hn := decide_eq_true hl
    clear h hl
    go_enter Tryd.func11, Tryd.ntmps11
    go_wp2
    repeat (go_quiet (fail); try go_wp2)
    go_ret
    exact ⟨rfl, Below.refl _ _⟩
  · rw [if_neg hl] at h
    have hn := decide_eq_false hl
    by_cases hg : a0 > 3999
    · rw [if_pos hg] at h
      obtain rfl := Option.some.inj h
      have hn2 := decide_eq_true hg
      clear h hl hg
      go_enter Tryd.func11, Tryd.ntmps11
      go_wp2
      repeat (go_quiet (fail); try go_wp2)
      go_ret
      exact ⟨rfl, Below.refl _ _⟩
    · rw [if_neg hg] at h
      have hn2 := decide_eq_false hg
      have H0 := Lib.hid h
      have HA0 := Lib.hid (show 0 ≤ a0 ∧ a0 ≤ 3999 by omega)
      clear h hl hg
      go_enter Tryd.func11, Tryd.ntmps11
      go_wp2
      repeat (go_quiet (fail); try go_wp2)
      go_loopg [0, 3, 17] 5 (fun gq v0 v3 v17 w' => ∃ (n : Int) (s : ByteArray) (i : Nat), v0 = .int .i64 n ∧ v3 = .string s ∧ v17 = .int .i64 (i : Int) ∧ i ≤ 4 ∧ Hid (i + gq = 5) ∧ Hid (0 ≤ n ∧ n ≤ 3999) ∧ Hid (xsort_Roman.l0 (4 - i) i n s = some r) ∧ Hid (Below w.heap.size w w'))
      case atStart => exact ⟨a0, ⟨#[]⟩, 0, rfl, rfl, rfl, by omega, Lib.hid (by omega), HA0, H0, Lib.hid (Below.refl _ _)⟩
      case round =>
        clear H0 HA0 hn hn2
        obtain ⟨n, s, i, rfl, rfl, rfl, hi, HG, HN, HR, HB⟩ := hrel
        have hcase : i = 4 ∨ i = 0 ∨ i = 1 ∨ i = 2 ∨ i = 3 := by omega
        clear hi
        rcases hcase with rfl | rfl | rfl | rfl | rfl
        · obtain rfl := Option.some.inj HR.out
          go_wp2
          repeat (go_quiet (fail); try go_wp2)
          go_ret
          exact ⟨rfl, HB.out⟩
        · have HR2 := HR.out
          clear HR
          obtain ⟨g2, hg2⟩ : ∃ g2, gk = g2 + 1 := ⟨gk - 1, by have := HG.out; omega⟩
          have HG2 := Lib.hid hg2
          subst hg2
          rw [show 4 - 0 = 3 + 1 from rfl, xsort_Roman.l0] at HR2
          obtain ⟨g, hg, HR2⟩ := Option.bind_eq_some_iff.1 HR2
          unfold rstep at hg
          simp only [show rsign 0 0 = (⟨#[73]⟩ : ByteArray) from rfl, show rsign 0 1 = (⟨#[86]⟩ : ByteArray) from rfl, show rsign 0 2 = (⟨#[88]⟩ : ByteArray) from rfl] at hg
          obtain ⟨t, ht, hg⟩ := Option.bind_eq_some_iff.1 hg
          have HT := Lib.hid ht
          clear ht
          have ex : (⟨#[73, 86, 88, 76, 67, 68, 77, 32, 32]⟩ : ByteArray).extract 0 9 = (⟨#[73, 86, 88, 76, 67, 68, 77, 32, 32]⟩ : ByteArray) := by kernel_rfl
          have ex0 : (⟨#[73, 86, 88, 76, 67, 68, 77, 32, 32]⟩ : ByteArray).extract 0 1 = (⟨#[73]⟩ : ByteArray) := by kernel_rfl
          have ex1 : (⟨#[73, 86, 88, 76, 67, 68, 77, 32, 32]⟩ : ByteArray).extract 1 2 = (⟨#[86]⟩ : ByteArray) := by kernel_rfl
          have ex2 : (⟨#[73, 86, 88, 76, 67, 68, 77, 32, 32]⟩ : ByteArray).extract 2 3 = (⟨#[88]⟩ : ByteArray) := by kernel_rfl
          by_cases hts : t.size ≤ 1000000
          · rw [if_pos hts] at hg
            by_cases hss : s.size ≤ 1000000
            · rw [if_pos hss] at HR2
              have HR3 := Lib.hid HR2
              clear HR2
              have hd : Int.tmod n 10 = n % 10 := Int.tmod_eq_emod_of_nonneg HN.out.1
              have z1 : (9223372036854775807 < t.size + s.size) = False := eq_false (by omega)
              have z2 : (9223372036854775807 < 1 + t.size) = False := eq_false (by omega)
              have z3 : (9223372036854775807 < 1 + t.size + s.size) = False := eq_false (by omega)
              have z4 : (9223372036854775807 < 2 + s.size) = False := eq_false (by omega)
              have z5 : (9223372036854775807 < 1 + 1 + s.size) = False := eq_false (by omega)
              clear hts hss hd
              by_cases c9 : Int.tmod n 10 = 9
              · rw [if_pos c9] at hg
                obtain rfl := Option.some.inj hg
                have c9b : (Int.tmod n 10 == 9) = true := beq_iff_eq.mpr c9
                clear c9
                clear hg
                go_wp2
                go_quiet (fail)
                have HBq := Lib.hid (pw_below_drewN HB.out nq)
                generalize wr.drewN nq = wq at *
                go_wp2_with (first | (go_at_call 23; (with_reducible refine (strings_Repeat.calls _ _ t _ (HLD.below HBq.out) HT.out).mono ?_); rintro e w1 ⟨rfl, hb⟩; have HB1 := Lib.hid (HBq.out.then_ hb); clear hb))
                go_roundg g2
                case measure => omega
                case rel => exact ⟨_, _, 1, rfl, rfl, rfl, by omega, Lib.hid (by have := HG.out; omega), Lib.hid (by first | exact (tdiv_small HN.out.1 HN.out.2).2 | (rw [(tdiv_small HN.out.1 HN.out.2).1]; exact (tdiv_small HN.out.1 HN.out.2).2)), Lib.hid (by first | exact HR3.out | (rw [(tdiv_small HN.out.1 HN.out.2).1]; exact HR3.out)), HB1⟩
              · rw [if_neg c9] at hg
                have c9b : (Int.tmod n 10 == 9) = false := beq_eq_false_iff_ne.mpr c9
                clear c9
                by_cases c4 : Int.tmod n 10 = 4
                · rw [if_pos c4] at hg
                  obtain rfl := Option.some.inj hg
                  have c4b : (Int.tmod n 10 == 4) = true := beq_iff_eq.mpr c4
                  clear c4
                  clear hg
                  go_wp2
                  go_quiet (fail)
                  have HBq := Lib.hid (pw_below_drewN HB.out nq)
                  generalize wr.drewN nq = wq at *
                  go_wp2_with (first | (go_at_call 23; (with_reducible refine (strings_Repeat.calls _ _ t _ (HLD.below HBq.out) HT.out).mono ?_); rintro e w1 ⟨rfl, hb⟩; have HB1 := Lib.hid (HBq.out.then_ hb); clear hb))
                  go_roundg g2
                  case measure => omega
                  case rel => exact ⟨_, _, 1, rfl, rfl, rfl, by omega, Lib.hid (by have := HG.out; omega), Lib.hid (by first | exact (tdiv_small HN.out.1 HN.out.2).2 | (rw [(tdiv_small HN.out.1 HN.out.2).1]; exact (tdiv_small HN.out.1 HN.out.2).2)), Lib.hid (by first | exact HR3.out | (rw [(tdiv_small HN.out.1 HN.out.2).1]; exact HR3.out)), HB1⟩
                · rw [if_neg c4] at hg
                  have c4b : (Int.tmod n 10 == 4) = false := beq_eq_false_iff_ne.mpr c4
                  clear c4
                  by_cases c5 : Int.tmod n 10 ≥ 5
                  · rw [if_pos c5] at hg
                    obtain rfl := Option.some.inj hg
                    have c5b : decide (Int.tmod n 10 ≥ 5) = true := decide_eq_true c5
                    clear c5
                    clear hg
                    go_wp2
                    go_quiet (fail)
                    have HBq := Lib.hid (pw_below_drewN HB.out nq)
                    generalize wr.drewN nq = wq at *
                    go_wp2_with (first | (go_at_call 23; (with_reducible refine (strings_Repeat.calls _ _ t _ (HLD.below HBq.out) HT.out).mono ?_); rintro e w1 ⟨rfl, hb⟩; have HB1 := Lib.hid (HBq.out.then_ hb); clear hb))
                    go_roundg g2
                    case measure => omega
                    case rel => exact ⟨_, _, 1, rfl, rfl, rfl, by omega, Lib.hid (by have := HG.out; omega), Lib.hid (by first | exact (tdiv_small HN.out.1 HN.out.2).2 | (rw [(tdiv_small HN.out.1 HN.out.2).1]; exact (tdiv_small HN.out.1 HN.out.2).2)), Lib.hid (by first | exact HR3.out | (rw [(tdiv_small HN.out.1 HN.out.2).1]; exact HR3.out)), HB1⟩
                  · rw [if_neg c5] at hg
                    obtain rfl := Option.some.inj hg
                    have c5b : decide (Int.tmod n 10 ≥ 5) = false := decide_eq_false c5
                    clear c5
                    clear hg
                    go_wp2
                    go_quiet (fail)
                    have HBq := Lib.hid (pw_below_drewN HB.out nq)
                    generalize wr.drewN nq = wq at *
                    go_wp2_with (first | (go_at_call 23; (with_reducible refine (strings_Repeat.calls _ _ t _ (HLD.below HBq.out) HT.out).mono ?_); rintro e w1 ⟨rfl, hb⟩; have HB1 := Lib.hid (HBq.out.then_ hb); clear hb))
                    go_roundg g2
                    case measure => omega
                    case rel => exact ⟨_, _, 1, rfl, rfl, rfl, by omega, Lib.hid (by have := HG.out; omega), Lib.hid (by first | exact (tdiv_small HN.out.1 HN.out.2).2 | (rw [(tdiv_small HN.out.1 HN.out.2).1]; exact (tdiv_small HN.out.1 HN.out.2).2)), Lib.hid (by first | exact HR3.out | (rw [(tdiv_small HN.out.1 HN.out.2).1]; exact HR3.out)), HB1⟩
            · rw [if_neg hss] at HR2
              cases HR2
          · rw [if_neg hts] at hg
            cases hg
        · have HR2 := HR.out
          clear HR
          obtain ⟨g2, hg2⟩ : ∃ g2, gk = g2 + 1 := ⟨gk - 1, by have := HG.out; omega⟩
          have HG2 := Lib.hid hg2
          subst hg2
          rw [show 4 - 1 = 2 + 1 from rfl, xsort_Roman.l0] at HR2
          obtain ⟨g, hg, HR2⟩ := Option.bind_eq_some_iff.1 HR2
          unfold rstep at hg
          simp only [show rsign 1 0 = (⟨#[88]⟩ : ByteArray) from rfl, show rsign 1 1 = (⟨#[76]⟩ : ByteArray) from rfl, show rsign 1 2 = (⟨#[67]⟩ : ByteArray) from rfl] at hg
          obtain ⟨t, ht, hg⟩ := Option.bind_eq_some_iff.1 hg
          have HT := Lib.hid ht
          clear ht
          have ex : (⟨#[73, 86, 88, 76, 67, 68, 77, 32, 32]⟩ : ByteArray).extract 2 9 = (⟨#[88, 76, 67, 68, 77, 32, 32]⟩ : ByteArray) := by kernel_rfl
          have ex0 : (⟨#[88, 76, 67, 68, 77, 32, 32]⟩ : ByteArray).extract 0 1 = (⟨#[88]⟩ : ByteArray) := by kernel_rfl
          have ex1 : (⟨#[88, 76, 67, 68, 77, 32, 32]⟩ : ByteArray).extract 1 2 = (⟨#[76]⟩ : ByteArray) := by kernel_rfl
          have ex2 : (⟨#[88, 76, 67, 68, 77, 32, 32]⟩ : ByteArray).extract 2 3 = (⟨#[67]⟩ : ByteArray) := by kernel_rfl
          by_cases hts : t.size ≤ 1000000
          · rw [if_pos hts] at hg
            by_cases hss : s.size ≤ 1000000
            · rw [if_pos hss] at HR2
              have HR3 := Lib.hid HR2
              clear HR2
              have hd : Int.tmod n 10 = n % 10 := Int.tmod_eq_emod_of_nonneg HN.out.1
              have z1 : (9223372036854775807 < t.size + s.size) = False := eq_false (by omega)
              have z2 : (9223372036854775807 < 1 + t.size) = False := eq_false (by omega)
              have z3 : (9223372036854775807 < 1 + t.size + s.size) = False := eq_false (by omega)
              have z4 : (9223372036854775807 < 2 + s.size) = False := eq_false (by omega)
              have z5 : (9223372036854775807 < 1 + 1 + s.size) = False := eq_false (by omega)
              clear hts hss hd
              by_cases c9 : Int.tmod n 10 = 9
              · rw [if_pos c9] at hg
                obtain rfl := Option.some.inj hg
                have c9b : (Int.tmod n 10 == 9) = true := beq_iff_eq.mpr c9
                clear c9
                clear hg
                go_wp2
                go_quiet (fail)
                have HBq := Lib.hid (pw_below_drewN HB.out nq)
                generalize wr.drewN nq = wq at *
                go_wp2_with (first | (go_at_call 23; (with_reducible refine (strings_Repeat.calls _ _ t _ (HLD.below HBq.out) HT.out).mono ?_); rintro e w1 ⟨rfl, hb⟩; have HB1 := Lib.hid (HBq.out.then_ hb); clear hb))
                go_roundg g2
                case measure => omega
                case rel => exact ⟨_, _, 2, rfl, rfl, rfl, by omega, Lib.hid (by have := HG.out; omega), Lib.hid (by first | exact (tdiv_small HN.out.1 HN.out.2).2 | (rw [(tdiv_small HN.out.1 HN.out.2).1]; exact (tdiv_small HN.out.1 HN.out.2).2)), Lib.hid (by first | exact HR3.out | (rw [(tdiv_small HN.out.1 HN.out.2).1]; exact HR3.out)), HB1⟩
              · rw [if_neg c9] at hg
                have c9b : (Int.tmod n 10 == 9) = false := beq_eq_false_iff_ne.mpr c9
                clear c9
                by_cases c4 : Int.tmod n 10 = 4
                · rw [if_pos c4] at hg
                  obtain rfl := Option.some.inj hg
                  have c4b : (Int.tmod n 10 == 4) = true := beq_iff_eq.mpr c4
                  clear c4
                  clear hg
                  go_wp2
                  go_quiet (fail)
                  have HBq := Lib.hid (pw_below_drewN HB.out nq)
                  generalize wr.drewN nq = wq at *
                  go_wp2_with (first | (go_at_call 23; (with_reducible refine (strings_Repeat.calls _ _ t _ (HLD.below HBq.out) HT.out).mono ?_); rintro e w1 ⟨rfl, hb⟩; have HB1 := Lib.hid (HBq.out.then_ hb); clear hb))
                  go_roundg g2
                  case measure => omega
                  case rel => exact ⟨_, _, 2, rfl, rfl, rfl, by omega, Lib.hid (by have := HG.out; omega), Lib.hid (by first | exact (tdiv_small HN.out.1 HN.out.2).2 | (rw [(tdiv_small HN.out.1 HN.out.2).1]; exact (tdiv_small HN.out.1 HN.out.2).2)), Lib.hid (by first | exact HR3.out | (rw [(tdiv_small HN.out.1 HN.out.2).1]; exact HR3.out)), HB1⟩
                · rw [if_neg c4] at hg
                  have c4b : (Int.tmod n 10 == 4) = false := beq_eq_false_iff_ne.mpr c4
                  clear c4
                  by_cases c5 : Int.tmod n 10 ≥ 5
                  · rw [if_pos c5] at hg
                    obtain rfl := Option.some.inj hg
                    have c5b : decide (Int.tmod n 10 ≥ 5) = true := decide_eq_true c5
                    clear c5
                    clear hg
                    go_wp2
                    go_quiet (fail)
                    have HBq := Lib.hid (pw_below_drewN HB.out nq)
                    generalize wr.drewN nq = wq at *
                    go_wp2_with (first | (go_at_call 23; (with_reducible refine (strings_Repeat.calls _ _ t _ (HLD.below HBq.out) HT.out).mono ?_); rintro e w1 ⟨rfl, hb⟩; have HB1 := Lib.hid (HBq.out.then_ hb); clear hb))
                    go_roundg g2
                    case measure => omega
                    case rel => exact ⟨_, _, 2, rfl, rfl, rfl, by omega, Lib.hid (by have := HG.out; omega), Lib.hid (by first | exact (tdiv_small HN.out.1 HN.out.2).2 | (rw [(tdiv_small HN.out.1 HN.out.2).1]; exact (tdiv_small HN.out.1 HN.out.2).2)), Lib.hid (by first | exact HR3.out | (rw [(tdiv_small HN.out.1 HN.out.2).1]; exact HR3.out)), HB1⟩
                  · rw [if_neg c5] at hg
                    obtain rfl := Option.some.inj hg
                    have c5b : decide (Int.tmod n 10 ≥ 5) = false := decide_eq_false c5
                    clear c5
                    clear hg
                    go_wp2
                    go_quiet (fail)
                    have HBq := Lib.hid (pw_below_drewN HB.out nq)
                    generalize wr.drewN nq = wq at *
                    go_wp2_with (first | (go_at_call 23; (with_reducible refine (strings_Repeat.calls _ _ t _ (HLD.below HBq.out) HT.out).mono ?_); rintro e w1 ⟨rfl, hb⟩; have HB1 := Lib.hid (HBq.out.then_ hb); clear hb))
                    go_roundg g2
                    case measure => omega
                    case rel => exact ⟨_, _, 2, rfl, rfl, rfl, by omega, Lib.hid (by have := HG.out; omega), Lib.hid (by first | exact (tdiv_small HN.out.1 HN.out.2).2 | (rw [(tdiv_small HN.out.1 HN.out.2).1]; exact (tdiv_small HN.out.1 HN.out.2).2)), Lib.hid (by first | exact HR3.out | (rw [(tdiv_small HN.out.1 HN.out.2).1]; exact HR3.out)), HB1⟩
            · rw [if_neg hss] at HR2
              cases HR2
          · rw [if_neg hts] at hg
            cases hg
        · have HR2 := HR.out
          clear HR
          obtain ⟨g2, hg2⟩ : ∃ g2, gk = g2 + 1 := ⟨gk - 1, by have := HG.out; omega⟩
          have HG2 := Lib.hid hg2
          subst hg2
          rw [show 4 - 2 = 1 + 1 from rfl, xsort_Roman.l0] at HR2
          obtain ⟨g, hg, HR2⟩ := Option.bind_eq_some_iff.1 HR2
          unfold rstep at hg
          simp only [show rsign 2 0 = (⟨#[67]⟩ : ByteArray) from rfl, show rsign 2 1 = (⟨#[68]⟩ : ByteArray) from rfl, show rsign 2 2 = (⟨#[77]⟩ : ByteArray) from rfl] at hg
          obtain ⟨t, ht, hg⟩ := Option.bind_eq_some_iff.1 hg
          have HT := Lib.hid ht
          clear ht
          have ex : (⟨#[73, 86, 88, 76, 67, 68, 77, 32, 32]⟩ : ByteArray).extract 4 9 = (⟨#[67, 68, 77, 32, 32]⟩ : ByteArray) := by kernel_rfl
          have ex0 : (⟨#[67, 68, 77, 32, 32]⟩ : ByteArray).extract 0 1 = (⟨#[67]⟩ : ByteArray) := by kernel_rfl
          have ex1 : (⟨#[67, 68, 77, 32, 32]⟩ : ByteArray).extract 1 2 = (⟨#[68]⟩ : ByteArray) := by kernel_rfl
          have ex2 : (⟨#[67, 68, 77, 32, 32]⟩ : ByteArray).extract 2 3 = (⟨#[77]⟩ : ByteArray) := by kernel_rfl
          by_cases hts : t.size ≤ 1000000
          · rw [if_pos hts] at hg
            by_cases hss : s.size ≤ 1000000
            · rw [if_pos hss] at HR2
              have HR3 := Lib.hid HR2
              clear HR2
              have hd : Int.tmod n 10 = n % 10 := Int.tmod_eq_emod_of_nonneg HN.out.1
              have z1 : (9223372036854775807 < t.size + s.size) = False := eq_false (by omega)
              have z2 : (9223372036854775807 < 1 + t.size) = False := eq_false (by omega)
              have z3 : (9223372036854775807 < 1 + t.size + s.size) = False := eq_false (by omega)
              have z4 : (9223372036854775807 < 2 + s.size) = False := eq_false (by omega)
              have z5 : (9223372036854775807 < 1 + 1 + s.size) = False := eq_false (by omega)
              clear hts hss hd
              by_cases c9 : Int.tmod n 10 = 9
              · rw [if_pos c9] at hg
                obtain rfl := Option.some.inj hg
                have c9b : (Int.tmod n 10 == 9) = true := beq_iff_eq.mpr c9
                clear c9
                clear hg
                go_wp2
                go_quiet (fail)
                have HBq := Lib.hid (pw_below_drewN HB.out nq)
                generalize wr.drewN nq = wq at *
                go_wp2_with (first | (go_at_call 23; (with_reducible refine (strings_Repeat.calls _ _ t _ (HLD.below HBq.out) HT.out).mono ?_); rintro e w1 ⟨rfl, hb⟩; have HB1 := Lib.hid (HBq.out.then_ hb); clear hb))
                go_roundg g2
                case measure => omega
                case rel => exact ⟨_, _, 3, rfl, rfl, rfl, by omega, Lib.hid (by have := HG.out; omega), Lib.hid (by first | exact (tdiv_small HN.out.1 HN.out.2).2 | (rw [(tdiv_small HN.out.1 HN.out.2).1]; exact (tdiv_small HN.out.1 HN.out.2).2)), Lib.hid (by first | exact HR3.out | (rw [(tdiv_small HN.out.1 HN.out.2).1]; exact HR3.out)), HB1⟩
              · rw [if_neg c9] at hg
                have c9b : (Int.tmod n 10 == 9) = false := beq_eq_false_iff_ne.mpr c9
                clear c9
                by_cases c4 : Int.tmod n 10 = 4
                · rw [if_pos c4] at hg
                  obtain rfl := Option.some.inj hg
                  have c4b : (Int.tmod n 10 == 4) = true := beq_iff_eq.mpr c4
                  clear c4
                  clear hg
                  go_wp2
                  go_quiet (fail)
                  have HBq := Lib.hid (pw_below_drewN HB.out nq)
                  generalize wr.drewN nq = wq at *
                  go_wp2_with (first | (go_at_call 23; (with_reducible refine (strings_Repeat.calls _ _ t _ (HLD.below HBq.out) HT.out).mono ?_); rintro e w1 ⟨rfl, hb⟩; have HB1 := Lib.hid (HBq.out.then_ hb); clear hb))
                  go_roundg g2
                  case measure => omega
                  case rel => exact ⟨_, _, 3, rfl, rfl, rfl, by omega, Lib.hid (by have := HG.out; omega), Lib.hid (by first | exact (tdiv_small HN.out.1 HN.out.2).2 | (rw [(tdiv_small HN.out.1 HN.out.2).1]; exact (tdiv_small HN.out.1 HN.out.2).2)), Lib.hid (by first | exact HR3.out | (rw [(tdiv_small HN.out.1 HN.out.2).1]; exact HR3.out)), HB1⟩
                · rw [if_neg c4] at hg
                  have c4b : (Int.tmod n 10 == 4) = false := beq_eq_false_iff_ne.mpr c4
                  clear c4
                  by_cases c5 : Int.tmod n 10 ≥ 5
                  · rw [if_pos c5] at hg
                    obtain rfl := Option.some.inj hg
                    have c5b : decide (Int.tmod n 10 ≥ 5) = true := decide_eq_true c5
                    clear c5
                    clear hg
                    go_wp2
                    go_quiet (fail)
                    have HBq := Lib.hid (pw_below_drewN HB.out nq)
                    generalize wr.drewN nq = wq at *
                    go_wp2_with (first | (go_at_call 23; (with_reducible refine (strings_Repeat.calls _ _ t _ (HLD.below HBq.out) HT.out).mono ?_); rintro e w1 ⟨rfl, hb⟩; have HB1 := Lib.hid (HBq.out.then_ hb); clear hb))
                    go_roundg g2
                    case measure => omega
                    case rel => exact ⟨_, _, 3, rfl, rfl, rfl, by omega, Lib.hid (by have := HG.out; omega), Lib.hid (by first | exact (tdiv_small HN.out.1 HN.out.2).2 | (rw [(tdiv_small HN.out.1 HN.out.2).1]; exact (tdiv_small HN.out.1 HN.out.2).2)), Lib.hid (by first | exact HR3.out | (rw [(tdiv_small HN.out.1 HN.out.2).1]; exact HR3.out)), HB1⟩
                  · rw [if_neg c5] at hg
                    obtain rfl := Option.some.inj hg
                    have c5b : decide (Int.tmod n 10 ≥ 5) = false := decide_eq_false c5
                    clear c5
                    clear hg
                    go_wp2
                    go_quiet (fail)
                    have HBq := Lib.hid (pw_below_drewN HB.out nq)
                    generalize wr.drewN nq = wq at *
                    go_wp2_with (first | (go_at_call 23; (with_reducible refine (strings_Repeat.calls _ _ t _ (HLD.below HBq.out) HT.out).mono ?_); rintro e w1 ⟨rfl, hb⟩; have HB1 := Lib.hid (HBq.out.then_ hb); clear hb))
                    go_roundg g2
                    case measure => omega
                    case rel => exact ⟨_, _, 3, rfl, rfl, rfl, by omega, Lib.hid (by have := HG.out; omega), Lib.hid (by first | exact (tdiv_small HN.out.1 HN.out.2).2 | (rw [(tdiv_small HN.out.1 HN.out.2).1]; exact (tdiv_small HN.out.1 HN.out.2).2)), Lib.hid (by first | exact HR3.out | (rw [(tdiv_small HN.out.1 HN.out.2).1]; exact HR3.out)), HB1⟩
            · rw [if_neg hss] at HR2
              cases HR2
          · rw [if_neg hts] at hg
            cases hg
        · have HR2 := HR.out
          clear HR
          obtain ⟨g2, hg2⟩ : ∃ g2, gk = g2 + 1 := ⟨gk - 1, by have := HG.out; omega⟩
          have HG2 := Lib.hid hg2
          subst hg2
          rw [show 4 - 3 = 0 + 1 from rfl, xsort_Roman.l0] at HR2
          obtain ⟨g, hg, HR2⟩ := Option.bind_eq_some_iff.1 HR2
          unfold rstep at hg
          simp only [show rsign 3 0 = (⟨#[77]⟩ : ByteArray) from rfl, show rsign 3 1 = (⟨#[32]⟩ : ByteArray) from rfl, show rsign 3 2 = (⟨#[32]⟩ : ByteArray) from rfl] at hg
          obtain ⟨t, ht, hg⟩ := Option.bind_eq_some_iff.1 hg
          have HT := Lib.hid ht
          clear ht
          have ex : (⟨#[73, 86, 88, 76, 67, 68, 77, 32, 32]⟩ : ByteArray).extract 6 9 = (⟨#[77, 32, 32]⟩ : ByteArray) := by kernel_rfl
          have ex0 : (⟨#[77, 32, 32]⟩ : ByteArray).extract 0 1 = (⟨#[77]⟩ : ByteArray) := by kernel_rfl
          have ex1 : (⟨#[77, 32, 32]⟩ : ByteArray).extract 1 2 = (⟨#[32]⟩ : ByteArray) := by kernel_rfl
          have ex2 : (⟨#[77, 32, 32]⟩ : ByteArray).extract 2 3 = (⟨#[32]⟩ : ByteArray) := by kernel_rfl
          by_cases hts : t.size ≤ 1000000
          · rw [if_pos hts] at hg
            by_cases hss : s.size ≤ 1000000
            · rw [if_pos hss] at HR2
              have HR3 := Lib.hid HR2
              clear HR2
              have hd : Int.tmod n 10 = n % 10 := Int.tmod_eq_emod_of_nonneg HN.out.1
              have z1 : (9223372036854775807 < t.size + s.size) = False := eq_false (by omega)
              have z2 : (9223372036854775807 < 1 + t.size) = False := eq_false (by omega)
              have z3 : (9223372036854775807 < 1 + t.size + s.size) = False := eq_false (by omega)
              have z4 : (9223372036854775807 < 2 + s.size) = False := eq_false (by omega)
              have z5 : (9223372036854775807 < 1 + 1 + s.size) = False := eq_false (by omega)
              clear hts hss hd
              by_cases c9 : Int.tmod n 10 = 9
              · rw [if_pos c9] at hg
                obtain rfl := Option.some.inj hg
                have c9b : (Int.tmod n 10 == 9) = true := beq_iff_eq.mpr c9
                clear c9
                clear hg
                go_wp2
                go_quiet (fail)
                have HBq := Lib.hid (pw_below_drewN HB.out nq)
                generalize wr.drewN nq = wq at *
                go_wp2_with (first | (go_at_call 23; (with_reducible refine (strings_Repeat.calls _ _ t _ (HLD.below HBq.out) HT.out).mono ?_); rintro e w1 ⟨rfl, hb⟩; have HB1 := Lib.hid (HBq.out.then_ hb); clear hb))
                go_roundg g2
                case measure => omega
                case rel => exact ⟨_, _, 4, rfl, rfl, rfl, by omega, Lib.hid (by have := HG.out; omega), Lib.hid (by first | exact (tdiv_small HN.out.1 HN.out.2).2 | (rw [(tdiv_small HN.out.1 HN.out.2).1]; exact (tdiv_small HN.out.1 HN.out.2).2)), Lib.hid (by first | exact HR3.out | (rw [(tdiv_small HN.out.1 HN.out.2).1]; exact HR3.out)), HB1⟩
              · rw [if_neg c9] at hg
                have c9b : (Int.tmod n 10 == 9) = false := beq_eq_false_iff_ne.mpr c9
                clear c9
                by_cases c4 : Int.tmod n 10 = 4
                · rw [if_pos c4] at hg
                  obtain rfl := Option.some.inj hg
                  have c4b : (Int.tmod n 10 == 4) = true := beq_iff_eq.mpr c4
                  clear c4
                  clear hg
                  go_wp2
                  go_quiet (fail)
                  have HBq := Lib.hid (pw_below_drewN HB.out nq)
                  generalize wr.drewN nq = wq at *
                  go_wp2_with (first | (go_at_call 23; (with_reducible refine (strings_Repeat.calls _ _ t _ (HLD.below HBq.out) HT.out).mono ?_); rintro e w1 ⟨rfl, hb⟩; have HB1 := Lib.hid (HBq.out.then_ hb); clear hb))
                  go_roundg g2
                  case measure => omega
                  case rel => exact ⟨_, _, 4, rfl, rfl, rfl, by omega, Lib.hid (by have := HG.out; omega), Lib.hid (by first | exact (tdiv_small HN.out.1 HN.out.2).2 | (rw [(tdiv_small HN.out.1 HN.out.2).1]; exact (tdiv_small HN.out.1 HN.out.2).2)), Lib.hid (by first | exact HR3.out | (rw [(tdiv_small HN.out.1 HN.out.2).1]; exact HR3.out)), HB1⟩
                · rw [if_neg c4] at hg
                  have c4b : (Int.tmod n 10 == 4) = false := beq_eq_false_iff_ne.mpr c4
                  clear c4
                  by_cases c5 : Int.tmod n 10 ≥ 5
                  · rw [if_pos c5] at hg
                    obtain rfl := Option.some.inj hg
                    have c5b : decide (Int.tmod n 10 ≥ 5) = true := decide_eq_true c5
                    clear c5
                    clear hg
                    go_wp2
                    go_quiet (fail)
                    have HBq := Lib.hid (pw_below_drewN HB.out nq)
                    generalize wr.drewN nq = wq at *
                    go_wp2_with (first | (go_at_call 23; (with_reducible refine (strings_Repeat.calls _ _ t _ (HLD.below HBq.out) HT.out).mono ?_); rintro e w1 ⟨rfl, hb⟩; have HB1 := Lib.hid (HBq.out.then_ hb); clear hb))
                    go_roundg g2
                    case measure => omega
                    case rel => exact ⟨_, _, 4, rfl, rfl, rfl, by omega, Lib.hid (by have := HG.out; omega), Lib.hid (by first | exact (tdiv_small HN.out.1 HN.out.2).2 | (rw [(tdiv_small HN.out.1 HN.out.2).1]; exact (tdiv_small HN.out.1 HN.out.2).2)), Lib.hid (by first | exact HR3.out | (rw [(tdiv_small HN.out.1 HN.out.2).1]; exact HR3.out)), HB1⟩
                  · rw [if_neg c5] at hg
                    obtain rfl := Option.some.inj hg
                    have c5b : decide (Int.tmod n 10 ≥ 5) = false := decide_eq_false c5
                    clear c5
                    clear hg
                    go_wp2
                    go_quiet (fail)
                    have HBq := Lib.hid (pw_below_drewN HB.out nq)
                    generalize wr.drewN nq = wq at *
                    go_wp2_with (first | (go_at_call 23; (with_reducible refine (strings_Repeat.calls _ _ t _ (HLD.below HBq.out) HT.out).mono ?_); rintro e w1 ⟨rfl, hb⟩; have HB1 := Lib.hid (HBq.out.then_ hb); clear hb))
                    go_roundg g2
                    case measure => omega
                    case rel => exact ⟨_, _, 4, rfl, rfl, rfl, by omega, Lib.hid (by have := HG.out; omega), Lib.hid (by first | exact (tdiv_small HN.out.1 HN.out.2).2 | (rw [(tdiv_small HN.out.1 HN.out.2).1]; exact (tdiv_small HN.out.1 HN.out.2).2)), Lib.hid (by first | exact HR3.out | (rw [(tdiv_small HN.out.1 HN.out.2).1]; exact HR3.out)), HB1⟩
            · rw [if_neg hss] at HR2
              cases HR2
          · rw [if_neg hts] at hg
            cases hg

end Go.Proofs.YthedigbdkjcpfaaDoor.Print
