-- Laid by xprint.py (ours), out of the seat's translation; Lean checks it.
import Derived.Test.YthedigbdkjcpfaaGreatDoorPrint0
import Derived.LoopTactic
import Derived.Lib.Hide
import Derived.ScopeJumps
import Derived.Laws.BitsLemmas
import Derived.Laws.ShiftsVarLaws
import Derived.Laws.ShiftsVar
import Derived.Test.YthedigbdkjcpfaaGreatDoorShelf
namespace Go.Proofs.YthedigbdkjcpfaaGreatDoor.Print
open Go.RowKit Go.Proofs.YthedigbdkjcpfaaGreatDoorW.PrintWords Go.Proofs.YthedigbdkjcpfaaGreatDoorW.PrintLast Go.Proofs.YthedigbdkjcpfaaGreatDoorW.PrintMore
attribute [local go_sem] max2_int min2_int max_two min_two max_three min_three max_four min_four   -- for this text's walks alone
open Go.Proofs.YthedigbdkjcpfaaGreatDoor.Plain
set_option linter.unusedVariables false
set_option linter.unusedSimpArgs false

-- GIVEN stencil/xnum.split making
/-- long division, bit by bit: what holds ahead of the bit at place i -/
structure SplitInv (N by_ i q rest : Nat) : Prop where
  rest_ : rest = N / 2 ^ (i + 1) % by_
  q_ : q = N / 2 ^ (i + 1) / by_ * 2 ^ (i + 1)
  lt : q < 18446744073709551616
def splitN (N by_ : Nat) : Nat × Nat := if N / by_ < 18446744073709551616 then (N / by_, N % by_) else (18446744073709551615, 0)
theorem split_room {i q Q : Nat} (hi : i + 1 < 64) (hq : q = Q * 2 ^ (i + 1 + 1)) (h : q < 18446744073709551616) : q + 2 ^ (i + 1) < 18446744073709551616 := by
  have e : (18446744073709551616 : Nat) = 2 ^ (62 - i) * 2 ^ (i + 1 + 1) := by rw [← Nat.pow_add, show 62 - i + (i + 1 + 1) = 64 by omega]
  rw [e] at h ⊢
  rw [hq] at h ⊢
  have h5 : Q < 2 ^ (62 - i) := Nat.lt_of_mul_lt_mul_right h
  have h6 : (Q + 1) * 2 ^ (i + 1 + 1) ≤ 2 ^ (62 - i) * 2 ^ (i + 1 + 1) := Nat.mul_le_mul_right _ h5
  have h7 : 2 ^ (i + 1) < 2 ^ (i + 1 + 1) := Nat.pow_lt_pow_right (by decide) (by omega)
  rw [Nat.add_mul] at h6
  omega
theorem split_step {N by_ i q rest bit : Nat} (h3 : 0 < by_) (H : SplitInv N by_ i q rest) (hb : bit = N / 2 ^ i % 2) :
    N / 2 ^ i = 2 * (N / 2 ^ (i + 1)) + bit ∧ rest < by_ ∧ (2 * rest + bit < by_ → N / 2 ^ i % by_ = 2 * rest + bit ∧ N / 2 ^ i / by_ = 2 * (N / 2 ^ (i + 1) / by_)) ∧
    (by_ ≤ 2 * rest + bit → N / 2 ^ i % by_ = 2 * rest + bit - by_ ∧ N / 2 ^ i / by_ = 2 * (N / 2 ^ (i + 1) / by_) + 1 ∧ 2 * rest + bit - by_ < by_) := by
  obtain ⟨hr, hq, _⟩ := H
  obtain ⟨M, hM⟩ : ∃ M, N / 2 ^ (i + 1) = M := ⟨_, rfl⟩
  have e : N / 2 ^ i / 2 = M := by rw [← hM, Nat.div_div_eq_div_mul, Nat.pow_succ]
  have hbl : bit < 2 := by rw [hb]; exact Nat.mod_lt _ (by decide)
  have h0 : N / 2 ^ i = 2 * M + bit := by omega
  rw [hM] at hr hq ⊢
  have hlt : rest < by_ := by rw [hr]; exact Nat.mod_lt _ h3
  have hdm := Nat.div_add_mod M by_
  rw [← hr] at hdm
  obtain ⟨Q, hQ⟩ : ∃ Q, M / by_ = Q := ⟨_, rfl⟩
  rw [hQ] at hdm ⊢
  have hval : N / 2 ^ i = by_ * (2 * Q) + (2 * rest + bit) := by
    rw [h0, ← hdm, Nat.mul_add, Nat.mul_left_comm]; omega
  refine ⟨h0, hlt, fun hl => ?_, fun hl => ?_⟩
  · rw [hval]
    exact ⟨by rw [Nat.mul_add_mod, Nat.mod_eq_of_lt hl], by rw [Nat.mul_add_div h3, Nat.div_eq_of_lt hl, Nat.add_zero]⟩
  · have hl2 : 2 * rest + bit - by_ < by_ := by omega
    have hval2 : N / 2 ^ i = by_ * (2 * Q + 1) + (2 * rest + bit - by_) := by rw [hval, Nat.mul_add]; omega
    rw [hval2]
    exact ⟨by rw [Nat.mul_add_mod, Nat.mod_eq_of_lt hl2], by rw [Nat.mul_add_div h3, Nat.div_eq_of_lt hl2, Nat.add_zero], hl2⟩
theorem split_no {N by_ i q rest bit : Nat} (h3 : 0 < by_) (H : SplitInv N by_ (i + 1) q rest) (hb : bit = N / 2 ^ (i + 1) % 2) (hl : 2 * rest + bit < by_) : SplitInv N by_ i q (2 * rest + bit) := by
  obtain ⟨_, _, h1, _⟩ := split_step h3 H hb
  obtain ⟨e1, e2⟩ := h1 hl
  refine ⟨e1.symm, ?_, H.lt⟩
  rw [e2, H.q_, Nat.pow_succ 2 (i + 1)]
  rw [Nat.mul_comm (2 ^ (i + 1)) 2, ← Nat.mul_assoc, Nat.mul_comm _ 2]
theorem split_yes {N by_ i q rest bit : Nat} (hi : i + 1 < 64) (h3 : 0 < by_) (H : SplitInv N by_ (i + 1) q rest) (hb : bit = N / 2 ^ (i + 1) % 2) (hl : by_ ≤ 2 * rest + bit) : SplitInv N by_ i (q + 2 ^ (i + 1)) (2 * rest + bit - by_) := by
  obtain ⟨_, _, _, h1⟩ := split_step h3 H hb
  obtain ⟨e1, e2, _⟩ := h1 hl
  have hp : 2 ^ (i + 1 + 1) = 2 * 2 ^ (i + 1) := by rw [Nat.pow_succ 2 (i + 1), Nat.mul_comm]
  have hq : q = 2 * (N / 2 ^ (i + 1 + 1) / by_) * 2 ^ (i + 1) := by
    have := H.q_
    rw [hp, ← Nat.mul_assoc, Nat.mul_comm _ 2] at this
    rw [hp]
    exact this
  refine ⟨e1.symm, by rw [e2, Nat.add_mul, Nat.one_mul, ← hq], ?_⟩
  exact split_room hi (Q := N / 2 ^ (i + 1 + 1) / by_) (by rw [hq, Nat.mul_comm 2, Nat.mul_assoc, ← hp]) H.lt
theorem split_last_no {N by_ q rest bit : Nat} (h3 : 0 < by_) (H : SplitInv N by_ 0 q rest) (hb : bit = N % 2) (hl : 2 * rest + bit < by_) : splitN N by_ = (q, 2 * rest + bit) := by
  obtain ⟨_, _, h1, _⟩ := split_step h3 H (bit := bit) (by rw [Nat.pow_zero, Nat.div_one]; exact hb)
  obtain ⟨e1, e2⟩ := h1 hl
  rw [Nat.pow_zero, Nat.div_one] at e1 e2
  have hq := H.q_
  rw [Nat.zero_add, Nat.pow_one] at hq e2
  have hlt := H.lt
  unfold splitN
  rw [if_pos (by omega)]
  exact Prod.ext (by show N / by_ = q; omega) e1
theorem split_last_yes {N by_ q rest bit : Nat} (h3 : 0 < by_) (H : SplitInv N by_ 0 q rest) (hb : bit = N % 2) (hl : by_ ≤ 2 * rest + bit) : splitN N by_ = (q + 1, 2 * rest + bit - by_) := by
  obtain ⟨_, _, _, h1⟩ := split_step h3 H (bit := bit) (by rw [Nat.pow_zero, Nat.div_one]; exact hb)
  obtain ⟨e1, e2, _⟩ := h1 hl
  rw [Nat.pow_zero, Nat.div_one] at e1 e2
  have hq := H.q_
  rw [Nat.zero_add, Nat.pow_one] at hq e2
  have hlt := H.lt
  unfold splitN
  rw [if_pos (by omega)]
  exact Prod.ext (by show N / by_ = q + 1; omega) e1
theorem split_great {N by_ i q rest bit : Nat} (hi : 64 ≤ i) (h3 : 0 < by_) (H : SplitInv N by_ i q rest) (hb : bit = N / 2 ^ i % 2) (hl : by_ ≤ 2 * rest + bit) : splitN N by_ = (18446744073709551615, 0) := by
  obtain ⟨_, _, _, h1⟩ := split_step h3 H hb
  obtain ⟨_, e2, _⟩ := h1 hl
  have h5 : 1 ≤ N / by_ / 2 ^ i := by rw [Nat.div_div_eq_div_mul, Nat.mul_comm, ← Nat.div_div_eq_div_mul, e2]; omega
  have h6 : 2 ^ i ≤ N / by_ := by
    have := (Nat.le_div_iff_mul_le (Nat.two_pow_pos i)).1 h5
    omega
  have h7 : 2 ^ 64 ≤ 2 ^ i := Nat.pow_le_pow_right (by decide) hi
  unfold splitN
  rw [if_neg (by omega)]
theorem bit_and (x : Nat) (h : x < 18446744073709551616) : bits .and .u64 (x : Int) 1 = ((x % 2 : Nat) : Int) := by
  have := bits_mask .u64 64 (by decide) (fun n h0 h1 => by rw [IntKind.wrap_u64]; omega) 1 (by decide) (x : Int) (by omega) (by omega)
  simpa using this
theorem bit_or (rest bit : Nat) (hb : bit < 2) : bits .or .u64 (IntKind.u64.wrap ((rest : Int) * 2)) (bit : Int) = (((2 * rest + bit) % 18446744073709551616 : Nat) : Int) := by
  have hw : IntKind.u64.wrap ((rest : Int) * 2) = ((2 * rest % 18446744073709551616 : Nat) : Int) := by rw [IntKind.wrap_u64]; omega
  rw [hw, bits_join .u64 64 (by decide) (fun n h0 h1 => by rw [IntKind.wrap_u64]; omega) 1 _ _ (by omega) (by omega) (by omega) (by omega) (by omega) (by omega)]
  omega
theorem bit_set {q Q i : Nat} (hi : i < 64) (hq : q = Q * 2 ^ (i + 1)) (h : q < 18446744073709551616) : bits .or .u64 (q : Int) (IntKind.u64.wrap (2 ^ i)) = ((q + 2 ^ i : Nat) : Int) := by
  have hp : (2 : Nat) ^ i < 18446744073709551616 := by
    have := Nat.pow_lt_pow_right (a := 2) (by decide) hi
    exact this
  have hc : ((2 : Int) ^ i) = ((2 ^ i : Nat) : Int) := by simp
  have hw : IntKind.u64.wrap ((2 : Int) ^ i) = ((2 ^ i : Nat) : Int) := by
    rw [hc, IntKind.wrap_u64]
    generalize (2 : Nat) ^ i = P at hp
    omega
  have hlt : (2 : Nat) ^ i < 2 ^ (i + 1) := Nat.pow_lt_pow_right (by decide) (by omega)
  rw [hw, bits_join .u64 64 (by decide) (fun n h0 h1 => by rw [IntKind.wrap_u64]; omega) (i + 1) _ _ (by omega) ?_ (by omega) (by omega) ?_ (by omega)]
  · rfl
  · have : q % 2 ^ (i + 1) = 0 := by rw [hq]; exact Nat.mul_mod_left _ _
    have h2 : ((q : Int) % ((2 ^ (i + 1) : Nat) : Int)) = ((q % 2 ^ (i + 1) : Nat) : Int) := rfl
    simpa using (h2.trans (by rw [this]; rfl))
  · have : ((2 ^ i : Nat) : Int) < ((2 ^ (i + 1) : Nat) : Int) := by exact_mod_cast hlt
    simpa using this
def slot9 (a : Act) : Nat := match a.tmps.getD 9 undef with | .int _ i => i.toNat | _ => 0
theorem carry_no {rest bit by_ : Nat} (hr : rest < by_) (h4 : by_ < 18446744073709551616) (hb : bit < 2) (h : ¬ rest / 9223372036854775808 = 1) : (2 * rest + bit) % 18446744073709551616 = 2 * rest + bit := by omega
theorem carry_yes {rest bit by_ : Nat} (h4 : by_ < 18446744073709551616) (h : rest / 9223372036854775808 = 1) : by_ ≤ 2 * rest + bit := by omega
theorem sub_wrap {rest bit by_ : Nat} (hr : rest < by_) (h4 : by_ < 18446744073709551616) (hb : bit < 2) (hl : by_ ≤ 2 * rest + bit) : IntKind.u64.wrap ((((2 * rest + bit) % 18446744073709551616 : Nat) : Int) - (by_ : Int)) = ((2 * rest + bit - by_ : Nat) : Int) := by
  rw [IntKind.wrap_u64]; omega
set_option maxRecDepth 100000 in
set_option maxHeartbeats 40000000 in
theorem split_any (hi lo by_ : Nat) (h1 : hi < 18446744073709551616) (h2 : lo < 18446744073709551616) (h3 : 0 < by_) (h4 : by_ < 18446744073709551616) (w : World) (Q R : Nat) (hQR : splitN (hi * 18446744073709551616 + lo) by_ = (Q, R)) :
    Calls Tryz.prog 76 #[.int .u64 hi, .int .u64 lo, .int .u64 by_] w fun e w' => e = .returned (.agg #[.int .u64 Q, .int .u64 R]) ∧ Below w.heap.size w w' := by
  have HQR := Lib.hid hQR
  have HB0 := Lib.hid (fun (o : Obj) (p : Addr) (v : Value) (hp : p.block = w.heap.size) => ((Below.refl w.heap.size w).alloc (Nat.le_refl _) o).setCell (p := p) (by omega) v)
  clear hQR
  go_enter Tryz.func76, Tryz.ntmps76
  go_wp2
  refine wp_scope_jumps 0 (fun a' w' => ∃ (q rest i : Nat) (u10 u11 u12 u13 u14 u15 u16 u17 u18 u19 u20 u21 u22 u23 u24 u25 u26 u27 u28 u29 u30 u31 u32 u33 u34 u35 u36 u37 u38 u39 u40 u41 u42 u43 u44 u45 u46 u47 u48 u49 u50 u51 u52 : Value), a' = { tmps := #[.int .u64 hi, .int .u64 lo, .int .u64 by_, undef, undef, undef, .pointer (some ⟨w.heap.size, 0, none⟩), .int .u64 q, .int .u64 rest, .int .i64 i, u10, u11, u12, u13, u14, u15, u16, u17, u18, u19, u20, u21, u22, u23, u24, u25, u26, u27, u28, u29, u30, u31, u32, u33, u34, u35, u36, u37, u38, u39, u40, u41, u42, u43, u44, u45, u46, u47, u48, u49, u50, u51, u52], defers := [] } ∧ w' = w.alloc (.cells #[.int .u64 0, .int .u64 0] 111) ∧ Hid (SplitInv (hi * 18446744073709551616 + lo) by_ i q rest) ∧ i ≤ 127) (fun a' _ => slot9 a') rfl ?_ ?_
  · go_wp2
    go_step3
    obtain ⟨bit, hbit⟩ : ∃ b : Nat, (hi * 18446744073709551616 + lo) / 2 ^ 127 % 2 = b := ⟨_, rfl⟩
    have hI : SplitInv (hi * 18446744073709551616 + lo) by_ 127 0 0 := by
      have e : (hi * 18446744073709551616 + lo) / 2 ^ (127 + 1) = 0 := Nat.div_eq_of_lt (by omega)
      exact ⟨by rw [e]; simp, by rw [e]; simp, by decide⟩
    have hhi : hi / 9223372036854775808 % 2 = bit := by
      rw [← hbit]; have : (2 : Nat) ^ 127 = 9223372036854775808 * 18446744073709551616 := by decide
      rw [this, Nat.mul_comm 9223372036854775808, ← Nat.div_div_eq_div_mul]
      congr 2
      omega
    have hb2 : bit < 2 := by rw [← hhi]; exact Nat.mod_lt _ (by decide)
    have ha : bits .and .u64 ((hi : Int) / 9223372036854775808) 1 = (bit : Int) := by
      have := bit_and (hi / 9223372036854775808) (by omega)
      rw [hhi] at this
      exact this
    have ho : bits .or .u64 0 (bit : Int) = (bit : Int) := by
      have := bit_or 0 bit hb2
      rw [show (2 * 0 + bit) % 18446744073709551616 = bit by omega] at this
      exact this
    have HI := Lib.hid hI
    have HBIT := Lib.hid hbit
    clear hhi hbit hI
    by_cases ht : by_ ≤ bit
    · have e : splitN (hi * 18446744073709551616 + lo) by_ = (18446744073709551615, 0) := split_great (i := 127) (by decide) h3 HI.out HBIT.out.symm (by omega)
      have HE := Lib.hid (e.symm.trans HQR.out)
      have g1 : decide ((by_ : Int) ≤ (bit : Int)) = true := decide_eq_true (by omega)
      have g2 : decide (by_ ≤ bit) = true := decide_eq_true ht
      clear e
      obtain ⟨rfl, rfl⟩ := Prod.mk.inj HE.out
      go_wp2
      simp only [Exit.jump]
      exact bodyPost_ret (v := .agg #[.int .u64 18446744073709551615, .int .u64 0]) (by simp [results, Tryz.results76, go_sem]) rfl ⟨by first | rfl | (simp; done), (Below.refl _ w).alloc (Nat.le_refl _) _⟩
    · have g1 : decide ((by_ : Int) ≤ (bit : Int)) = false := decide_eq_false (by omega)
      have g2 : decide (by_ ≤ bit) = false := decide_eq_false ht
      have HI2 := Lib.hid (split_no (bit := bit) h3 HI.out HBIT.out.symm (by omega))
      go_wp2
      go_step3
      exact ⟨rfl, 0, bit, 126, _, _, _, _, _, _, _, _, _, _, _, _, _, _, _, _, _, _, _, _, _, _, _, _, _, _, _, _, _, _, _, _, _, _, _, _, _, _, _, _, _, _, _, rfl, rfl, Lib.hid (by have h := HI2.out; rw [show 2 * 0 + bit = bit by omega] at h; exact h), by decide⟩
  · rintro a' w' ⟨q, rest, i, u10, u11, u12, u13, u14, u15, u16, u17, u18, u19, u20, u21, u22, u23, u24, u25, u26, u27, u28, u29, u30, u31, u32, u33, u34, u35, u36, u37, u38, u39, u40, u41, u42, u43, u44, u45, u46, u47, u48, u49, u50, u51, u52, rfl, rfl, HI, hi127⟩
    have hrest : rest < by_ := by rw [HI.out.rest_]; exact Nat.mod_lt _ h3
    by_cases hi64 : 64 ≤ i
    · have g1 : decide ((i : Int) ≥ 64) = true := decide_eq_true (by omega)
      have g2 : decide (64 ≤ (i : Int)) = true := decide_eq_true (by omega)
      have hsub : (i : Int) - 1 = ((i - 1 : Nat) : Int) := by omega
      obtain ⟨bit, hbit⟩ : ∃ b : Nat, (hi * 18446744073709551616 + lo) / 2 ^ i % 2 = b := ⟨_, rfl⟩
      have hb2 : bit < 2 := by rw [← hbit]; exact Nat.mod_lt _ (by decide)
      have ha : bits .and .u64 ((hi : Int) / 2 ^ (i - 64)) 1 = (bit : Int) := by
        have h5 : hi / 2 ^ (i - 64) % 2 = bit := by
          rw [← hbit, show (2 : Nat) ^ i = 18446744073709551616 * 2 ^ (i - 64) by rw [show (18446744073709551616 : Nat) = 2 ^ 64 from rfl, ← Nat.pow_add, show 64 + (i - 64) = i by omega], ← Nat.div_div_eq_div_mul]
          congr 2
          omega
        have h6 := bit_and (hi / 2 ^ (i - 64)) (Nat.lt_of_le_of_lt (Nat.div_le_self _ _) h1)
        rw [h5] at h6
        simpa using h6
      have HSN := Lib.hid (fun (h : 2 * rest + bit < by_) => split_no (i := i - 1) (q := q) (bit := bit) h3 (by rw [show i - 1 + 1 = i by omega]; exact HI.out) (by rw [show i - 1 + 1 = i by omega]; exact hbit.symm) h)
      have ho := bit_or rest bit hb2
      have hw := fun hl => sub_wrap (bit := bit) hrest h4 hb2 hl
      have HBIT := Lib.hid hbit
      clear hbit
      by_cases hc : rest / 9223372036854775808 = 1
      · skip
        have hge : by_ ≤ 2 * rest + bit := carry_yes h4 hc
        have hc1 : (((rest : Int) / 9223372036854775808) == 1) = true := beq_iff_eq.2 (by omega)
        have hw1 := hw hge
        obtain ⟨rn, hrn⟩ : ∃ rn : Nat, 2 * rest + bit - by_ = rn := ⟨_, rfl⟩
        rw [hrn] at hw1
        have HRN := Lib.hid hrn
        obtain ⟨r2, hr2⟩ : ∃ r2 : Nat, (2 * rest + bit) % 18446744073709551616 = r2 := ⟨_, rfl⟩
        rw [hr2] at ho hw1
        have HR2 := Lib.hid hr2
        have HGE := Lib.hid hge
        clear hr2 hge hw hc hrn
        have e : splitN (hi * 18446744073709551616 + lo) by_ = (18446744073709551615, 0) := split_great hi64 h3 HI.out HBIT.out.symm HGE.out
        obtain ⟨rfl, rfl⟩ := Prod.mk.inj (e.symm.trans HQR.out)
        clear e
        go_wp2
        simp only [Exit.jump]
        exact bodyPost_ret (v := .agg #[.int .u64 18446744073709551615, .int .u64 0]) (by simp [results, Tryz.results76, go_sem]) rfl ⟨by first | rfl | (simp; done), (Below.refl _ w).alloc (Nat.le_refl _) _⟩
      · by_cases hge : by_ ≤ 2 * rest + bit
        · skip
          have hc1 : (((rest : Int) / 9223372036854775808) == 1) = false := beq_eq_false_iff_ne.2 (by omega)
          have hm := carry_no hrest h4 hb2 hc
          have hw1 := hw hge
          rw [hm] at ho hw1
          have k1 : decide ((by_ : Int) ≤ ((2 * rest + bit : Nat) : Int)) = true := decide_eq_true (by omega)
          have k2 : decide (by_ ≤ 2 * rest + bit) = true := decide_eq_true hge
          obtain ⟨rn, hrn⟩ : ∃ rn : Nat, 2 * rest + bit - by_ = rn := ⟨_, rfl⟩
          rw [hrn] at hw1
          have HRN := Lib.hid hrn
          obtain ⟨r2, hr2⟩ : ∃ r2 : Nat, 2 * rest + bit = r2 := ⟨_, rfl⟩
          rw [hr2] at ho k1 k2 hw1
          have HR2 := Lib.hid hr2
          have HGE := Lib.hid hge
          clear hr2 hge hw hc hrn hm
          have e : splitN (hi * 18446744073709551616 + lo) by_ = (18446744073709551615, 0) := split_great hi64 h3 HI.out HBIT.out.symm HGE.out
          obtain ⟨rfl, rfl⟩ := Prod.mk.inj (e.symm.trans HQR.out)
          clear e
          go_wp2
          simp only [Exit.jump]
          exact bodyPost_ret (v := .agg #[.int .u64 18446744073709551615, .int .u64 0]) (by simp [results, Tryz.results76, go_sem]) rfl ⟨by first | rfl | (simp; done), (Below.refl _ w).alloc (Nat.le_refl _) _⟩
        · skip
          have hc1 : (((rest : Int) / 9223372036854775808) == 1) = false := beq_eq_false_iff_ne.2 (by omega)
          have hm := carry_no hrest h4 hb2 hc
          rw [hm] at ho
          have k1 : decide ((by_ : Int) ≤ ((2 * rest + bit : Nat) : Int)) = false := decide_eq_false (by omega)
          have k2 : decide (by_ ≤ 2 * rest + bit) = false := decide_eq_false hge
          obtain ⟨r2, hr2⟩ : ∃ r2 : Nat, 2 * rest + bit = r2 := ⟨_, rfl⟩
          rw [hr2] at ho k1 k2
          have HR2 := Lib.hid hr2
          have HGE := Lib.hid hge
          clear hr2 hge hw hc hm
          have HI2 := Lib.hid (HSN.out (Nat.lt_of_not_le HGE.out))
          go_wp2
          go_step3
          exact ⟨rfl, ⟨q, r2, i - 1, _, _, _, _, _, _, _, _, _, _, _, _, _, _, _, _, _, _, _, _, _, _, _, _, _, _, _, _, _, _, _, _, _, _, _, _, _, _, _, _, _, _, _, rfl, rfl, Lib.hid (by have h := HI2.out; rw [HR2.out] at h; exact h), by omega⟩, by first | (simp [slot9]; done) | (simp [slot9]; omega)⟩

    · have g1 : decide ((i : Int) ≥ 64) = false := decide_eq_false (by omega)
      have g2 : decide (64 ≤ (i : Int)) = false := decide_eq_false (by omega)
      obtain ⟨bit, hbit⟩ : ∃ b : Nat, (hi * 18446744073709551616 + lo) / 2 ^ i % 2 = b := ⟨_, rfl⟩
      have hb2 : bit < 2 := by rw [← hbit]; exact Nat.mod_lt _ (by decide)
      have ha : bits .and .u64 ((lo : Int) / 2 ^ i) 1 = (bit : Int) := by
        have h5 : lo / 2 ^ i % 2 = bit := by
          rw [← hbit, show hi * 18446744073709551616 + lo = 2 ^ i * (2 * (hi * 2 ^ (63 - i))) + lo by
            rw [show (18446744073709551616 : Nat) = 2 ^ i * (2 * 2 ^ (63 - i)) by rw [← Nat.mul_assoc, ← Nat.pow_succ, ← Nat.pow_add, show i + 1 + (63 - i) = 64 by omega]]
            rw [Nat.mul_left_comm, Nat.mul_left_comm 2], Nat.mul_add_div (Nat.two_pow_pos i)]
          omega
        have h6 := bit_and (lo / 2 ^ i) (Nat.lt_of_le_of_lt (Nat.div_le_self _ _) h2)
        rw [h5] at h6
        simpa using h6
      have ho := bit_or rest bit hb2
      have hw := fun hl => sub_wrap (bit := bit) hrest h4 hb2 hl
      have HBIT := Lib.hid hbit
      clear hbit
      by_cases hc : rest / 9223372036854775808 = 1
      · skip
        have hge : by_ ≤ 2 * rest + bit := carry_yes h4 hc
        have hc1 : (((rest : Int) / 9223372036854775808) == 1) = true := beq_iff_eq.2 (by omega)
        have hw1 := hw hge
        obtain ⟨rn, hrn⟩ : ∃ rn : Nat, 2 * rest + bit - by_ = rn := ⟨_, rfl⟩
        rw [hrn] at hw1
        have HRN := Lib.hid hrn
        obtain ⟨r2, hr2⟩ : ∃ r2 : Nat, (2 * rest + bit) % 18446744073709551616 = r2 := ⟨_, rfl⟩
        rw [hr2] at ho hw1
        have HR2 := Lib.hid hr2
        have HGE := Lib.hid hge
        clear hr2 hge hw hc hrn
        cases i with
        | zero =>
          have ha0 : bits .and .u64 (lo : Int) 1 = (bit : Int) := by have h9 := ha; rw [Int.pow_zero, Int.ediv_one] at h9; exact h9
          clear ha
          have e : splitN (hi * 18446744073709551616 + lo) by_ = (q + 1, 2 * rest + bit - by_) := split_last_yes h3 HI.out (by have h := HBIT.out; rw [Nat.pow_zero, Nat.div_one] at h; exact h.symm) HGE.out
          have hset := bit_set (q := q) (i := 0) (by decide) HI.out.q_ HI.out.lt
          have hset2 : bits .or .u64 (q : Int) 1 = ((q + 1 : Nat) : Int) := by
            have h8 : IntKind.u64.wrap ((2 : Int) ^ 0) = 1 := by rw [IntKind.wrap_u64]; rfl
            rw [h8] at hset; exact hset
          clear hset
          rw [HRN.out] at e
          obtain ⟨rfl, rfl⟩ := Prod.mk.inj (e.symm.trans HQR.out)
          clear e
          go_wp2
          simp only [Exit.jump]
          exact bodyPost_ret (v := .agg #[.int .u64 (q + 1 : Nat), .int .u64 rn]) (by simp [results, Tryz.results76, go_sem]) rfl ⟨by first | rfl | (simp; done), (Below.refl _ w).alloc (Nat.le_refl _) _⟩
        | succ m =>
          have hset := bit_set (q := q) (i := m + 1) (by omega) HI.out.q_ HI.out.lt
          have HI2 := Lib.hid (split_yes (by omega) h3 HI.out HBIT.out.symm HGE.out)
          obtain ⟨qn, hqn⟩ : ∃ qn : Nat, q + 2 ^ (m + 1) = qn := ⟨_, rfl⟩
          rw [hqn] at hset
          have HQN := Lib.hid hqn
          clear hqn
          go_wp2
          go_step3
          exact ⟨rfl, ⟨qn, rn, m, _, _, _, _, _, _, _, _, _, _, _, _, _, _, _, _, _, _, _, _, _, _, _, _, _, _, _, _, _, _, _, _, _, _, _, _, _, _, _, _, _, _, _, rfl, rfl, Lib.hid (by have h := HI2.out; rw [HQN.out, HRN.out] at h; exact h), by omega⟩, by first | (simp [slot9]; done) | (simp [slot9]; omega)⟩
      · by_cases hge : by_ ≤ 2 * rest + bit
        · skip
          have hc1 : (((rest : Int) / 9223372036854775808) == 1) = false := beq_eq_false_iff_ne.2 (by omega)
          have hm := carry_no hrest h4 hb2 hc
          have hw1 := hw hge
          rw [hm] at ho hw1
          have k1 : decide ((by_ : Int) ≤ ((2 * rest + bit : Nat) : Int)) = true := decide_eq_true (by omega)
          have k2 : decide (by_ ≤ 2 * rest + bit) = true := decide_eq_true hge
          obtain ⟨rn, hrn⟩ : ∃ rn : Nat, 2 * rest + bit - by_ = rn := ⟨_, rfl⟩
          rw [hrn] at hw1
          have HRN := Lib.hid hrn
          obtain ⟨r2, hr2⟩ : ∃ r2 : Nat, 2 * rest + bit = r2 := ⟨_, rfl⟩
          rw [hr2] at ho k1 k2 hw1
          have HR2 := Lib.hid hr2
          have HGE := Lib.hid hge
          clear hr2 hge hw hc hrn hm
          cases i with
          | zero =>
            have ha0 : bits .and .u64 (lo : Int) 1 = (bit : Int) := by have h9 := ha; rw [Int.pow_zero, Int.ediv_one] at h9; exact h9
            clear ha
            have e : splitN (hi * 18446744073709551616 + lo) by_ = (q + 1, 2 * rest + bit - by_) := split_last_yes h3 HI.out (by have h := HBIT.out; rw [Nat.pow_zero, Nat.div_one] at h; exact h.symm) HGE.out
            have hset := bit_set (q := q) (i := 0) (by decide) HI.out.q_ HI.out.lt
            have hset2 : bits .or .u64 (q : Int) 1 = ((q + 1 : Nat) : Int) := by
              have h8 : IntKind.u64.wrap ((2 : Int) ^ 0) = 1 := by rw [IntKind.wrap_u64]; rfl
              rw [h8] at hset; exact hset
            clear hset
            rw [HRN.out] at e
            obtain ⟨rfl, rfl⟩ := Prod.mk.inj (e.symm.trans HQR.out)
            clear e
            go_wp2
            simp only [Exit.jump]
            exact bodyPost_ret (v := .agg #[.int .u64 (q + 1 : Nat), .int .u64 rn]) (by simp [results, Tryz.results76, go_sem]) rfl ⟨by first | rfl | (simp; done), (Below.refl _ w).alloc (Nat.le_refl _) _⟩
          | succ m =>
            have hset := bit_set (q := q) (i := m + 1) (by omega) HI.out.q_ HI.out.lt
            have HI2 := Lib.hid (split_yes (by omega) h3 HI.out HBIT.out.symm HGE.out)
            obtain ⟨qn, hqn⟩ : ∃ qn : Nat, q + 2 ^ (m + 1) = qn := ⟨_, rfl⟩
            rw [hqn] at hset
            have HQN := Lib.hid hqn
            clear hqn
            go_wp2
            go_step3
            exact ⟨rfl, ⟨qn, rn, m, _, _, _, _, _, _, _, _, _, _, _, _, _, _, _, _, _, _, _, _, _, _, _, _, _, _, _, _, _, _, _, _, _, _, _, _, _, _, _, _, _, _, _, rfl, rfl, Lib.hid (by have h := HI2.out; rw [HQN.out, HRN.out] at h; exact h), by omega⟩, by first | (simp [slot9]; done) | (simp [slot9]; omega)⟩
        · skip
          have hc1 : (((rest : Int) / 9223372036854775808) == 1) = false := beq_eq_false_iff_ne.2 (by omega)
          have hm := carry_no hrest h4 hb2 hc
          rw [hm] at ho
          have k1 : decide ((by_ : Int) ≤ ((2 * rest + bit : Nat) : Int)) = false := decide_eq_false (by omega)
          have k2 : decide (by_ ≤ 2 * rest + bit) = false := decide_eq_false hge
          obtain ⟨r2, hr2⟩ : ∃ r2 : Nat, 2 * rest + bit = r2 := ⟨_, rfl⟩
          rw [hr2] at ho k1 k2
          have HR2 := Lib.hid hr2
          have HGE := Lib.hid hge
          clear hr2 hge hw hc hm
          cases i with
          | zero =>
            have ha0 : bits .and .u64 (lo : Int) 1 = (bit : Int) := by have h9 := ha; rw [Int.pow_zero, Int.ediv_one] at h9; exact h9
            clear ha
            have e : splitN (hi * 18446744073709551616 + lo) by_ = (q, 2 * rest + bit) := split_last_no h3 HI.out (by have h := HBIT.out; rw [Nat.pow_zero, Nat.div_one] at h; exact h.symm) (Nat.lt_of_not_le HGE.out)
            rw [HR2.out] at e
            obtain ⟨rfl, rfl⟩ := Prod.mk.inj (e.symm.trans HQR.out)
            clear e
            go_wp2
            simp only [Exit.jump]
            exact bodyPost_ret (v := .agg #[.int .u64 q, .int .u64 r2]) (by simp [results, Tryz.results76, go_sem]) rfl ⟨by first | rfl | (simp; done), (Below.refl _ w).alloc (Nat.le_refl _) _⟩
          | succ m =>
            have HI2 := Lib.hid (split_no (bit := bit) h3 HI.out HBIT.out.symm (Nat.lt_of_not_le HGE.out))
            go_wp2
            go_step3
            exact ⟨rfl, ⟨q, r2, m, _, _, _, _, _, _, _, _, _, _, _, _, _, _, _, _, _, _, _, _, _, _, _, _, _, _, _, _, _, _, _, _, _, _, _, _, _, _, _, _, _, _, _, rfl, rfl, Lib.hid (by have h := HI2.out; rw [HR2.out] at h; exact h), by omega⟩, by first | (simp [slot9]; done) | (simp [slot9]; omega)⟩

theorem index_pair0 (a b : Int) (w : World) : (Instr.index 111 (.agg #[.int .u64 a, .int .u64 b]) (.int .i64 0)).run Tryz.prog w = .ok (.int .u64 a) w := by
  simp [Instr.index, run_underlying Tryz.underlying111, asIntOf, go_sem]
theorem Prod.eta_ {α β : Type} {p : α × β} : (p.1, p.2) = p := by cases p; rfl
def xnum_split.f (a0 a1 a2 : Int) : Option (Int × Int) :=
  if 0 ≤ a0 ∧ a0 < 18446744073709551616 ∧ 0 ≤ a1 ∧ a1 < 18446744073709551616 ∧ 0 < a2 ∧ a2 < 18446744073709551616 then
    some (((splitN (a0.toNat * 18446744073709551616 + a1.toNat) a2.toNat).1 : Int), ((splitN (a0.toNat * 18446744073709551616 + a1.toNat) a2.toNat).2 : Int)) else none
theorem xnum_split.calls (a0 a1 a2 : Int) (r1 : Int) (r2 : Int) (w : World) (HLD : Laid w) (h : xnum_split.f a0 a1 a2 = some (r1, r2)) :
    Calls Tryz.prog 76 #[.int .u64 a0, .int .u64 a1, .int .u64 a2] w fun e w' => e = .returned (.agg #[.int .u64 r1, .int .u64 r2]) ∧ Below w.heap.size w w' := by
  unfold xnum_split.f at h
  split at h
  · rename_i hc
    simp only [Option.some.injEq, Prod.mk.injEq] at h
    obtain ⟨rfl, rfl⟩ := h
    obtain ⟨n0, rfl⟩ : ∃ n : Nat, a0 = (n : Int) := ⟨a0.toNat, by omega⟩
    obtain ⟨n1, rfl⟩ : ∃ n : Nat, a1 = (n : Int) := ⟨a1.toNat, by omega⟩
    obtain ⟨n2, rfl⟩ : ∃ n : Nat, a2 = (n : Int) := ⟨a2.toNat, by omega⟩
    simp only [Int.toNat_natCast]
    exact split_any n0 n1 n2 (by omega) (by omega) (by omega) (by omega) w _ _ Prod.eta_.symm
  · cases h

end Go.Proofs.YthedigbdkjcpfaaGreatDoor.Print
