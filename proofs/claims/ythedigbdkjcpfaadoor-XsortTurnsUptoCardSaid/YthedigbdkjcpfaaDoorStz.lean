/- slices.symMergeCmpFunc[int], walked: two sorted rows are merged, in place, alike ones in order. -/
import Derived.Test.YthedigbdkjcpfaaDoorStx
import Derived.Test.YthedigbdkjcpfaaDoorSta
import Derived.Deep.DeepCutAuto
import Derived.Deep.CutBlock
set_option linter.unusedVariables false
set_option linter.unusedSimpArgs false
namespace Go.Proofs.YthedigbdkjcpfaaDoor.Sta
open Go.Shelf Go.RowKit Go.Lib Go.Sort
variable {α : Type} [Inhabited α]
/-- the merge's result: places of a .. b turned, sorted -/
def Merged (val : α → Int) (ah : α → α → Bool) (w0 : World) (blk off a b : Nat) (dk : Array α) (e : Ending) (w' : World) : Prop :=
  e = .returned (.tuple #[]) ∧ ∃ d' : Array α, Aside (SW (ev val) w0 blk off d' w') ∧ PermIn a b dk d' ∧ SortedIn ah a b d'
theorem i64_in1 (n : Nat) (h : n + 1 < 4611686018427387904) : IntKind.i64.wrap ((n : Int) + 1) = (n : Int) + 1 := by rw [IntKind.wrap_i64]; omega
structure Asks (ah lt : α → α → Bool) (a m b : Nat) (dk : Array α) : Prop where
  ham : a < m
  hmb : m < b
  hb : b ≤ dk.size
  sL : SortedIn ah a m dk
  sR : SortedIn ah m b dk
  hC : ∀ i j, a ≤ i → i < m → m ≤ j → j < b → lt dk[j]! dk[i]! = ah dk[j]! dk[i]!
theorem one_end {ah lt : α → α → Bool} (hS : SWO ah) {a b i : Nat} {d : Array α} (A : Asks ah lt a (a + 1) b d) (hi : a + 1 ≤ i) (hib : i ≤ b)
    (hlo : a + 1 < i → lt d[i - 1]! d[a]! = true) (hhi : i < b → lt d[i]! d[a]! = false) : PermIn a b d (up d a (i - 1 - a)) ∧ SortedIn ah a b (up d a (i - 1 - a)) := by
  refine sym_one hS d a b i hi hib A.hb A.sR (fun k h1 h2 => ?_) (fun k h1 h2 => ?_)
  · have h3 := hlo (by omega)
    rw [A.hC a (i - 1) (Nat.le_refl _) (by omega) (by omega) (by omega)] at h3
    by_cases e : k = i - 1
    · rw [e]; exact h3
    · exact swo_tn hS h3 (A.sR k (i - 1) h1 (by omega) (by omega))
  · have h3 := hhi (by omega)
    rw [A.hC a i (Nat.le_refl _) (by omega) (by omega) (by omega)] at h3
    cases h : ah d[k]! d[a]! with
    | false => rfl
    | true =>
      by_cases e : k = i
      · rw [e] at h; rw [h] at h3; cases h3
      · rw [swo_tn hS h (A.sR i k (by omega) (by omega) h2)] at h3; cases h3
theorem last_end {ah lt : α → α → Bool} (hS : SWO ah) {a m i : Nat} {d : Array α} (A : Asks ah lt a m (m + 1) d) (hi : a ≤ i) (him : i ≤ m)
    (hlo : a < i → lt d[m]! d[i - 1]! = false) (hhi : i < m → lt d[m]! d[i]! = true) : PermIn a (m + 1) d (down d m (m - i)) ∧ SortedIn ah a (m + 1) (down d m (m - i)) := by
  refine sym_last hS d a m i hi him A.hb A.sL (fun k h1 h2 => ?_) (fun k h1 h2 => ?_)
  · have h3 := hlo (by omega)
    rw [A.hC (i - 1) m (by omega) (by omega) (Nat.le_refl _) (by omega)] at h3
    cases h : ah d[m]! d[k]! with
    | false => rfl
    | true =>
      by_cases e : k = i - 1
      · rw [e] at h; rw [h] at h3; cases h3
      · rw [swo_nt hS h (A.sL k (i - 1) h1 (by omega) (by omega))] at h3; cases h3
  · have h3 := hhi (by omega)
    rw [A.hC i m hi (by omega) (Nat.le_refl _) (by omega)] at h3
    by_cases e : k = i
    · rw [e]; exact h3
    · exact swo_nt hS h3 (A.sL i k hi (by omega) h2)
set_option maxHeartbeats 16000000 in
set_option maxRecDepth 1000000 in
theorem sym1_s (val : α → Int) (cf : α → α → Int) (ah : α → α → Bool) (hS : SWO ah) (g : Nat) (cb : Array Value) (blk off cap sz a m b : Nat) (d0 dk : Array α) (w0 w : World) (eg : ∀ args w, (callFunc g args).run Tryd.prog w = .ok (.enter g args) w) (hz : w0.drawn = 0)
    (hcmp : CmpB Tryd.prog g cb (ev val) cf blk off sz w0) (R : Row1 (ev val) w0 blk off d0) (hs : d0.size = sz) (hk : dk.size = sz) (S : SW (ev val) w0 blk off dk w) (A : Asks ah (ltOf cf) a m b dk) (hsz : sz < 1000000000) (hm : m = a + 1) :
    Calls Tryd.prog 65 #[.slice (some ⟨blk, off, none⟩) sz cap, .int .i64 a, .int .i64 m, .int .i64 b, .func (.func g) #[] cb] w (Merged val ah w0 blk off a b dk) := by
  have mixed : Tryd.prog.follows .mixedOrders = true := by kernel_rfl
  have HZ : Hid _ := hz
  have HC : Aside (CmpB Tryd.prog g cb (ev val) cf blk off sz w0) := hcmp
  have HA : Aside (Asks ah (ltOf cf) a m b dk) := A
  have S0 : Aside (SW (ev val) w0 blk off dk w) := S
  have HS : Aside (SWO ah) := hS
  have ham := A.ham
  have hmb := A.hmb
  have hbd := A.hb
  clear S hcmp hz A hS
  have e0 : (m : Int) - (a : Int) = 1 := by omega
  have HM : Aside (m = a + 1) := hm
  clear hm
  have bA : (a : Int) < (sz : Int) := by omega
  go_enter Tryd.func65, Tryd.ntmps65
  go_wp2
  go_loopg [10, 11] (b - m) (fun g1 vi vj wr => ∃ (i j : Nat), vi = .int .i64 i ∧ vj = .int .i64 j ∧ m ≤ i ∧ i ≤ j ∧ j ≤ b ∧ j - i ≤ g1 ∧ Aside (SW (ev val) w0 blk off dk wr) ∧ Aside ((m < i → (ltOf cf) dk[i - 1]! dk[a]! = true) ∧ (j < b → (ltOf cf) dk[j]! dk[a]! = false)))
  case atStart => exact ⟨m, b, rfl, rfl, by omega, by omega, by omega, by omega, S0, ⟨fun h => absurd h (by omega), fun h => absurd h (by omega)⟩⟩
  case round =>
    clear S0
    obtain ⟨i, j, rfl, rfl, hi1, hij, hj1, hg1, S1, HI⟩ := hrel
    by_cases hlt : i < j
    · have hltz : (i : Int) < (j : Int) := by omega
      obtain ⟨h, hh⟩ : ∃ q, q = (i + j) / 2 := ⟨_, rfl⟩
      have eh : ((i : Int) + (j : Int)) / 2 = (h : Int) := by omega
      have h1 : i ≤ h := by omega
      have h2 : h < j := by omega
      have HH : Aside (h = (i + j) / 2) := hh
      clear hh
      have bh : (h : Int) < (sz : Int) := by omega
      have brh : h + 1 < 4611686018427387904 := by omega
      obtain ⟨x, hx⟩ : ∃ x, x = dk[h]! := ⟨_, rfl⟩
      obtain ⟨y, hy⟩ : ∃ x, x = dk[a]! := ⟨_, rfl⟩
      have la : ∀ dq os, (grow (redrawn wr dq) os).cell? ⟨blk, off + h, none⟩ = some (.int .i64 (val x)) := by rw [hx]; exact sw_cr S1.out R (by omega) (h) (by omega)
      have lb : ∀ dq os, (grow (redrawn wr dq) os).cell? ⟨blk, off + a, none⟩ = some (.int .i64 (val y)) := by rw [hy]; exact sw_cr S1.out R (by omega) (a) (by omega)
      have hc := sw_cmp S1.out HZ.out HC.out (by omega) x y
      simp only [ev] at hc
      cases hlv : (ltOf cf) dk[h]! dk[a]! with
      | true =>
        have hv : cf x y < 0 := by rw [hx, hy]; exact of_decide_eq_true hlv
        have hd : decide (cf x y < 0) = true := decide_eq_true hv
        have HLV : Aside ((ltOf cf) dk[h]! dk[a]! = true) := hlv
        clear hx hy hlv
        have rh : IntKind.i64.wrap ((h : Int) + 1) = (h : Int) + 1 := i64_in1 h brh
        go_wp2_with fail
        refine wp_region_quiet_below (by assumption) (by kernel_rfl) ?_
        repeat (quiet_step (first | (go_at_fn g; refine Calls.regrown_of (hc _ _))))
        refine wpQuiet_nil ?_
        intro _ hw'
        obtain ⟨⟨dq, osq⟩, hw''⟩ := hw'
        subst hw''
        have S2 : Aside (SW (ev val) w0 blk off dk (grow (redrawn wr dq) osq)) := sw_regrown S1.out HZ.out dq osq
        clear la lb hc S1
        generalize grow (redrawn wr dq) osq = w2 at S2 ⊢
        clear dq osq
        go_wp2
        clear rh brh
        have hh := HH.out
        go_roundg (j - (h + 1))
        case measure => omega
        case rel => exact ⟨h + 1, j, by first | rfl | go_num | (congr 1; omega), rfl, by omega, by omega, by omega, Nat.le_refl _, S2, ⟨fun _ => by rw [Nat.add_sub_cancel]; exact HLV.out, HI.out.2⟩⟩
      | false =>
        have hv : ¬ cf x y < 0 := by rw [hx, hy]; exact of_decide_eq_false hlv
        have hd : decide (cf x y < 0) = false := decide_eq_false hv
        have HLV : Aside ((ltOf cf) dk[h]! dk[a]! = false) := hlv
        clear hx hy hlv
        have rh : IntKind.i64.wrap ((h : Int) + 1) = (h : Int) + 1 := i64_in1 h brh
        go_wp2_with fail
        refine wp_region_quiet_below (by assumption) (by kernel_rfl) ?_
        repeat (quiet_step (first | (go_at_fn g; refine Calls.regrown_of (hc _ _))))
        refine wpQuiet_nil ?_
        intro _ hw'
        obtain ⟨⟨dq, osq⟩, hw''⟩ := hw'
        subst hw''
        have S2 : Aside (SW (ev val) w0 blk off dk (grow (redrawn wr dq) osq)) := sw_regrown S1.out HZ.out dq osq
        clear la lb hc S1
        generalize grow (redrawn wr dq) osq = w2 at S2 ⊢
        clear dq osq
        go_wp2
        clear rh brh
        have hh := HH.out
        go_roundg (h - i)
        case measure => omega
        case rel => exact ⟨i, h, rfl, by first | rfl | go_num | (congr 1; omega), by omega, by omega, by omega, Nat.le_refl _, S2, ⟨HI.out.1, fun _ => HLV.out⟩⟩
    · have hltz : ¬ (i : Int) < (j : Int) := by omega
      have e : i = j := by omega
      subst e
      have FIN : Aside (PermIn a b dk (up dk a (i - 1 - a)) ∧ SortedIn ah a b (up dk a (i - 1 - a))) := one_end HS.out (by have := HA.out; rwa [HM.out] at this) (by have := HM.out; omega) (by omega) (fun h => HI.out.1 (by have := HM.out; omega)) (fun h => HI.out.2 h)
      clear HI
      obtain ⟨ip, hip⟩ : ∃ q, q + 1 = i := ⟨i - 1, by omega⟩
      have zi : (i : Int) - 1 = (ip : Int) := by omega
      have ri := i64_in ip (by omega)
      go_wp2
      go_loopg [13] (ip - a) (fun g2 vk wr2 => ∃ (k : Nat), vk = .int .i64 k ∧ a ≤ k ∧ k ≤ ip ∧ ip - k ≤ g2 ∧ Aside (SW (ev val) w0 blk off (up dk a (k - a)) wr2))
      case atStart => exact ⟨a, rfl, by omega, by omega, by omega, by rw [Nat.sub_self]; exact S1⟩
      case round =>
        clear S1
        obtain ⟨k, rfl, hk1, hk2, hg2, SJ⟩ := hrel
        by_cases hkl : k < ip
        · have hklz : (k : Int) < (ip : Int) := by omega
          obtain ⟨dj, hdj⟩ : ∃ x, x = up dk a (k - a) := ⟨_, rfl⟩
          have hsj : dj.size = sz := by rw [hdj, size_up]; exact hk
          rw [← hdj] at SJ
          have HDJ : Aside (dj = up dk a (k - a)) := hdj
          clear hdj
          obtain ⟨k1, hk3⟩ : ∃ q, q = k + 1 := ⟨_, rfl⟩
          have ek : (k : Int) + 1 = (k1 : Int) := by omega
          have HK1 : Aside (k1 = k + 1) := hk3
          have rk := i64_in k1 (by omega)
          have bk : (k : Int) < (sz : Int) := by omega
          have bk1 : (k1 : Int) < (sz : Int) := by omega
          have hk4 : k1 < dj.size := by omega
          have hk5 : k < dj.size := by omega
          clear hk3
          obtain ⟨x, hx⟩ : ∃ x, x = dj[k]! := ⟨_, rfl⟩
          obtain ⟨y, hy⟩ : ∃ x, x = dj[k1]! := ⟨_, rfl⟩
          have S3 : Aside (SW (ev val) w0 blk off (swp dj (k) (k1)) ((wr.setCell ⟨blk, off + k, none⟩ (.int .i64 (val y))).setCell ⟨blk, off + k1, none⟩ (.int .i64 (val x))).drew) := by rw [hx, hy]; exact SJ.out.swapped R (k) (k1) (by omega) (by omega)
          have c1a : wr.cell? ⟨blk, off + k, none⟩ = some (.int .i64 (val x)) := by rw [hx]; exact SJ.out.c1 R (by omega) (k) (by omega)
          have c1b : wr.cell? ⟨blk, off + k1, none⟩ = some (.int .i64 (val y)) := by rw [hy]; exact SJ.out.c1 R (by omega) (k1) (by omega)
          have f1a : wr.frozen? ⟨blk, off + k, none⟩ = false := SJ.out.f1 R (by omega) (k) (by omega)
          have f1b : wr.frozen? ⟨blk, off + k1, none⟩ = false := SJ.out.f1 R (by omega) (k1) (by omega)
          obtain ⟨u, c1c⟩ : ∃ u, (wr.setCell ⟨blk, off + k, none⟩ (.int .i64 (val y))).cell? ⟨blk, off + k1, none⟩ = some u := SJ.out.c2 R (by omega) (k) (k1) (by omega) (by omega) (ev val y)
          clear SJ hx hy
          go_wp2_with fail
          go_big_region_o
          clear c1a c1b c1c f1a f1b
          generalize ((wr.setCell ⟨blk, off + k, none⟩ (.int .i64 (val y))).setCell ⟨blk, off + k1, none⟩ (.int .i64 (val x))).drew = w3 at S3 ⊢
          go_wp2
          go_roundg (ip - k1)
          case measure => have := HK1.out; omega
          case rel => exact ⟨k1, by first | rfl | go_num | (congr 1; omega), by have := HK1.out; omega, by have := HK1.out; omega, Nat.le_refl _, by have h9 := HK1.out; rw [show k1 - a = (k - a) + 1 by omega, up, ← HDJ.out, show a + (k - a) = k by omega, ← h9]; exact S3⟩
        · have hklz : ¬ (k : Int) < (ip : Int) := by omega
          have e : k = ip := by omega
          subst e
          go_wp2
          first | go_end0 | go_ret
          exact ⟨rfl, _, SJ, by have h9 := FIN.out.1; rwa [show i - 1 - a = k - a by omega] at h9, by have h9 := FIN.out.2; rwa [show i - 1 - a = k - a by omega] at h9⟩
set_option maxHeartbeats 16000000 in
set_option maxRecDepth 1000000 in
theorem sym2_s (val : α → Int) (cf : α → α → Int) (ah : α → α → Bool) (hS : SWO ah) (g : Nat) (cb : Array Value) (blk off cap sz a m b : Nat) (d0 dk : Array α) (w0 w : World) (eg : ∀ args w, (callFunc g args).run Tryd.prog w = .ok (.enter g args) w) (hz : w0.drawn = 0)
    (hcmp : CmpB Tryd.prog g cb (ev val) cf blk off sz w0) (R : Row1 (ev val) w0 blk off d0) (hs : d0.size = sz) (hk : dk.size = sz) (S : SW (ev val) w0 blk off dk w) (A : Asks ah (ltOf cf) a m b dk) (hsz : sz < 1000000000) (hm : b = m + 1) (hne : ¬ m = a + 1) :
    Calls Tryd.prog 65 #[.slice (some ⟨blk, off, none⟩) sz cap, .int .i64 a, .int .i64 m, .int .i64 b, .func (.func g) #[] cb] w (Merged val ah w0 blk off a b dk) := by
  have mixed : Tryd.prog.follows .mixedOrders = true := by kernel_rfl
  have HZ : Hid _ := hz
  have HC : Aside (CmpB Tryd.prog g cb (ev val) cf blk off sz w0) := hcmp
  have HA : Aside (Asks ah (ltOf cf) a m b dk) := A
  have S0 : Aside (SW (ev val) w0 blk off dk w) := S
  have HS : Aside (SWO ah) := hS
  have ham := A.ham
  have hmb := A.hmb
  have hbd := A.hb
  clear S hcmp hz A hS
  obtain ⟨ma, hma⟩ : ∃ q, q + a = m := ⟨m - a, by omega⟩
  have e0 : (m : Int) - (a : Int) = (ma : Int) := by omega
  have r0 := i64_in ma (by omega)
  have n0 : ((ma : Int) == 1) = false := beq_eq_false_iff_ne.mpr (by omega)
  have e1 : (b : Int) - (m : Int) = 1 := by omega
  have bM : (m : Int) < (sz : Int) := by omega
  have HM : Aside (b = m + 1) := hm
  have HMA : Aside (ma + a = m) := hma
  clear hm hma hne
  go_enter Tryd.func65, Tryd.ntmps65
  go_wp2
  go_loopg [14, 15] (m - a) (fun g1 vi vj wr => ∃ (i j : Nat), vi = .int .i64 i ∧ vj = .int .i64 j ∧ a ≤ i ∧ i ≤ j ∧ j ≤ m ∧ j - i ≤ g1 ∧ Aside (SW (ev val) w0 blk off dk wr) ∧ Aside ((a < i → (ltOf cf) dk[m]! dk[i - 1]! = false) ∧ (j < m → (ltOf cf) dk[m]! dk[j]! = true)))
  case atStart => exact ⟨a, m, rfl, rfl, by omega, by omega, by omega, by omega, S0, ⟨fun h => absurd h (by omega), fun h => absurd h (by omega)⟩⟩
  case round =>
    clear S0
    obtain ⟨i, j, rfl, rfl, hi1, hij, hj1, hg1, S1, HI⟩ := hrel
    by_cases hlt : i < j
    · have hltz : (i : Int) < (j : Int) := by omega
      obtain ⟨h, hh⟩ : ∃ q, q = (i + j) / 2 := ⟨_, rfl⟩
      have eh : ((i : Int) + (j : Int)) / 2 = (h : Int) := by omega
      have h1 : i ≤ h := by omega
      have h2 : h < j := by omega
      have HH : Aside (h = (i + j) / 2) := hh
      clear hh
      have bh : (h : Int) < (sz : Int) := by omega
      have brh : h + 1 < 4611686018427387904 := by omega
      obtain ⟨x, hx⟩ : ∃ x, x = dk[m]! := ⟨_, rfl⟩
      obtain ⟨y, hy⟩ : ∃ x, x = dk[h]! := ⟨_, rfl⟩
      have la : ∀ dq os, (grow (redrawn wr dq) os).cell? ⟨blk, off + m, none⟩ = some (.int .i64 (val x)) := by rw [hx]; exact sw_cr S1.out R (by omega) (m) (by omega)
      have lb : ∀ dq os, (grow (redrawn wr dq) os).cell? ⟨blk, off + h, none⟩ = some (.int .i64 (val y)) := by rw [hy]; exact sw_cr S1.out R (by omega) (h) (by omega)
      have hc := sw_cmp S1.out HZ.out HC.out (by omega) x y
      simp only [ev] at hc
      cases hlv : (ltOf cf) dk[m]! dk[h]! with
      | true =>
        have hv : cf x y < 0 := by rw [hx, hy]; exact of_decide_eq_true hlv
        have hd : decide (cf x y < 0) = true := decide_eq_true hv
        have HLV : Aside ((ltOf cf) dk[m]! dk[h]! = true) := hlv
        clear hx hy hlv
        have rh : IntKind.i64.wrap ((h : Int) + 1) = (h : Int) + 1 := i64_in1 h brh
        go_wp2_with fail
        refine wp_region_quiet_below (by assumption) (by kernel_rfl) ?_
        repeat (quiet_step (first | (go_at_fn g; refine Calls.regrown_of (hc _ _))))
        refine wpQuiet_nil ?_
        intro _ hw'
        obtain ⟨⟨dq, osq⟩, hw''⟩ := hw'
        subst hw''
        have S2 : Aside (SW (ev val) w0 blk off dk (grow (redrawn wr dq) osq)) := sw_regrown S1.out HZ.out dq osq
        clear la lb hc S1
        generalize grow (redrawn wr dq) osq = w2 at S2 ⊢
        clear dq osq
        go_wp2
        clear rh brh
        have hh := HH.out
        go_roundg (h - i)
        case measure => omega
        case rel => exact ⟨i, h, rfl, by first | rfl | go_num | (congr 1; omega), by omega, by omega, by omega, Nat.le_refl _, S2, ⟨HI.out.1, fun _ => HLV.out⟩⟩
      | false =>
        have hv : ¬ cf x y < 0 := by rw [hx, hy]; exact of_decide_eq_false hlv
        have hd : decide (cf x y < 0) = false := decide_eq_false hv
        have HLV : Aside ((ltOf cf) dk[m]! dk[h]! = false) := hlv
        clear hx hy hlv
        have rh : IntKind.i64.wrap ((h : Int) + 1) = (h : Int) + 1 := i64_in1 h brh
        go_wp2_with fail
        refine wp_region_quiet_below (by assumption) (by kernel_rfl) ?_
        repeat (quiet_step (first | (go_at_fn g; refine Calls.regrown_of (hc _ _))))
        refine wpQuiet_nil ?_
        intro _ hw'
        obtain ⟨⟨dq, osq⟩, hw''⟩ := hw'
        subst hw''
        have S2 : Aside (SW (ev val) w0 blk off dk (grow (redrawn wr dq) osq)) := sw_regrown S1.out HZ.out dq osq
        clear la lb hc S1
        generalize grow (redrawn wr dq) osq = w2 at S2 ⊢
        clear dq osq
        go_wp2
        clear rh brh
        have hh := HH.out
        go_roundg (j - (h + 1))
        case measure => omega
        case rel => exact ⟨h + 1, j, by first | rfl | go_num | (congr 1; omega), rfl, by omega, by omega, by omega, Nat.le_refl _, S2, ⟨fun _ => by rw [Nat.add_sub_cancel]; exact HLV.out, HI.out.2⟩⟩
    · have hltz : ¬ (i : Int) < (j : Int) := by omega
      have e : i = j := by omega
      subst e
      have FIN : Aside (PermIn a b dk (down dk m (m - i)) ∧ SortedIn ah a b (down dk m (m - i))) := by have h8 := HM.out; rw [h8]; exact last_end HS.out (by have := HA.out; rwa [h8] at this) (by omega) (by omega) (fun h => HI.out.1 h) (fun h => HI.out.2 h)
      clear HI
      go_wp2
      go_loopg [17] (m - i) (fun g2 vk wr2 => ∃ (k : Nat), vk = .int .i64 k ∧ i ≤ k ∧ k ≤ m ∧ k - i ≤ g2 ∧ Aside (SW (ev val) w0 blk off (down dk m (m - k)) wr2))
      case atStart => exact ⟨m, rfl, by omega, by omega, by omega, by rw [Nat.sub_self]; exact S1⟩
      case round =>
        clear S1
        obtain ⟨k, rfl, hk1, hk2, hg2, SJ⟩ := hrel
        by_cases hkl : i < k
        · have hklz : (i : Int) < (k : Int) := by omega
          obtain ⟨dj, hdj⟩ : ∃ x, x = down dk m (m - k) := ⟨_, rfl⟩
          have hsj : dj.size = sz := by rw [hdj, size_down]; exact hk
          rw [← hdj] at SJ
          have HDJ : Aside (dj = down dk m (m - k)) := hdj
          clear hdj
          obtain ⟨kp, hk3⟩ : ∃ q, q + 1 = k := ⟨k - 1, by omega⟩
          have ek : (k : Int) - 1 = (kp : Int) := by omega
          have HK1 : Aside (kp + 1 = k) := hk3
          have rk := i64_in kp (by omega)
          have bk : (k : Int) < (sz : Int) := by omega
          have bk1 : (kp : Int) < (sz : Int) := by omega
          have hk4 : kp < dj.size := by omega
          have hk5 : k < dj.size := by omega
          clear hk3
          obtain ⟨x, hx⟩ : ∃ x, x = dj[k]! := ⟨_, rfl⟩
          obtain ⟨y, hy⟩ : ∃ x, x = dj[kp]! := ⟨_, rfl⟩
          have S3 : Aside (SW (ev val) w0 blk off (swp dj (k) (kp)) ((wr.setCell ⟨blk, off + k, none⟩ (.int .i64 (val y))).setCell ⟨blk, off + kp, none⟩ (.int .i64 (val x))).drew) := by rw [hx, hy]; exact SJ.out.swapped R (k) (kp) (by omega) (by omega)
          have c1a : wr.cell? ⟨blk, off + k, none⟩ = some (.int .i64 (val x)) := by rw [hx]; exact SJ.out.c1 R (by omega) (k) (by omega)
          have c1b : wr.cell? ⟨blk, off + kp, none⟩ = some (.int .i64 (val y)) := by rw [hy]; exact SJ.out.c1 R (by omega) (kp) (by omega)
          have f1a : wr.frozen? ⟨blk, off + k, none⟩ = false := SJ.out.f1 R (by omega) (k) (by omega)
          have f1b : wr.frozen? ⟨blk, off + kp, none⟩ = false := SJ.out.f1 R (by omega) (kp) (by omega)
          obtain ⟨u, c1c⟩ : ∃ u, (wr.setCell ⟨blk, off + k, none⟩ (.int .i64 (val y))).cell? ⟨blk, off + kp, none⟩ = some u := SJ.out.c2 R (by omega) (k) (kp) (by omega) (by omega) (ev val y)
          clear SJ hx hy
          go_wp2_with fail
          go_big_region_o
          clear c1a c1b c1c f1a f1b
          generalize ((wr.setCell ⟨blk, off + k, none⟩ (.int .i64 (val y))).setCell ⟨blk, off + kp, none⟩ (.int .i64 (val x))).drew = w3 at S3 ⊢
          go_wp2
          go_roundg (kp - i)
          case measure => have := HK1.out; omega
          case rel => exact ⟨kp, by first | rfl | go_num | (congr 1; omega), by have := HK1.out; omega, by have := HK1.out; omega, Nat.le_refl _, by have h9 := HK1.out; rw [show m - kp = (m - k) + 1 by omega, down, ← HDJ.out, show m - (m - k) = k by omega, show k - 1 = kp by omega]; exact S3⟩
        · have hklz : ¬ (i : Int) < (k : Int) := by omega
          have e : i = k := by omega
          subst e
          go_wp2
          first | go_end0 | go_ret
          exact ⟨rfl, _, SJ, FIN.out.1, FIN.out.2⟩
end Go.Proofs.YthedigbdkjcpfaaDoor.Sta
