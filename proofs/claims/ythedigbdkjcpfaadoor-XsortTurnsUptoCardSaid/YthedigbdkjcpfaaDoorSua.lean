/- slices.symMergeCmpFunc[int], walked: two rows, by halves; the whole. -/
import Derived.Test.YthedigbdkjcpfaaDoorStz
import Derived.Deep.DeepCutAuto
import Derived.Deep.CutBlock
set_option linter.unusedVariables false
set_option linter.unusedSimpArgs false
namespace Go.Proofs.YthedigbdkjcpfaaDoor.Sta
open Go.Shelf Go.RowKit Go.Lib Go.Sort
variable {α : Type} [Inhabited α]
set_option maxHeartbeats 16000000 in
set_option maxRecDepth 1000000 in
theorem sym3_s (val : α → Int) (cf : α → α → Int) (ah : α → α → Bool) (hS : SWO ah) (g : Nat) (cb : Array Value) (blk off cap sz a m b : Nat) (d0 dk : Array α) (w0 w : World) (eg : ∀ args w, (callFunc g args).run Tryd.prog w = .ok (.enter g args) w) (hz : w0.drawn = 0)
    (hcmp : CmpB Tryd.prog g cb (ev val) cf blk off sz w0) (R : Row1 (ev val) w0 blk off d0) (hs : d0.size = sz) (hk : dk.size = sz) (S : SW (ev val) w0 blk off dk w) (A : Asks ah (ltOf cf) a m b dk) (hsz : sz < 1000000000) (hne1 : ¬ m = a + 1) (hne2 : ¬ b = m + 1)
    (IH : ∀ (a' m' b' : Nat) (dk' : Array α) (w' : World), b' - a' < b - a → dk'.size = sz → SW (ev val) w0 blk off dk' w' → Asks ah (ltOf cf) a' m' b' dk' → Calls Tryd.prog 65 #[.slice (some ⟨blk, off, none⟩) sz cap, .int .i64 a', .int .i64 m', .int .i64 b', .func (.func g) #[] cb] w' (Merged val ah w0 blk off a' b' dk')) :
    Calls Tryd.prog 65 #[.slice (some ⟨blk, off, none⟩) sz cap, .int .i64 a, .int .i64 m, .int .i64 b, .func (.func g) #[] cb] w (Merged val ah w0 blk off a b dk) := by
  have mixed : Tryd.prog.follows .mixedOrders = true := by kernel_rfl
  have HZ : Hid _ := hz
  have HC : Aside (CmpB Tryd.prog g cb (ev val) cf blk off sz w0) := hcmp
  have HA : Aside (Asks ah (ltOf cf) a m b dk) := A
  have S0 : Aside (SW (ev val) w0 blk off dk w) := S
  have HS : Aside (SWO ah) := hS
  have ham := A.ham
  have hmb := A.hmb
  have hbd := A.hb
  clear S hcmp hz A hS
  have HIH : Aside (∀ (a' m' b' : Nat) (dk' : Array α) (w' : World), b' - a' < b - a → dk'.size = sz → Aside (SW (ev val) w0 blk off dk' w') → Asks ah (ltOf cf) a' m' b' dk' → Calls Tryd.prog 65 #[.slice (some ⟨blk, off, none⟩) sz cap, .int .i64 a', .int .i64 m', .int .i64 b', .func (.func g) #[] cb] w' (Merged val ah w0 blk off a' b' dk')) := fun a' m' b' dk' w' h1 h2 h3 h4 => IH a' m' b' dk' w' h1 h2 h3 h4
  clear IH
  obtain ⟨ma, hma⟩ : ∃ q, q + a = m := ⟨m - a, by omega⟩
  have e0 : (m : Int) - (a : Int) = (ma : Int) := by omega
  have n0 : ((ma : Int) == 1) = false := beq_eq_false_iff_ne.mpr (by omega)
  obtain ⟨bm, hbm⟩ : ∃ q, q + m = b := ⟨b - m, by omega⟩
  have e1 : (b : Int) - (m : Int) = (bm : Int) := by omega
  have n1 : ((bm : Int) == 1) = false := beq_eq_false_iff_ne.mpr (by omega)
  obtain ⟨mid, hmid⟩ : ∃ q, q = (a + b) / 2 := ⟨_, rfl⟩
  have e2 : ((a : Int) + (b : Int)) / 2 = (mid : Int) := by omega
  obtain ⟨nn, hnn⟩ : ∃ q, q = mid + m := ⟨_, rfl⟩
  have e3 : (mid : Int) + (m : Int) = (nn : Int) := by omega
  obtain ⟨s0, hs0⟩ : ∃ q, q = lo0 a m b := ⟨_, rfl⟩
  obtain ⟨r0_, hr0⟩ : ∃ q, q = hi0 a m b := ⟨_, rfl⟩
  obtain ⟨pp, hpp⟩ : ∃ q, q + 1 = nn := ⟨nn - 1, by omega⟩
  have e4 : (nn : Int) - 1 = (pp : Int) := by omega
  have s0a : a ≤ s0 := by rw [hs0]; unfold lo0; split <;> omega
  have s0p : pp < b + s0 := by rw [hs0]; unfold lo0; split <;> omega
  have r0m : r0_ ≤ m := by rw [hr0]; unfold hi0; split <;> omega
  have r0d : r0_ ≤ mid := by rw [hr0]; unfold hi0; split <;> omega
  have s0r : s0 ≤ r0_ := by rw [hs0, hr0]; unfold lo0 hi0; split <;> omega
  have mb : mid < b := by omega
  have am : a ≤ mid := by omega
  have ppm : mid ≤ pp := by omega
  have ppb : pp < mid + b := by omega
  have ST : Aside (lo0 a m b = s0 ∧ hi0 a m b = r0_ ∧ (a + b) / 2 = mid ∧ mid + m = nn ∧ pp + 1 = nn) := ⟨hs0.symm, hr0.symm, hmid.symm, hnn.symm, hpp⟩
  have SG : Aside (m > mid → s0 + b = nn ∧ r0_ = mid) := fun h => by rw [hs0, hr0]; unfold lo0 hi0; rw [if_pos (by omega), if_pos (by omega)]; omega
  have SL : Aside (¬ m > mid → s0 = a ∧ r0_ = m) := fun h => by rw [hs0, hr0]; unfold lo0 hi0; rw [if_neg (by omega), if_neg (by omega)]; omega
  clear hs0 hr0 hmid hnn hpp hma hbm hne1 hne2
  have b0 : ma < 4611686018427387904 := by omega
  have b1 : bm < 4611686018427387904 := by omega
  have b3 : nn < 4611686018427387904 := by omega
  have b4 : pp < 4611686018427387904 := by omega
  have b5 : s0 < 4611686018427387904 := by omega
  have r0 := i64_in ma b0
  have r1 := i64_in bm b1
  have r3 := i64_in nn b3
  go_enter Tryd.func65, Tryd.ntmps65
  go_upto_if 140 with fail
  clear r0 r1 r3 b0 b1 b3
  go_cut [20, 21] (fun v20 v21 wc => v20 = .int .i64 s0 ∧ v21 = .int .i64 r0_ ∧ Aside (SW (ev val) w0 blk off dk wc))
  case first =>
    by_cases c : m > mid
    · have cz : (mid : Int) < (m : Int) := by omega
      obtain ⟨q1, q2⟩ := SG.out c
      have e5 : (nn : Int) - (b : Int) = (s0 : Int) := by omega
      have r5 := i64_in s0 b5
      clear q1
      go_wp2
      clear r5
      go_meet
      case rel => exact ⟨rfl, by rw [q2], S0⟩
    · have cz : ¬ (mid : Int) < (m : Int) := by omega
      obtain ⟨q1, q2⟩ := SL.out c
      go_wp2
      go_meet
      case rel => exact ⟨by rw [q1], by rw [q2], S0⟩
  case rest =>
    clear S0
    obtain ⟨rfl, rfl, S0⟩ := hcut
    have r4 := i64_in pp b4
    go_wp2
    clear r4 b4 b5
    go_loopg [20, 21] (r0_ - s0) (fun g1 vi vj wr => ∃ (i j : Nat), vi = .int .i64 i ∧ vj = .int .i64 j ∧ s0 ≤ i ∧ i ≤ j ∧ j ≤ r0_ ∧ j - i ≤ g1 ∧ Aside (SW (ev val) w0 blk off dk wr) ∧ Aside ((s0 < i → (ltOf cf) dk[pp - (i - 1)]! dk[i - 1]! = false) ∧ (j < r0_ → (ltOf cf) dk[pp - j]! dk[j]! = true)))
    case atStart => exact ⟨s0, r0_, rfl, rfl, by omega, by omega, by omega, by omega, S0, ⟨fun h => absurd h (by omega), fun h => absurd h (by omega)⟩⟩
    case round =>
      clear S0
      obtain ⟨i, j, rfl, rfl, hi1, hij, hj1, hg1, S1, HI⟩ := hrel
      by_cases hlt : i < j
      · have hltz : (i : Int) < (j : Int) := by omega
        obtain ⟨h, hh⟩ : ∃ q, q = (i + j) / 2 := ⟨_, rfl⟩
        have eh : ((i : Int) + (j : Int)) / 2 = (h : Int) := by omega
        have h1 : i ≤ h := by omega
        have h2 : h < j := by omega
        have HH : Aside (h = (i + j) / 2) := hh
        clear hh
        have bh : (h : Int) < (sz : Int) := by omega
        have brh : h + 1 < 4611686018427387904 := by omega
        obtain ⟨pc, hpc⟩ : ∃ q, q + h = pp := ⟨pp - h, by omega⟩
        have epc : (pp : Int) - (h : Int) = (pc : Int) := by omega
        have bpcw : pc < 4611686018427387904 := by omega
        have bpc : (pc : Int) < (sz : Int) := by omega
        have hpc2 : pc < dk.size := by omega
        have HPC : Aside (pc + h = pp) := hpc
        clear hpc
        obtain ⟨x, hx⟩ : ∃ x, x = dk[pc]! := ⟨_, rfl⟩
        obtain ⟨y, hy⟩ : ∃ x, x = dk[h]! := ⟨_, rfl⟩
        have la : ∀ dq os, (grow (redrawn wr dq) os).cell? ⟨blk, off + pc, none⟩ = some (.int .i64 (val x)) := by rw [hx]; exact sw_cr S1.out R (by omega) (pc) (by omega)
        have lb : ∀ dq os, (grow (redrawn wr dq) os).cell? ⟨blk, off + h, none⟩ = some (.int .i64 (val y)) := by rw [hy]; exact sw_cr S1.out R (by omega) (h) (by omega)
        have hc := sw_cmp S1.out HZ.out HC.out (by omega) x y
        simp only [ev] at hc
        cases hlv : (ltOf cf) dk[pc]! dk[h]! with
        | true =>
          have hv : cf x y < 0 := by rw [hx, hy]; exact of_decide_eq_true hlv
          have hd : decide (cf x y < 0) = true := decide_eq_true hv
          have HLV : Aside ((ltOf cf) dk[pc]! dk[h]! = true) := hlv
          clear hx hy hlv
          have rh : IntKind.i64.wrap ((h : Int) + 1) = (h : Int) + 1 := i64_in1 h brh; have rpc := i64_in pc bpcw
          go_wp2_with fail
          refine wp_region_quiet_below (by assumption) (by kernel_rfl) ?_
          repeat (quiet_step (first | (go_at_fn g; refine Calls.regrown_of (hc _ _))))
          refine wpQuiet_nil ?_
          intro _ hw'
          obtain ⟨⟨dq, osq⟩, hw''⟩ := hw'
          subst hw''
          have S2 : Aside (SW (ev val) w0 blk off dk (grow (redrawn wr dq) osq)) := sw_regrown S1.out HZ.out dq osq
          clear la lb hc S1
          generalize grow (redrawn wr dq) osq = w2 at S2 ⊢
          clear dq osq
          go_wp2
          clear rh brh rpc bpcw
          have hh := HH.out
          go_roundg (h - i)
          case measure => omega
          case rel => exact ⟨i, h, rfl, by first | rfl | go_num | (congr 1; omega), by omega, by omega, by omega, Nat.le_refl _, S2, ⟨HI.out.1, fun _ => by rw [show pp - h = pc by have := HPC.out; omega]; exact HLV.out⟩⟩
        | false =>
          have hv : ¬ cf x y < 0 := by rw [hx, hy]; exact of_decide_eq_false hlv
          have hd : decide (cf x y < 0) = false := decide_eq_false hv
          have HLV : Aside ((ltOf cf) dk[pc]! dk[h]! = false) := hlv
          clear hx hy hlv
          have rh : IntKind.i64.wrap ((h : Int) + 1) = (h : Int) + 1 := i64_in1 h brh; have rpc := i64_in pc bpcw
          go_wp2_with fail
          refine wp_region_quiet_below (by assumption) (by kernel_rfl) ?_
          repeat (quiet_step (first | (go_at_fn g; refine Calls.regrown_of (hc _ _))))
          refine wpQuiet_nil ?_
          intro _ hw'
          obtain ⟨⟨dq, osq⟩, hw''⟩ := hw'
          subst hw''
          have S2 : Aside (SW (ev val) w0 blk off dk (grow (redrawn wr dq) osq)) := sw_regrown S1.out HZ.out dq osq
          clear la lb hc S1
          generalize grow (redrawn wr dq) osq = w2 at S2 ⊢
          clear dq osq
          go_wp2
          clear rh brh rpc bpcw
          have hh := HH.out
          go_roundg (j - (h + 1))
          case measure => omega
          case rel => exact ⟨h + 1, j, by first | rfl | go_num | (congr 1; omega), rfl, by omega, by omega, by omega, Nat.le_refl _, S2, ⟨fun _ => by rw [Nat.add_sub_cancel, show pp - h = pc by have := HPC.out; omega]; exact HLV.out, HI.out.2⟩⟩
      · have hltz : ¬ (i : Int) < (j : Int) := by omega
        have e : i = j := by omega
        subst e
        obtain ⟨g0, g1_, g2, g3, g4⟩ := ST.out
        obtain ⟨e_, he_⟩ : ∃ q, q + i = nn := ⟨nn - i, by omega⟩
        have ee : (nn : Int) - (i : Int) = (e_ : Int) := by omega
        have bre : e_ < 4611686018427387904 := by omega
        have SP0 : Split ah (ltOf cf) dk (rot dk i m e_) a m b mid i e_ := by
          have h7 := sym_split (lt := ltOf cf) HS.out dk a m b i ham hmb hbd HA.out.sL HA.out.sR HA.out.hC (by omega) (by omega)
            (fun h => by have h8 := HI.out.1 (by omega); have h9 := HA.out.hC (i - 1) (pp - (i - 1)) (by omega) (by omega) (by omega) (by omega); rw [show (a + b) / 2 + m - 1 - (i - 1) = pp - (i - 1) by omega, ← h9]; exact h8)
            (fun h => by have h8 := HI.out.2 (by omega); have h9 := HA.out.hC i (pp - i) (by omega) (by omega) (by omega) (by omega); rw [show (a + b) / 2 + m - 1 - i = pp - i by omega, ← h9]; exact h8)
          rw [show (a + b) / 2 + m - i = e_ by omega, g2] at h7
          exact h7
        have SP : Aside (Split ah (ltOf cf) dk (rot dk i m e_) a m b mid i e_) := SP0
        have i1 := SP0.has
        have i2 := SP0.hsm
        have i3 := SP0.hme
        have i4 := SP0.heb
        have i5 := SP0.hsM
        have i6 := SP0.hMe
        clear SP0 HI g0 g1_ g2 g3 g4 he_ ST SG SL
        have hkr : (rot dk i m e_).size = sz := by rw [size_rot]; exact hk
        have PR : Aside (PermIn a b dk (rot dk i m e_)) := by
          show PermIn a b dk (rot dk i m e_)
          by_cases c1 : i < m
          · by_cases c2 : m < e_
            · exact permIn_mono _ _ _ _ _ _ i1 i4 hbd (rot_permIn dk i m e_ c1 c2 (by omega))
            · rw [show e_ = m by omega, rot_left dk i m i5 (by omega)]; exact permIn_refl _ _ _
          · rw [show i = m by omega, rot_right dk m e_ (by omega) (by omega)]; exact permIn_refl _ _ _
        have HR : Aside (¬ (i < m ∧ m < e_) → rot dk i m e_ = dk) := fun h => by
          by_cases c1 : i < m
          · rw [show e_ = m by omega]; exact rot_left dk i m i5 (by omega)
          · rw [show i = m by omega]; exact rot_right dk m e_ i6 (by omega)
        have T3 : Aside (∀ d2 : Array α, PermIn a mid (rot dk i m e_) d2 → SortedIn ah mid e_ d2) := fun d2 P2 x y h1 h2 h3 => by rw [P2.2.1 x (Or.inr h1), P2.2.1 y (Or.inr (by omega))]; exact SP.out.s3 x y h1 h2 h3
        have T4 : Aside (∀ d2 : Array α, PermIn a mid (rot dk i m e_) d2 → SortedIn ah e_ b d2) := fun d2 P2 x y h1 h2 h3 => by rw [P2.2.1 x (Or.inr (by omega)), P2.2.1 y (Or.inr (by omega))]; exact SP.out.s4 x y h1 h2 h3
        have AS : Aside (∀ d2 : Array α, PermIn a mid (rot dk i m e_) d2 → mid < e_ → e_ < b → Asks ah (ltOf cf) mid e_ b d2) := fun d2 P2 h1 h2 => ⟨h1, h2, by have := P2.1; omega, T3.out d2 P2, T4.out d2 P2, fun x y h1 h2 h3 h4 => by rw [P2.2.1 x (Or.inr h1), P2.2.1 y (Or.inr (by omega))]; exact SP.out.c2 x y h1 h2 h3 h4⟩
        have FIN : Aside (∀ d2 d3 : Array α, PermIn a mid (rot dk i m e_) d2 → SortedIn ah a mid d2 → PermIn mid b d2 d3 → SortedIn ah mid b d3 → PermIn a b dk d3 ∧ SortedIn ah a b d3) := fun d2 d3 p2 s2 p3 s3 => sym_join am (by omega) hbd PR.out SP.out.all p2 s2 p3 s3
        have CR : Aside (i < m → m < e_ → Calls Tryd.prog 85 #[.slice (some ⟨blk, off, none⟩) sz cap, .int .i64 i, .int .i64 m, .int .i64 e_, .func (.func g) #[] cb] wr fun e w' => e = .returned (.tuple #[]) ∧ Aside (SW (ev val) w0 blk off (rot dk i m e_) w')) := fun c1 c2 => by
          have := rotate_s val (.func (.func g) #[] cb) blk off cap i m e_ d0 dk w0 wr R (by omega) S1.out c1 c2 (by omega) (by omega)
          rw [hk] at this
          exact this
        by_cases c1 : i < m
        · have z1 : (i : Int) < (m : Int) := by omega
          by_cases c2 : m < e_
          · have z2 : (m : Int) < (e_ : Int) := by omega
            by_cases c3 : a < i
            · have z3 : (a : Int) < (i : Int) := by omega
              by_cases c4 : i < mid
              · have z4 : (i : Int) < (mid : Int) := by omega
                by_cases c5 : mid < e_
                · have z5 : (mid : Int) < (e_ : Int) := by omega
                  by_cases c6 : e_ < b
                  · have z6 : (e_ : Int) < (b : Int) := by omega
                    have re := i64_in e_ bre
                    go_wp2_with (first | (go_at_call 85; refine Calls.mono (CR.out c1 c2) ?_; rintro e w9 ⟨rfl, S9⟩) | (go_at_call_of 65 (Value.int IntKind.i64 (a : Int)); refine Calls.mono (HIH.out a i mid (rot dk i m e_) _ (by omega) hkr S9 ⟨c3, c4, by omega, SP.out.s1, SP.out.s2, SP.out.c1⟩) ?_; rintro e w8 ⟨rfl, d2, S8, P2, T2⟩) | (go_at_call_of 65 (Value.int IntKind.i64 (b : Int)); refine Calls.mono (HIH.out mid e_ b d2 _ (by omega) (by have h_ := (P2 : PermIn a mid (rot dk i m e_) d2).1; omega) S8 (AS.out d2 P2 c5 c6)) ?_; rintro e w7 ⟨rfl, d3, S7, P3, T5⟩))
                    first | go_end0 | go_ret
                    exact ⟨rfl, d3, S7, FIN.out d2 d3 P2 T2 P3 T5⟩
                  · have z6 : ¬ (e_ : Int) < (b : Int) := by omega
                    have re := i64_in e_ bre
                    go_wp2_with (first | (go_at_call 85; refine Calls.mono (CR.out c1 c2) ?_; rintro e w9 ⟨rfl, S9⟩) | (go_at_call_of 65 (Value.int IntKind.i64 (a : Int)); refine Calls.mono (HIH.out a i mid (rot dk i m e_) _ (by omega) hkr S9 ⟨c3, c4, by omega, SP.out.s1, SP.out.s2, SP.out.c1⟩) ?_; rintro e w8 ⟨rfl, d2, S8, P2, T2⟩))
                    first | go_end0 | go_ret
                    exact ⟨rfl, d2, S8, FIN.out d2 d2 P2 T2 (permIn_refl _ _ _) (fun x y q1 q2 q3 => T3.out d2 P2 x y q1 q2 (by omega))⟩
                · have z5 : ¬ (mid : Int) < (e_ : Int) := by omega
                  have re := i64_in e_ bre
                  go_wp2_with (first | (go_at_call 85; refine Calls.mono (CR.out c1 c2) ?_; rintro e w9 ⟨rfl, S9⟩) | (go_at_call_of 65 (Value.int IntKind.i64 (a : Int)); refine Calls.mono (HIH.out a i mid (rot dk i m e_) _ (by omega) hkr S9 ⟨c3, c4, by omega, SP.out.s1, SP.out.s2, SP.out.c1⟩) ?_; rintro e w8 ⟨rfl, d2, S8, P2, T2⟩))
                  first | go_end0 | go_ret
                  exact ⟨rfl, d2, S8, FIN.out d2 d2 P2 T2 (permIn_refl _ _ _) (fun x y q1 q2 q3 => T4.out d2 P2 x y (by omega) q2 q3)⟩
              · have z4 : ¬ (i : Int) < (mid : Int) := by omega
                by_cases c5 : mid < e_
                · have z5 : (mid : Int) < (e_ : Int) := by omega
                  by_cases c6 : e_ < b
                  · have z6 : (e_ : Int) < (b : Int) := by omega
                    have re := i64_in e_ bre
                    go_wp2_with (first | (go_at_call 85; refine Calls.mono (CR.out c1 c2) ?_; rintro e w9 ⟨rfl, S9⟩) | (go_at_call_of 65 (Value.int IntKind.i64 (b : Int)); refine Calls.mono (HIH.out mid e_ b (rot dk i m e_) _ (by omega) (by have h_ := ((permIn_refl _ _ _) : PermIn a mid (rot dk i m e_) (rot dk i m e_)).1; omega) S9 (AS.out (rot dk i m e_) (permIn_refl _ _ _) c5 c6)) ?_; rintro e w7 ⟨rfl, d3, S7, P3, T5⟩))
                    first | go_end0 | go_ret
                    exact ⟨rfl, d3, S7, FIN.out (rot dk i m e_) d3 (permIn_refl _ _ _) (fun x y q1 q2 q3 => SP.out.s1 x y q1 q2 (by omega)) P3 T5⟩
                  · have z6 : ¬ (e_ : Int) < (b : Int) := by omega
                    have re := i64_in e_ bre
                    go_wp2_with (first | (go_at_call 85; refine Calls.mono (CR.out c1 c2) ?_; rintro e w9 ⟨rfl, S9⟩))
                    first | go_end0 | go_ret
                    exact ⟨rfl, (rot dk i m e_), S9, FIN.out (rot dk i m e_) (rot dk i m e_) (permIn_refl _ _ _) (fun x y q1 q2 q3 => SP.out.s1 x y q1 q2 (by omega)) (permIn_refl _ _ _) (fun x y q1 q2 q3 => T3.out (rot dk i m e_) (permIn_refl _ _ _) x y q1 q2 (by omega))⟩
                · have z5 : ¬ (mid : Int) < (e_ : Int) := by omega
                  have re := i64_in e_ bre
                  go_wp2_with (first | (go_at_call 85; refine Calls.mono (CR.out c1 c2) ?_; rintro e w9 ⟨rfl, S9⟩))
                  first | go_end0 | go_ret
                  exact ⟨rfl, (rot dk i m e_), S9, FIN.out (rot dk i m e_) (rot dk i m e_) (permIn_refl _ _ _) (fun x y q1 q2 q3 => SP.out.s1 x y q1 q2 (by omega)) (permIn_refl _ _ _) (fun x y q1 q2 q3 => T4.out (rot dk i m e_) (permIn_refl _ _ _) x y (by omega) q2 q3)⟩
            · have z3 : ¬ (a : Int) < (i : Int) := by omega
              by_cases c5 : mid < e_
              · have z5 : (mid : Int) < (e_ : Int) := by omega
                by_cases c6 : e_ < b
                · have z6 : (e_ : Int) < (b : Int) := by omega
                  have re := i64_in e_ bre
                  go_wp2_with (first | (go_at_call 85; refine Calls.mono (CR.out c1 c2) ?_; rintro e w9 ⟨rfl, S9⟩) | (go_at_call_of 65 (Value.int IntKind.i64 (b : Int)); refine Calls.mono (HIH.out mid e_ b (rot dk i m e_) _ (by omega) (by have h_ := ((permIn_refl _ _ _) : PermIn a mid (rot dk i m e_) (rot dk i m e_)).1; omega) S9 (AS.out (rot dk i m e_) (permIn_refl _ _ _) c5 c6)) ?_; rintro e w7 ⟨rfl, d3, S7, P3, T5⟩))
                  first | go_end0 | go_ret
                  exact ⟨rfl, d3, S7, FIN.out (rot dk i m e_) d3 (permIn_refl _ _ _) (fun x y q1 q2 q3 => SP.out.s2 x y (by omega) q2 q3) P3 T5⟩
                · have z6 : ¬ (e_ : Int) < (b : Int) := by omega
                  have re := i64_in e_ bre
                  go_wp2_with (first | (go_at_call 85; refine Calls.mono (CR.out c1 c2) ?_; rintro e w9 ⟨rfl, S9⟩))
                  first | go_end0 | go_ret
                  exact ⟨rfl, (rot dk i m e_), S9, FIN.out (rot dk i m e_) (rot dk i m e_) (permIn_refl _ _ _) (fun x y q1 q2 q3 => SP.out.s2 x y (by omega) q2 q3) (permIn_refl _ _ _) (fun x y q1 q2 q3 => T3.out (rot dk i m e_) (permIn_refl _ _ _) x y q1 q2 (by omega))⟩
              · have z5 : ¬ (mid : Int) < (e_ : Int) := by omega
                have re := i64_in e_ bre
                go_wp2_with (first | (go_at_call 85; refine Calls.mono (CR.out c1 c2) ?_; rintro e w9 ⟨rfl, S9⟩))
                first | go_end0 | go_ret
                exact ⟨rfl, (rot dk i m e_), S9, FIN.out (rot dk i m e_) (rot dk i m e_) (permIn_refl _ _ _) (fun x y q1 q2 q3 => SP.out.s2 x y (by omega) q2 q3) (permIn_refl _ _ _) (fun x y q1 q2 q3 => T4.out (rot dk i m e_) (permIn_refl _ _ _) x y (by omega) q2 q3)⟩
          · have z2 : ¬ (m : Int) < (e_ : Int) := by omega
            have S9 : Aside (SW (ev val) w0 blk off (rot dk i m e_) wr) := by rw [HR.out (by omega)]; exact S1
            by_cases c3 : a < i
            · have z3 : (a : Int) < (i : Int) := by omega
              by_cases c4 : i < mid
              · have z4 : (i : Int) < (mid : Int) := by omega
                by_cases c5 : mid < e_
                · have z5 : (mid : Int) < (e_ : Int) := by omega
                  by_cases c6 : e_ < b
                  · have z6 : (e_ : Int) < (b : Int) := by omega
                    have re := i64_in e_ bre
                    go_wp2_with (first | (go_at_call_of 65 (Value.int IntKind.i64 (a : Int)); refine Calls.mono (HIH.out a i mid (rot dk i m e_) _ (by omega) hkr S9 ⟨c3, c4, by omega, SP.out.s1, SP.out.s2, SP.out.c1⟩) ?_; rintro e w8 ⟨rfl, d2, S8, P2, T2⟩) | (go_at_call_of 65 (Value.int IntKind.i64 (b : Int)); refine Calls.mono (HIH.out mid e_ b d2 _ (by omega) (by have h_ := (P2 : PermIn a mid (rot dk i m e_) d2).1; omega) S8 (AS.out d2 P2 c5 c6)) ?_; rintro e w7 ⟨rfl, d3, S7, P3, T5⟩))
                    first | go_end0 | go_ret
                    exact ⟨rfl, d3, S7, FIN.out d2 d3 P2 T2 P3 T5⟩
                  · have z6 : ¬ (e_ : Int) < (b : Int) := by omega
                    have re := i64_in e_ bre
                    go_wp2_with (first | (go_at_call_of 65 (Value.int IntKind.i64 (a : Int)); refine Calls.mono (HIH.out a i mid (rot dk i m e_) _ (by omega) hkr S9 ⟨c3, c4, by omega, SP.out.s1, SP.out.s2, SP.out.c1⟩) ?_; rintro e w8 ⟨rfl, d2, S8, P2, T2⟩))
                    first | go_end0 | go_ret
                    exact ⟨rfl, d2, S8, FIN.out d2 d2 P2 T2 (permIn_refl _ _ _) (fun x y q1 q2 q3 => T3.out d2 P2 x y q1 q2 (by omega))⟩
                · have z5 : ¬ (mid : Int) < (e_ : Int) := by omega
                  have re := i64_in e_ bre
                  go_wp2_with (first | (go_at_call_of 65 (Value.int IntKind.i64 (a : Int)); refine Calls.mono (HIH.out a i mid (rot dk i m e_) _ (by omega) hkr S9 ⟨c3, c4, by omega, SP.out.s1, SP.out.s2, SP.out.c1⟩) ?_; rintro e w8 ⟨rfl, d2, S8, P2, T2⟩))
                  first | go_end0 | go_ret
                  exact ⟨rfl, d2, S8, FIN.out d2 d2 P2 T2 (permIn_refl _ _ _) (fun x y q1 q2 q3 => T4.out d2 P2 x y (by omega) q2 q3)⟩
              · have z4 : ¬ (i : Int) < (mid : Int) := by omega
                by_cases c5 : mid < e_
                · have z5 : (mid : Int) < (e_ : Int) := by omega
                  by_cases c6 : e_ < b
                  · have z6 : (e_ : Int) < (b : Int) := by omega
                    have re := i64_in e_ bre
                    go_wp2_with (first | (go_at_call_of 65 (Value.int IntKind.i64 (b : Int)); refine Calls.mono (HIH.out mid e_ b (rot dk i m e_) _ (by omega) (by have h_ := ((permIn_refl _ _ _) : PermIn a mid (rot dk i m e_) (rot dk i m e_)).1; omega) S9 (AS.out (rot dk i m e_) (permIn_refl _ _ _) c5 c6)) ?_; rintro e w7 ⟨rfl, d3, S7, P3, T5⟩))
                    first | go_end0 | go_ret
                    exact ⟨rfl, d3, S7, FIN.out (rot dk i m e_) d3 (permIn_refl _ _ _) (fun x y q1 q2 q3 => SP.out.s1 x y q1 q2 (by omega)) P3 T5⟩
                  · have z6 : ¬ (e_ : Int) < (b : Int) := by omega
                    have re := i64_in e_ bre
                    go_wp2
                    first | go_end0 | go_ret
                    exact ⟨rfl, (rot dk i m e_), S9, FIN.out (rot dk i m e_) (rot dk i m e_) (permIn_refl _ _ _) (fun x y q1 q2 q3 => SP.out.s1 x y q1 q2 (by omega)) (permIn_refl _ _ _) (fun x y q1 q2 q3 => T3.out (rot dk i m e_) (permIn_refl _ _ _) x y q1 q2 (by omega))⟩
                · have z5 : ¬ (mid : Int) < (e_ : Int) := by omega
                  have re := i64_in e_ bre
                  go_wp2
                  first | go_end0 | go_ret
                  exact ⟨rfl, (rot dk i m e_), S9, FIN.out (rot dk i m e_) (rot dk i m e_) (permIn_refl _ _ _) (fun x y q1 q2 q3 => SP.out.s1 x y q1 q2 (by omega)) (permIn_refl _ _ _) (fun x y q1 q2 q3 => T4.out (rot dk i m e_) (permIn_refl _ _ _) x y (by omega) q2 q3)⟩
            · have z3 : ¬ (a : Int) < (i : Int) := by omega
              by_cases c5 : mid < e_
              · have z5 : (mid : Int) < (e_ : Int) := by omega
                by_cases c6 : e_ < b
                · have z6 : (e_ : Int) < (b : Int) := by omega
                  have re := i64_in e_ bre
                  go_wp2_with (first | (go_at_call_of 65 (Value.int IntKind.i64 (b : Int)); refine Calls.mono (HIH.out mid e_ b (rot dk i m e_) _ (by omega) (by have h_ := ((permIn_refl _ _ _) : PermIn a mid (rot dk i m e_) (rot dk i m e_)).1; omega) S9 (AS.out (rot dk i m e_) (permIn_refl _ _ _) c5 c6)) ?_; rintro e w7 ⟨rfl, d3, S7, P3, T5⟩))
                  first | go_end0 | go_ret
                  exact ⟨rfl, d3, S7, FIN.out (rot dk i m e_) d3 (permIn_refl _ _ _) (fun x y q1 q2 q3 => SP.out.s2 x y (by omega) q2 q3) P3 T5⟩
                · have z6 : ¬ (e_ : Int) < (b : Int) := by omega
                  have re := i64_in e_ bre
                  go_wp2
                  first | go_end0 | go_ret
                  exact ⟨rfl, (rot dk i m e_), S9, FIN.out (rot dk i m e_) (rot dk i m e_) (permIn_refl _ _ _) (fun x y q1 q2 q3 => SP.out.s2 x y (by omega) q2 q3) (permIn_refl _ _ _) (fun x y q1 q2 q3 => T3.out (rot dk i m e_) (permIn_refl _ _ _) x y q1 q2 (by omega))⟩
              · have z5 : ¬ (mid : Int) < (e_ : Int) := by omega
                have re := i64_in e_ bre
                go_wp2
                first | go_end0 | go_ret
                exact ⟨rfl, (rot dk i m e_), S9, FIN.out (rot dk i m e_) (rot dk i m e_) (permIn_refl _ _ _) (fun x y q1 q2 q3 => SP.out.s2 x y (by omega) q2 q3) (permIn_refl _ _ _) (fun x y q1 q2 q3 => T4.out (rot dk i m e_) (permIn_refl _ _ _) x y (by omega) q2 q3)⟩
        · have z1 : ¬ (i : Int) < (m : Int) := by omega
          have S9 : Aside (SW (ev val) w0 blk off (rot dk i m e_) wr) := by rw [HR.out (by omega)]; exact S1
          by_cases c3 : a < i
          · have z3 : (a : Int) < (i : Int) := by omega
            by_cases c4 : i < mid
            · have z4 : (i : Int) < (mid : Int) := by omega
              by_cases c5 : mid < e_
              · have z5 : (mid : Int) < (e_ : Int) := by omega
                by_cases c6 : e_ < b
                · have z6 : (e_ : Int) < (b : Int) := by omega
                  have re := i64_in e_ bre
                  go_wp2_with (first | (go_at_call_of 65 (Value.int IntKind.i64 (a : Int)); refine Calls.mono (HIH.out a i mid (rot dk i m e_) _ (by omega) hkr S9 ⟨c3, c4, by omega, SP.out.s1, SP.out.s2, SP.out.c1⟩) ?_; rintro e w8 ⟨rfl, d2, S8, P2, T2⟩) | (go_at_call_of 65 (Value.int IntKind.i64 (b : Int)); refine Calls.mono (HIH.out mid e_ b d2 _ (by omega) (by have h_ := (P2 : PermIn a mid (rot dk i m e_) d2).1; omega) S8 (AS.out d2 P2 c5 c6)) ?_; rintro e w7 ⟨rfl, d3, S7, P3, T5⟩))
                  first | go_end0 | go_ret
                  exact ⟨rfl, d3, S7, FIN.out d2 d3 P2 T2 P3 T5⟩
                · have z6 : ¬ (e_ : Int) < (b : Int) := by omega
                  have re := i64_in e_ bre
                  go_wp2_with (first | (go_at_call_of 65 (Value.int IntKind.i64 (a : Int)); refine Calls.mono (HIH.out a i mid (rot dk i m e_) _ (by omega) hkr S9 ⟨c3, c4, by omega, SP.out.s1, SP.out.s2, SP.out.c1⟩) ?_; rintro e w8 ⟨rfl, d2, S8, P2, T2⟩))
                  first | go_end0 | go_ret
                  exact ⟨rfl, d2, S8, FIN.out d2 d2 P2 T2 (permIn_refl _ _ _) (fun x y q1 q2 q3 => T3.out d2 P2 x y q1 q2 (by omega))⟩
              · have z5 : ¬ (mid : Int) < (e_ : Int) := by omega
                have re := i64_in e_ bre
                go_wp2_with (first | (go_at_call_of 65 (Value.int IntKind.i64 (a : Int)); refine Calls.mono (HIH.out a i mid (rot dk i m e_) _ (by omega) hkr S9 ⟨c3, c4, by omega, SP.out.s1, SP.out.s2, SP.out.c1⟩) ?_; rintro e w8 ⟨rfl, d2, S8, P2, T2⟩))
                first | go_end0 | go_ret
                exact ⟨rfl, d2, S8, FIN.out d2 d2 P2 T2 (permIn_refl _ _ _) (fun x y q1 q2 q3 => T4.out d2 P2 x y (by omega) q2 q3)⟩
            · have z4 : ¬ (i : Int) < (mid : Int) := by omega
              by_cases c5 : mid < e_
              · have z5 : (mid : Int) < (e_ : Int) := by omega
                by_cases c6 : e_ < b
                · have z6 : (e_ : Int) < (b : Int) := by omega
                  have re := i64_in e_ bre
                  go_wp2_with (first | (go_at_call_of 65 (Value.int IntKind.i64 (b : Int)); refine Calls.mono (HIH.out mid e_ b (rot dk i m e_) _ (by omega) (by have h_ := ((permIn_refl _ _ _) : PermIn a mid (rot dk i m e_) (rot dk i m e_)).1; omega) S9 (AS.out (rot dk i m e_) (permIn_refl _ _ _) c5 c6)) ?_; rintro e w7 ⟨rfl, d3, S7, P3, T5⟩))
                  first | go_end0 | go_ret
                  exact ⟨rfl, d3, S7, FIN.out (rot dk i m e_) d3 (permIn_refl _ _ _) (fun x y q1 q2 q3 => SP.out.s1 x y q1 q2 (by omega)) P3 T5⟩
                · have z6 : ¬ (e_ : Int) < (b : Int) := by omega
                  have re := i64_in e_ bre
                  go_wp2
                  first | go_end0 | go_ret
                  exact ⟨rfl, (rot dk i m e_), S9, FIN.out (rot dk i m e_) (rot dk i m e_) (permIn_refl _ _ _) (fun x y q1 q2 q3 => SP.out.s1 x y q1 q2 (by omega)) (permIn_refl _ _ _) (fun x y q1 q2 q3 => T3.out (rot dk i m e_) (permIn_refl _ _ _) x y q1 q2 (by omega))⟩
              · have z5 : ¬ (mid : Int) < (e_ : Int) := by omega
                have re := i64_in e_ bre
                go_wp2
                first | go_end0 | go_ret
                exact ⟨rfl, (rot dk i m e_), S9, FIN.out (rot dk i m e_) (rot dk i m e_) (permIn_refl _ _ _) (fun x y q1 q2 q3 => SP.out.s1 x y q1 q2 (by omega)) (permIn_refl _ _ _) (fun x y q1 q2 q3 => T4.out (rot dk i m e_) (permIn_refl _ _ _) x y (by omega) q2 q3)⟩
          · have z3 : ¬ (a : Int) < (i : Int) := by omega
            by_cases c5 : mid < e_
            · have z5 : (mid : Int) < (e_ : Int) := by omega
              by_cases c6 : e_ < b
              · have z6 : (e_ : Int) < (b : Int) := by omega
                have re := i64_in e_ bre
                go_wp2_with (first | (go_at_call_of 65 (Value.int IntKind.i64 (b : Int)); refine Calls.mono (HIH.out mid e_ b (rot dk i m e_) _ (by omega) (by have h_ := ((permIn_refl _ _ _) : PermIn a mid (rot dk i m e_) (rot dk i m e_)).1; omega) S9 (AS.out (rot dk i m e_) (permIn_refl _ _ _) c5 c6)) ?_; rintro e w7 ⟨rfl, d3, S7, P3, T5⟩))
                first | go_end0 | go_ret
                exact ⟨rfl, d3, S7, FIN.out (rot dk i m e_) d3 (permIn_refl _ _ _) (fun x y q1 q2 q3 => SP.out.s2 x y (by omega) q2 q3) P3 T5⟩
              · have z6 : ¬ (e_ : Int) < (b : Int) := by omega
                have re := i64_in e_ bre
                go_wp2
                first | go_end0 | go_ret
                exact ⟨rfl, (rot dk i m e_), S9, FIN.out (rot dk i m e_) (rot dk i m e_) (permIn_refl _ _ _) (fun x y q1 q2 q3 => SP.out.s2 x y (by omega) q2 q3) (permIn_refl _ _ _) (fun x y q1 q2 q3 => T3.out (rot dk i m e_) (permIn_refl _ _ _) x y q1 q2 (by omega))⟩
            · have z5 : ¬ (mid : Int) < (e_ : Int) := by omega
              have re := i64_in e_ bre
              go_wp2
              first | go_end0 | go_ret
              exact ⟨rfl, (rot dk i m e_), S9, FIN.out (rot dk i m e_) (rot dk i m e_) (permIn_refl _ _ _) (fun x y q1 q2 q3 => SP.out.s2 x y (by omega) q2 q3) (permIn_refl _ _ _) (fun x y q1 q2 q3 => T4.out (rot dk i m e_) (permIn_refl _ _ _) x y (by omega) q2 q3)⟩
theorem sym_s (val : α → Int) (cf : α → α → Int) (ah : α → α → Bool) (hS : SWO ah) (g : Nat) (cb : Array Value) (blk off cap sz : Nat) (d0 : Array α) (w0 : World) (eg : ∀ args w, (callFunc g args).run Tryd.prog w = .ok (.enter g args) w) (hz : w0.drawn = 0)
    (hcmp : CmpB Tryd.prog g cb (ev val) cf blk off sz w0) (R : Row1 (ev val) w0 blk off d0) (hs : d0.size = sz) (hsz : sz < 1000000000) :
    ∀ (n a m b : Nat) (dk : Array α) (w : World), b - a ≤ n → dk.size = sz → SW (ev val) w0 blk off dk w → Asks ah (ltOf cf) a m b dk → Calls Tryd.prog 65 #[.slice (some ⟨blk, off, none⟩) sz cap, .int .i64 a, .int .i64 m, .int .i64 b, .func (.func g) #[] cb] w (Merged val ah w0 blk off a b dk)
  | 0, a, m, b, dk, w, hn, hk, S, A => absurd hn (by have := A.ham; have := A.hmb; omega)
  | n + 1, a, m, b, dk, w, hn, hk, S, A => by
    by_cases c1 : m = a + 1
    · exact sym1_s val cf ah hS g cb blk off cap sz a m b d0 dk w0 w eg hz hcmp R hs hk S A hsz c1
    · by_cases c2 : b = m + 1
      · exact sym2_s val cf ah hS g cb blk off cap sz a m b d0 dk w0 w eg hz hcmp R hs hk S A hsz c2 c1
      · exact sym3_s val cf ah hS g cb blk off cap sz a m b d0 dk w0 w eg hz hcmp R hs hk S A hsz c1 c2
          (fun a' m' b' dk' w' h1 h2 h3 h4 => sym_s val cf ah hS g cb blk off cap sz d0 w0 eg hz hcmp R hs hsz n a' m' b' dk' w' (by omega) h2 h3 h4)
end Go.Proofs.YthedigbdkjcpfaaDoor.Sta
