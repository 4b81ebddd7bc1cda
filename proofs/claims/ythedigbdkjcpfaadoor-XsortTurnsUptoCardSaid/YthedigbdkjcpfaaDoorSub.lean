/- slices.stableCmpFunc[int], slices.SortStableFunc[[]int,int], walked; the memory of the row. -/
import Derived.Test.YthedigbdkjcpfaaDoorSua
import Derived.Test.YthedigbdkjcpfaaDoorWWords
/- slices.stableCmpFunc[int] and slices.SortStableFunc[[]int,int], walked: a row of rising keys becomes sorted, alike ones in order. -/
set_option linter.unusedVariables false
set_option linter.unusedSimpArgs false
namespace Go.Proofs.YthedigbdkjcpfaaDoor.Sta
open Go.Shelf Go.RowKit Go.Lib Go.Sort
variable {α : Type} [Inhabited α]
theorem dbl (bs q : Nat) : 2 * bs * q + 2 * bs = 2 * bs * (q + 1) := by rw [Nat.mul_add, Nat.mul_one]
set_option maxHeartbeats 16000000 in
set_option maxRecDepth 1000000 in
theorem stable_s (val : α → Int) (cf : α → α → Int) (ah : α → α → Bool) (hS : SWO ah) (key : α → Nat) (hP : ∀ x y, key x < key y → (ltOf cf) y x = ah y x) (g : Nat) (cb : Array Value) (blk off cap sz : Nat) (d0 d : Array α) (w0 w : World) (eg : ∀ args w, (callFunc g args).run Tryd.prog w = .ok (.enter g args) w) (hz : w0.drawn = 0)
    (hcmp : 0 < sz → CmpB Tryd.prog g cb (ev val) cf blk off sz w0) (R : Row1 (ev val) w0 blk off d0) (hs : d0.size = sz) (hk : d.size = sz) (hkey : ∀ k, k < sz → key d[k]! = k) (S : SW (ev val) w0 blk off d w) (hsz : sz < 100000000) :
    Calls Tryd.prog 46 #[.slice (some ⟨blk, off, none⟩) sz cap, .int .i64 sz, .func (.func g) #[] cb] w (Merged val ah w0 blk off 0 sz d) := by
  have HC : Aside (0 < sz → CmpB Tryd.prog g cb (ev val) cf blk off sz w0) := hcmp
  have HS : Aside (SWO ah) := hS
  have HP : Aside (∀ x y, key x < key y → (ltOf cf) y x = ah y x) := hP
  have HK : Aside (∀ k, k < sz → key d[k]! = k) := hkey
  have S0 : Aside (SW (ev val) w0 blk off d w) := S
  have I0 : Aside (Ins ah key sz 20 0 d d) := Ins.start hk hkey
  have CI : Aside (∀ (a b : Nat) (dk : Array α) (wk : World), dk.size = sz → Aside (SW (ev val) w0 blk off dk wk) → a ≤ b → b ≤ sz →
      Calls Tryd.prog 64 #[.slice (some ⟨blk, off, none⟩) sz cap, .int .i64 a, .int .i64 b, .func (.func g) #[] cb] wk fun e w' => e = .returned (.tuple #[]) ∧ Aside (SW (ev val) w0 blk off (Sort.insertionSort (ltOf cf) dk a b) w')) := fun a b dk wk h1 h2 h3 h4 => by
    have := insertion_s val cf g cb blk off cap a b d0 dk w0 wk eg hz (by rw [h1]; exact hcmp) R (by omega) h2 h3 (by omega) (by omega)
    rw [h1] at this
    exact this
  have CS : Aside (∀ (a m b : Nat) (dk : Array α) (wk : World), dk.size = sz → Aside (SW (ev val) w0 blk off dk wk) → Asks ah (ltOf cf) a m b dk →
      Calls Tryd.prog 65 #[.slice (some ⟨blk, off, none⟩) sz cap, .int .i64 a, .int .i64 m, .int .i64 b, .func (.func g) #[] cb] wk (Merged val ah w0 blk off a b dk)) := fun a m b dk wk h1 h2 h3 =>
    sym_s val cf ah hS g cb blk off cap sz d0 w0 eg hz (hcmp (by have := h3.ham; have := h3.hmb; have := h3.hb; omega)) R hs (by omega) (b - a) a m b dk wk (Nat.le_refl _) h1 h2 h3
  clear S hcmp hS hP hkey hz R
  go_enter Tryd.func46, Tryd.ntmps46
  go_wp2
  go_loopg [7, 8] (sz + 1) (fun g1 va vb wr => ∃ (A B : Nat) (dk : Array α), va = .int .i64 A ∧ vb = .int .i64 B ∧ A + 20 ≤ B ∧ B ≤ A + 20 ∧ A ≤ sz ∧ sz + 1 - A ≤ g1 ∧ Aside (∃ q, A = 20 * q) ∧ dk.size = sz ∧ Aside (SW (ev val) w0 blk off dk wr) ∧ Aside (Ins ah key sz 20 A d dk))
  case atStart => exact ⟨0, 20, d, rfl, rfl, by omega, by omega, by omega, by omega, ⟨0, rfl⟩, hk, S0, I0⟩
  case round =>
    clear S0 I0
    obtain ⟨A, B, dk, rfl, rfl, h1, h2, h3, hg1, HQ, hk1, S1, I1⟩ := hrel
    by_cases hlt : B ≤ sz
    · have hltz : (B : Int) ≤ (sz : Int) := by omega
      have HC1 : Aside (Calls Tryd.prog 64 #[.slice (some ⟨blk, off, none⟩) sz cap, .int .i64 A, .int .i64 B, .func (.func g) #[] cb] wr fun e w' => e = .returned (.tuple #[]) ∧ Aside (SW (ev val) w0 blk off (Sort.insertionSort (ltOf cf) dk A B) w')) := CI.out A B dk wr hk1 S1 (by omega) hlt
      have I2 : Aside (Ins ah key sz 20 B d (Sort.insertionSort (ltOf cf) dk A B)) := by
        obtain ⟨q, rfl⟩ := HQ.out
        exact Ins.next HS.out HP.out HK.out I1.out (by omega) hlt h2
      have HQ2 : Aside (∃ q, B = 20 * q) := by obtain ⟨q, hq⟩ := HQ.out; exact ⟨q + 1, by omega⟩
      clear S1 I1 HQ
      obtain ⟨C, hC⟩ : ∃ q, q = B + 20 := ⟨_, rfl⟩
      have c1 : B + 20 ≤ C := by omega
      have c2 : C ≤ B + 20 := by omega
      have e1 : (B : Int) + 20 = (C : Int) := by omega
      clear hC
      have r1 := i64_in C (by omega)
      go_wp2_with (go_at_call 64; refine Calls.mono HC1.out ?_; rintro e w1 ⟨rfl, S2⟩)
      clear r1
      go_roundg (sz + 1 - B)
      case measure => omega
      case rel => exact ⟨B, C, _, rfl, rfl, c1, c2, hlt, Nat.le_refl _, HQ2, I2.out.size, S2, I2⟩
    · have hltz : ¬ (B : Int) ≤ (sz : Int) := by omega
      have HC1 : Aside (Calls Tryd.prog 64 #[.slice (some ⟨blk, off, none⟩) sz cap, .int .i64 A, .int .i64 sz, .func (.func g) #[] cb] wr fun e w' => e = .returned (.tuple #[]) ∧ Aside (SW (ev val) w0 blk off (Sort.insertionSort (ltOf cf) dk A sz) w')) := CI.out A sz dk wr hk1 S1 h3 (Nat.le_refl _)
      have B0 : Aside (Blk ah key sz 20 d (Sort.insertionSort (ltOf cf) dk A sz)) := by
        obtain ⟨q, rfl⟩ := HQ.out
        exact (Ins.next HS.out HP.out HK.out I1.out (by omega) (Nat.le_refl _) (by omega)).done
      obtain ⟨dm, hdm⟩ : ∃ x, x = Sort.insertionSort (ltOf cf) dk A sz := ⟨_, rfl⟩
      rw [← hdm] at HC1 B0
      clear S1 I1 HQ hdm
      go_wp2_with (go_at_call 64; refine Calls.mono HC1.out ?_; rintro e w1 ⟨rfl, S2⟩)
      clear HC1
      go_loopg [6] (sz + 1) (fun g1 vb wr => ∃ (bs : Nat) (dk : Array α), vb = .int .i64 bs ∧ 20 ≤ bs ∧ bs ≤ 2 * sz + 20 ∧ sz + 1 - bs ≤ g1 ∧ Aside (SW (ev val) w0 blk off dk wr) ∧ Aside (Blk ah key sz bs d dk))
      case atStart => exact ⟨20, dm, rfl, by omega, by omega, by omega, S2, B0⟩
      case round =>
        clear S2 B0
        obtain ⟨bs, dj, rfl, b1, b2, hg2, S3, B3⟩ := hrel
        by_cases hbl : bs < sz
        · have hblz : (bs : Int) < (sz : Int) := by omega
          obtain ⟨b2s, hb2⟩ : ∃ q, q = 2 * bs := ⟨_, rfl⟩
          have e2 : (2 : Int) * (bs : Int) = (b2s : Int) := by omega
          have e3 : (bs : Int) * 2 = (b2s : Int) := by omega
          have l1 : 2 * bs ≤ b2s := by omega
          have l2 : b2s ≤ 2 * bs := by omega
          have HB2 : Aside (b2s = 2 * bs) := hb2
          clear hb2
          have M0 : Aside (Mix ah key sz bs 0 d dj) := B3.out.mix
          clear B3
          have bb : b2s < 4611686018427387904 := by omega
          have r2 := i64_in b2s bb
          go_wp2
          clear r2
          go_loopg [7, 8] (sz + 1) (fun g1 va vb wr => ∃ (A B : Nat) (dk : Array α), va = .int .i64 A ∧ vb = .int .i64 B ∧ A + b2s ≤ B ∧ B ≤ A + b2s ∧ A ≤ sz ∧ sz + 1 - A ≤ g1 ∧ Aside (∃ q, A = 2 * bs * q) ∧ Aside (SW (ev val) w0 blk off dk wr) ∧ Aside (Mix ah key sz bs A d dk))
          case atStart => exact ⟨0, b2s, dj, rfl, rfl, by omega, by omega, by omega, by omega, ⟨0, rfl⟩, S3, M0⟩
          case round =>
            clear S3 M0
            obtain ⟨A2, B2, dp, rfl, rfl, k1, k2, k3, hg3, HQ, S1, M1⟩ := hrel
            obtain ⟨mm, hmm⟩ : ∃ q, q = A2 + bs := ⟨_, rfl⟩
            have e4 : (A2 : Int) + (bs : Int) = (mm : Int) := by omega
            have l3 : A2 + bs ≤ mm := by omega
            have l4 : mm ≤ A2 + bs := by omega
            have HMM : Aside (mm = A2 + bs) := hmm
            clear hmm
            have bm : mm < 4611686018427387904 := by omega
            by_cases hl2 : B2 ≤ sz
            · have hl2z : (B2 : Int) ≤ (sz : Int) := by omega
              have AK : Asks ah (ltOf cf) A2 mm B2 dp := by
                have hmm := HMM.out
                have hb2 := HB2.out
                obtain ⟨q, rfl⟩ := HQ.out
                have h9 := Mix.asks (lt := ltOf cf) HP.out (by omega) M1.out (hi := B2) (by omega) hl2 (by omega)
                have h8 := M1.out.size
                rw [← hmm] at h9
                exact ⟨by omega, by omega, by omega, h9.1, h9.2.1, h9.2.2⟩
              have HC2 : Aside (Calls Tryd.prog 65 #[.slice (some ⟨blk, off, none⟩) sz cap, .int .i64 A2, .int .i64 mm, .int .i64 B2, .func (.func g) #[] cb] wr (Merged val ah w0 blk off A2 B2 dp)) := CS.out A2 mm B2 dp wr M1.out.size S1 AK
              have M2 : Aside (∀ d' : Array α, PermIn A2 B2 dp d' → SortedIn ah A2 B2 d' → Mix ah key sz bs B2 d d') := fun d' h1 h2 => by
                have hb2 := HB2.out
                obtain ⟨q, rfl⟩ := HQ.out
                have h9 := Mix.next (by omega) M1.out (hi := B2) (by omega) hl2 (by omega) (Or.inr (by omega)) h1 h2
                rwa [show 2 * bs * q + 2 * bs = B2 by omega] at h9
              have HQ2 : Aside (∃ q, B2 = 2 * bs * q) := by
                have hb2 := HB2.out
                obtain ⟨q, rfl⟩ := HQ.out
                exact ⟨q + 1, by rw [← dbl]; omega⟩
              clear S1 M1 HQ AK
              obtain ⟨C, hC⟩ : ∃ q, q = B2 + b2s := ⟨_, rfl⟩
              have c1 : B2 + b2s ≤ C := by omega
              have c2 : C ≤ B2 + b2s := by omega
              have e5 : (B2 : Int) + (b2s : Int) = (C : Int) := by omega
              clear hC
              have bc : C < 4611686018427387904 := by omega
              have r2 := i64_in b2s bb
              have r3 := i64_in mm bm
              have r4 := i64_in C bc
              go_wp2_with (go_at_call 65; refine Calls.mono HC2.out ?_; rintro e w1 ⟨rfl, d', S2, P2, T2⟩)
              clear r2 r3 r4
              go_roundg (sz + 1 - B2)
              case measure => omega
              case rel => exact ⟨B2, C, d', rfl, rfl, c1, c2, hl2, Nat.le_refl _, HQ2, S2, M2.out d' P2 T2⟩
            · have hl2z : ¬ (B2 : Int) ≤ (sz : Int) := by omega
              by_cases hl3 : mm < sz
              · have hl3z : (mm : Int) < (sz : Int) := by omega
                have AK : Asks ah (ltOf cf) A2 mm sz dp := by
                  have hmm := HMM.out
                  have hb2 := HB2.out
                  obtain ⟨q, rfl⟩ := HQ.out
                  have h9 := Mix.asks (lt := ltOf cf) HP.out (by omega) M1.out (hi := sz) (by omega) (Nat.le_refl _) (by omega)
                  have h8 := M1.out.size
                  rw [← hmm] at h9
                  exact ⟨by omega, by omega, by omega, h9.1, h9.2.1, h9.2.2⟩
                have HC2 : Aside (Calls Tryd.prog 65 #[.slice (some ⟨blk, off, none⟩) sz cap, .int .i64 A2, .int .i64 mm, .int .i64 sz, .func (.func g) #[] cb] wr (Merged val ah w0 blk off A2 sz dp)) := CS.out A2 mm sz dp wr M1.out.size S1 AK
                have M2 : Aside (∀ d' : Array α, PermIn A2 sz dp d' → SortedIn ah A2 sz d' → Blk ah key sz b2s d d') := fun d' h1 h2 => by
                  have hb2 := HB2.out
                  obtain ⟨q, rfl⟩ := HQ.out
                  have h9 := Mix.next (by omega) M1.out (hi := sz) (by omega) (Nat.le_refl _) (by omega) (Or.inl rfl) h1 h2
                  rw [hb2]
                  exact h9.done (by omega)
                clear S1 M1 HQ AK
                have r2 := i64_in b2s bb
                have r3 := i64_in mm bm
                go_wp2_with (go_at_call 65; refine Calls.mono HC2.out ?_; rintro e w1 ⟨rfl, d', S2, P2, T2⟩)
                clear r2 r3
                go_roundg (sz + 1 - b2s)
                case measure => omega
                case rel => exact ⟨b2s, d', rfl, by omega, by omega, Nat.le_refl _, S2, M2.out d' P2 T2⟩
              · have hl3z : ¬ (mm : Int) < (sz : Int) := by omega
                have M2 : Aside (Blk ah key sz b2s d dp) := by
                  have hb2 := HB2.out
                  obtain ⟨q, rfl⟩ := HQ.out
                  have h9 := Mix.last (by omega) M1.out (by omega)
                  rw [hb2]
                  exact h9.done (by omega)
                clear M1 HQ
                have r2 := i64_in b2s bb
                have r3 := i64_in mm bm
                go_wp2
                clear r2 r3
                go_roundg (sz + 1 - b2s)
                case measure => omega
                case rel => exact ⟨b2s, dp, rfl, by omega, by omega, Nat.le_refl _, S1, M2⟩
        · have hblz : ¬ (bs : Int) < (sz : Int) := by omega
          go_wp2
          first | go_end0 | go_ret
          exact ⟨rfl, dj, S3, B3.out.perm, B3.out.all (by omega)⟩
set_option maxHeartbeats 16000000 in
set_option maxRecDepth 1000000 in
/-- slices.SortStableFunc at whole numbers -/
theorem sort_stable_s (val : α → Int) (cf : α → α → Int) (ah : α → α → Bool) (hS : SWO ah) (key : α → Nat) (hP : ∀ x y, key x < key y → (ltOf cf) y x = ah y x) (g : Nat) (cb : Array Value) (blk off cap sz : Nat) (d0 d : Array α) (w0 w : World) (eg : ∀ args w, (callFunc g args).run Tryd.prog w = .ok (.enter g args) w) (hz : w0.drawn = 0)
    (hcmp : 0 < sz → CmpB Tryd.prog g cb (ev val) cf blk off sz w0) (R : Row1 (ev val) w0 blk off d0) (hs : d0.size = sz) (hk : d.size = sz) (hkey : ∀ k, k < sz → key d[k]! = k) (S : SW (ev val) w0 blk off d w) (hsz : sz < 100000000) :
    Calls Tryd.prog 25 #[.slice (some ⟨blk, off, none⟩) sz cap, .func (.func g) #[] cb] w (Merged val ah w0 blk off 0 sz d) := by
  have HC1 : Aside (Calls Tryd.prog 46 #[.slice (some ⟨blk, off, none⟩) sz cap, .int .i64 sz, .func (.func g) #[] cb] w (Merged val ah w0 blk off 0 sz d)) := stable_s val cf ah hS key hP g cb blk off cap sz d0 d w0 w eg hz hcmp R hs hk hkey S hsz
  clear hS hP hcmp R S hkey
  go_enter Tryd.func25, Tryd.ntmps25
  go_wp2_with (go_at_call 46; refine Calls.mono HC1.out ?_; rintro e w1 ⟨rfl, d', S2, P2, T2⟩)
  first | go_end0 | go_ret
  exact ⟨rfl, d', S2, P2, T2⟩
set_option maxRecDepth 1000000 in
theorem ins_nil (cmp : Value) (w : World) : Calls Tryd.prog 64 #[.slice none 0 0, .int .i64 0, .int .i64 0, cmp] w fun e w' => e = .returned (.tuple #[]) ∧ w' = w := by
  go_enter Tryd.func64, Tryd.ntmps64
  go_wp2
  go_loopg [8] 1 (fun g1 vi wr => vi = .int .i64 1 ∧ wr = w)
  case atStart => exact ⟨rfl, rfl⟩
  case round =>
    obtain ⟨rfl, rfl⟩ := hrel
    go_wp2
    first | go_end0 | go_ret
    exact ⟨rfl, rfl⟩
set_option maxRecDepth 1000000 in
theorem stable_nil (cmp : Value) (w : World) : Calls Tryd.prog 46 #[.slice none 0 0, .int .i64 0, cmp] w fun e w' => e = .returned (.tuple #[]) ∧ w' = w := by
  have HC := ins_nil cmp w
  go_enter Tryd.func46, Tryd.ntmps46
  go_wp2
  go_loopg [7, 8] 1 (fun g1 va vb wr => va = .int .i64 0 ∧ vb = .int .i64 20 ∧ wr = w)
  case atStart => exact ⟨rfl, rfl, rfl⟩
  case round =>
    obtain ⟨rfl, rfl, rfl⟩ := hrel
    go_wp2_with (go_at_call 64; refine Calls.mono HC ?_; rintro e w1 ⟨rfl, rfl⟩)
    go_loopg [6] 1 (fun g1 va wr2 => va = .int .i64 20 ∧ wr2 = w1)
    case atStart => exact ⟨rfl, rfl⟩
    case round =>
      obtain ⟨rfl, rfl⟩ := hrel
      go_wp2
      first | go_end0 | go_ret
      exact ⟨rfl, rfl⟩
set_option maxRecDepth 1000000 in
/-- .. of no row -/
theorem sort_nil (cmp : Value) (w : World) : Calls Tryd.prog 25 #[.slice none 0 0, cmp] w fun e w' => e = .returned (.tuple #[]) ∧ w' = w := by
  have HC := stable_nil cmp w
  go_enter Tryd.func25, Tryd.ntmps25
  go_wp2_with (go_at_call 46; refine Calls.mono HC ?_; rintro e w1 ⟨rfl, rfl⟩)
  first | go_end0 | go_ret
  exact ⟨rfl, rfl⟩
end Go.Proofs.YthedigbdkjcpfaaDoor.Sta
/- A row of whole numbers of the call's own, ahead of a sort and behind it. -/
set_option linter.unusedVariables false
set_option linter.unusedSimpArgs false
namespace Go.Proofs.YthedigbdkjcpfaaDoor.Sta
open Go.RowKit Go.Proofs.YthedigbdkjcpfaaDoorW.PrintWords
variable {α : Type} [Inhabited α]
theorem nums_of_reps {w : World} {base : Nat} {ok : Nat → Prop} {xs : List Int} {inner : List Value} (h : Reps ((Kd.int .i64).M w base ok) 1 xs inner) : inner = xs.map (Value.int .i64) := by
  have hl := h.1
  apply List.ext_getElem?
  intro j
  by_cases hj : j < xs.length
  · have h2 := h.2 j xs[j] (List.getElem?_eq_getElem hj)
    have h3 : (inner.drop (j * 1)).take 1 = [Value.int .i64 xs[j]] := h2
    rw [Nat.mul_one] at h3
    have h4 := congrArg (fun l => l[0]?) h3
    simp only [List.getElem?_take, List.getElem?_drop, Nat.add_zero, List.getElem?_cons_zero] at h4
    rw [List.getElem?_map, List.getElem?_eq_getElem hj]
    simpa using h4
  · rw [List.getElem?_eq_none (by omega), List.getElem?_eq_none (by rw [List.length_map]; omega)]
theorem reps_nums (w : World) (base : Nat) (ok : Nat → Prop) (xs : List Int) : Reps ((Kd.int .i64).M w base ok) 1 xs (xs.map (Value.int .i64)) := by
  refine ⟨by rw [List.length_map, Nat.mul_one], fun j p hj => ?_⟩
  show ((xs.map (Value.int .i64)).drop (j * 1)).take 1 = [Value.int .i64 p]
  obtain ⟨hjl, rfl⟩ := List.getElem?_eq_some_iff.1 hj
  rw [Nat.mul_one, List.drop_eq_getElem_cons (by simpa using hjl)]
  simp
/-- the block of such a row -/
theorem row_block {e : Nat} {w : World} {base : Nat} {ok : Nat → Prop} {v : Value} {xs : List Int} (h : Kd.R (Kd.int .i64) e w base ok v xs) (hx : 0 < xs.length) :
    ∃ g cap cur, v = .slice (some ⟨g, 0, none⟩) xs.length cap ∧ base ≤ g ∧ w.heap[g]? = some (.cells cur e (0, 0)) ∧ xs.length ≤ cap ∧ cap ≤ maxLen ∧ cur.size = cap ∧ cur.toList.take xs.length = xs.map (Value.int .i64) := by
  obtain ⟨_, inner, ⟨_, ho⟩, hr⟩ := h
  rcases ho with ⟨_, h0⟩ | ⟨g, cap, cur, hv, hg, hh, h1, h2, h3, h4⟩
  · omega
  · have hs : (Kd.int .i64).sz = 1 := rfl
    rw [hs, Nat.mul_one] at h3 h4
    exact ⟨g, cap, cur, hv, hg, hh, h1, h2, h3, by rw [h4]; exact nums_of_reps hr⟩
theorem row_holds (val : α → Int) {e : Nat} {w : World} {g : Nat} {cur : Array Value} {d : Array α} (hh : w.heap[g]? = some (.cells cur e (0, 0))) (hc : cur.toList.take d.size = (d.toList.map val).map (Value.int .i64)) : Go.Sort.Holds (ev val) w g 0 d := by
  intro j hj
  have h1 : cur[j]? = some (ev val d[j]!) := by
    have h2 := congrArg (fun l => l[j]?) hc
    simp only [List.getElem?_take, if_pos hj, List.getElem?_map, Array.getElem?_toList] at h2
    rw [h2, Array.getElem?_eq_getElem hj]
    simp [ev, getElem!_pos d j hj]
  refine ⟨?_, by simp [World.frozen?, hh]⟩
  simp only [World.cell?, hh]
  simpa using h1
theorem row_one (val : α → Int) {e : Nat} {w : World} {g : Nat} {cur : Array Value} {d : Array α} (hh : w.heap[g]? = some (.cells cur e (0, 0))) (hc : cur.toList.take d.size = (d.toList.map val).map (Value.int .i64)) : Row1 (ev val) w g 0 d :=
  ⟨fun x => rfl, row_holds val hh hc, (Array.getElem?_eq_some_iff.1 hh).1⟩
/-- the sort's last world: all else is as it was -/
theorem sw_end {val : α → Int} {e : Nat} {w W : World} {g : Nat} {cur : Array Value} {d : Array α} (h : SW (ev val) (redrawn w 0) g 0 d W) (hh : w.heap[g]? = some (.cells cur e (0, 0))) :
    Below g w W ∧ W.heap[g]? = some (.cells (Go.Sort.putCells (ev val) 0 d cur) e (0, 0)) ∧ w.heap.size ≤ W.heap.size := by
  obtain ⟨m, os, rfl⟩ := h
  have hg := (Array.getElem?_eq_some_iff.1 hh).1
  have at_ : ∀ k, k < w.heap.size → (sortWorld (ev val) (redrawn w 0) g 0 m d os).heap[k]? = (w.heap.modify g (Go.Sort.onCells (Go.Sort.putCells (ev val) 0 d)))[k]? := by
    intro k hk
    show ((w.heap.modify g (Go.Sort.onCells (Go.Sort.putCells (ev val) 0 d))) ++ os)[k]? = _
    rw [Array.getElem?_append, if_pos (by simpa using hk)]
  have hsz : (sortWorld (ev val) (redrawn w 0) g 0 m d os).heap.size = w.heap.size + os.size := by
    show ((w.heap.modify g (Go.Sort.onCells (Go.Sort.putCells (ev val) 0 d))) ++ os).size = _
    simp
  refine ⟨⟨rfl, rfl, rfl, by omega, fun k hk => ?_⟩, ?_, by omega⟩
  · rw [at_ k (by omega), Array.getElem?_modify, if_neg (by omega)]
  · rw [at_ g hg, Array.getElem?_modify, if_pos rfl, hh]
    rfl
theorem put_take (val : α → Int) (d : Array α) (cur : Array Value) (h : d.size ≤ cur.size) : (Go.Sort.putCells (ev val) 0 d cur).toList.take d.size = (d.toList.map val).map (Value.int .i64) := by
  apply List.ext_getElem?
  intro j
  simp only [List.getElem?_take, List.getElem?_map, Array.getElem?_toList, Go.Sort.putCells, Array.getElem?_mapIdx]
  by_cases hj : j < d.size
  · rw [if_pos hj, Array.getElem?_eq_getElem (show j < cur.size by omega), Array.getElem?_eq_getElem hj]
    simp [hj, ev]
  · rw [if_neg hj, Array.getElem?_eq_none (by omega)]
    rfl
theorem row_back (val : α → Int) {e : Nat} {W : World} {g base cap : Nat} {cur : Array Value} {d : Array α} (hg : base ≤ g) (hh : W.heap[g]? = some (.cells (Go.Sort.putCells (ev val) 0 d cur) e (0, 0))) (h1 : d.size ≤ cap) (h2 : cap ≤ maxLen) (h3 : cur.size = cap) :
    Kd.R (Kd.int .i64) e W base (fun _ => True) (.slice (some ⟨g, 0, none⟩) d.size cap) (d.toList.map val) := by
  have hl : (d.toList.map val).length = d.size := by simp
  refine ⟨fun _ _ => trivial, (d.toList.map val).map (Value.int .i64), ⟨?_, Or.inr ⟨g, cap, Go.Sort.putCells (ev val) 0 d cur, ?_, hg, hh, ?_, h2, ?_, ?_⟩⟩, reps_nums _ _ _ _⟩
  · show _ = _ * 1
    simp
  · rw [hl]
  · rw [hl]; exact h1
  · show (Go.Sort.putCells (ev val) 0 d cur).size = cap * 1
    rw [Nat.mul_one, ← h3]
    simp [Go.Sort.putCells]
  · show List.take (_ * 1) _ = _
    rw [Nat.mul_one, hl]
    exact put_take val d cur (by omega)
end Go.Proofs.YthedigbdkjcpfaaDoor.Sta
