/- TopPictures, without Go and memory. -/
import Derived.Test.YthedigbdkjcpfaaGreatDoorPrintf4
import Derived.Test.YthedigbdkjcpfaaGreatDoorPrintf5
import Derived.Test.YthedigbdkjcpfaaGreatDoorPrintf16
import Derived.Test.YthedigbdkjcpfaaGreatDoorPrintxnumparse
import Derived.Test.YthedigbdkjcpfaaGreatDoorPrintf12
import Derived.Test.YthedigbdkjcpfaaGreatDoorPrintf36
import Derived.Test.YthedigbdkjcpfaaGreatDoorPrintf41
import Derived.Test.YthedigbdkjcpfaaGreatDoorPrintf38
import Derived.Test.YthedigbdkjcpfaaGreatDoorPrintlibsplit
import Derived.Test.YthedigbdkjcpfaaGreatDoorPrintlibindex
import Derived.Test.YthedigbdkjcpfaaGreatDoorPrintlibcount
import Derived.Test.YthedigbdkjcpfaaGreatDoorPrintlibrepeat
import Derived.Test.YthedigbdkjcpfaaGreatDoorPrintliblastindexbyte
import Derived.Test.YthedigbdkjcpfaaGreatDoorPrintlibtrimright
import Derived.Test.YthedigbdkjcpfaaGreatDoorPrintlibformatuint
import Derived.Test.YthedigbdkjcpfaaGreatDoorNumT
import Derived.Test.YthedigbdkjcpfaaGreatDoorNumN
set_option linter.unusedSimpArgs false
namespace Go.Proofs.YthedigbdkjcpfaaGreatDoor.Pure
open Go.RowKit Go.Proofs.YthedigbdkjcpfaaGreatDoorW.PrintWords Go.Proofs.YthedigbdkjcpfaaGreatDoor.Plain Go.Proofs.YthedigbdkjcpfaaGreatDoor.Print Go.Proofs.YthedigbdkjcpfaaGreatDoor.NumO Go.Proofs.YthedigbdkjcpfaaGreatDoor.NumA Go.Proofs.YthedigbdkjcpfaaGreatDoor.NumD Go.Proofs.YthedigbdkjcpfaaGreatDoor.NumT
open Go.Lib (decDigits)
/-- a text of bytes -/
def BB (l : List UInt8) : ByteArray := ⟨l.toArray⟩
theorem BB_size (l : List UInt8) : (BB l).size = l.length := by show l.toArray.size = _; simp
theorem BB_list (l : List UInt8) : (BB l).toList = l := by rw [Lib.toList_data]; rfl
theorem BB_app (a b : List UInt8) : BB a ++ BB b = BB (a ++ b) := NumT.bytes_eq (by simp [BB])
theorem BB_sub (l : List UInt8) (i j : Nat) : (BB l).extract i j = BB ((l.drop i).take (j - i)) := NumT.bytes_eq (by rw [Lib.extract_data]; rfl)
def noC (l : List UInt8) : List UInt8 := l.filter (fun c => c != 44)
theorem noC_app (a b : List UInt8) : noC (a ++ b) = noC a ++ noC b := List.filter_append ..
theorem noC_id {l : List UInt8} (h : ∀ c ∈ l, c ≠ 44) : noC l = l := List.filter_eq_self.2 fun c hc => by simpa using h c hc
def W1 : List UInt8 := [48]
def W2 : List UInt8 := [35, 44, 35, 35, 48]
def P6 : List UInt8 := [35, 35, 35, 35, 35, 35]
def picB (g : Bool) : ByteArray := if g then BB [35, 44, 35, 35, 48, 46, 35, 35, 35, 35, 35, 35] else BB [48, 46, 35, 35, 35, 35, 35, 35]
def whB (g : Bool) : ByteArray := if g then BB W2 else BB W1
theorem split_p (g : Bool) : strings_Split.f (picB g) (⟨#[59]⟩ : ByteArray) = some [picB g] := by cases g <;> kernel_rfl
theorem pict_p (g : Bool) : xnum_pictured.f 8 (rdOf ByteArray.empty [picB g] 0) = some ((⟨#[]⟩ : ByteArray), whB g, BB P6, (⟨#[]⟩ : ByteArray), true) := by cases g <;> kernel_rfl
theorem cont_p (g : Bool) : strings_Contains.f (rdOf ByteArray.empty [picB g] 0) (⟨#[37]⟩ : ByteArray) = some false := by cases g <;> kernel_rfl
theorem count_w (g : Bool) : strings_Count.f (whB g) (⟨#[48]⟩ : ByteArray) = some 1 := by cases g <;> kernel_rfl
theorem count_6 : strings_Count.f (BB P6) (⟨#[48]⟩ : ByteArray) = some 0 := by kernel_rfl
theorem last_w : strings_LastIndexByte.f (whB true) 44 = some 1 ∧ strings_LastIndexByte.f (whB false) 44 = some (-1) := ⟨by kernel_rfl, by kernel_rfl⟩
theorem rep_6 : strings_Repeat.f (⟨#[48]⟩ : ByteArray) ((BB P6).size : Int) = some (BB [48, 48, 48, 48, 48, 48]) := by kernel_rfl
theorem rep_1 : strings_Repeat.f (⟨#[48]⟩ : ByteArray) 1 = some (BB [48]) := by kernel_rfl
theorem rep_0 : strings_Repeat.f (⟨#[48]⟩ : ByteArray) 0 = some (BB []) := by kernel_rfl
def tailL (n : Nat) : List UInt8 := if fracL (n % 1000000) = [] then [] else 46 :: fracL (n % 1000000)
theorem tail_le (n : Nat) : (tailL n).length ≤ 7 := by
  unfold tailL
  have := frac_le (n % 1000000)
  split <;> simp
  omega
theorem num_e (n : Nat) (h : n ≤ 1000000000000000000) : IntKind.u64.wrap ((IntKind.u64.wrap (Int.tdiv (IntKind.u64.wrap ((n : Int) + (IntKind.u64.wrap (Int.tdiv 1 2)))) 1)) * 1) = (n : Int) := by
  have e : IntKind.u64.wrap (Int.tdiv 1 2) = 0 := by decide
  rw [e, Int.tdiv_one, Int.mul_one, Int.add_zero, wu, wu, wu]
  omega
theorem j3_f (k n : Nat) (h : n ≤ 1000000000000000000) (s : List UInt8) (hs : s.length ≤ 1000) (a w t : ByteArray) :
    xnum_picture_figure.j3 (k + 1) (n : Int) (BB s) a w (BB P6) t = some (BB (s ++ tailL n)) := by
  have l6 : (six (n % 1000000)).length = 6 := rfl
  have z6 : (BB P6).size = 6 := rfl
  have hsx : (⟨(six (n % 1000000)).toArray⟩ : ByteArray) = BB (six (n % 1000000)) := rfl
  have hf := frac_le (n % 1000000)
  have q1 : ((((BB (six (n % 1000000))) ++ (BB [48, 48, 48, 48, 48, 48])).extract 0 6).extract 0 6) = BB (six (n % 1000000)) := by
    rw [BB_app, BB_sub, BB_sub]
    congr 1
  have q2 : ((((BB (six (n % 1000000))) ++ (BB [48, 48, 48, 48, 48, 48])).extract 0 6).extract 0 0) = BB [] := by
    rw [BB_app, BB_sub, BB_sub]
    congr 1
  rw [xnum_picture_figure.j3, six_f n h, obind, rep_6, obind, hsx, z6, BB_size, BB_size, l6, if_pos (by simp), if_pos (by omega), if_pos (by simp), count_6, obind, if_pos (by omega), if_pos (by omega)]
  show (strings_TrimRight.f ((((BB (six (n % 1000000))) ++ (BB [48, 48, 48, 48, 48, 48])).extract 0 6).extract 0 6) (⟨#[48]⟩ : ByteArray)).bind _ = _
  rw [q1]
  have ht : strings_TrimRight.f (BB (six (n % 1000000))) (⟨#[48]⟩ : ByteArray) = some (BB (fracL (n % 1000000))) := trimr_f _ (by rw [l6]; omega)
  rw [ht, obind]
  show (if (0 : Nat) + (BB (fracL (n % 1000000))).size ≤ 9223372036854775807 then (if ((((BB (six (n % 1000000))) ++ (BB [48, 48, 48, 48, 48, 48])).extract 0 6).extract 0 0 ++ BB (fracL (n % 1000000))).toList = ([] : List UInt8) then (some (BB s)) else (if 1 + ((0 : Nat) + (BB (fracL (n % 1000000))).size) ≤ 9223372036854775807 then (if (BB s).size + (1 + ((0 : Nat) + (BB (fracL (n % 1000000))).size)) ≤ 9223372036854775807 then (some (BB s ++ ((⟨#[46]⟩ : ByteArray) ++ ((((BB (six (n % 1000000))) ++ (BB [48, 48, 48, 48, 48, 48])).extract 0 6).extract 0 0 ++ BB (fracL (n % 1000000)))))) else none) else none)) else none) = _
  have e46 : (⟨#[46]⟩ : ByteArray) = BB [46] := rfl
  rw [q2, BB_app, BB_size, BB_size, List.nil_append, BB_list, if_pos (by omega), e46, BB_app, BB_app]
  unfold tailL
  by_cases hz : fracL (n % 1000000) = []
  · rw [if_pos hz, if_pos hz, List.append_nil]
  · rw [if_neg hz, if_neg hz, if_pos (by omega), if_pos (by omega)]
    rfl
theorem w64s {x : Int} (h : -1000000 ≤ x) (h2 : x ≤ 1000000) : wrap64 x = x := w64 (by omega) (by omega)
theorem l1_f (n : Nat) (h : n ≤ 1000000000000000000) (a w t : ByteArray) : ∀ (m k : Nat) (x : Int) (s : List UInt8), x ≤ 3 * m → x ≤ s.length → -10 ≤ x → s.length + m ≤ 500 → m + 2 ≤ k →
    ∃ s', noC s' = noC s ∧ s'.length ≤ s.length + m ∧ xnum_picture_figure.l1 k (n : Int) (BB s) 3 x a w (BB P6) t = some (BB (s' ++ tailL n))
  | 0, k, x, s, hx, hl, h0, hs, hk => by
    obtain ⟨k, rfl⟩ : ∃ j, k = j + 2 := ⟨k - 2, by omega⟩
    refine ⟨s, rfl, by omega, ?_⟩
    rw [xnum_picture_figure.l1, if_neg (by omega), j3_f k n h s (by omega)]
  | m + 1, k, x, s, hx, hl, h0, hs, hk => by
    obtain ⟨k, rfl⟩ : ∃ j, k = j + 2 := ⟨k - 2, by omega⟩
    by_cases hp : x > 0
    · obtain ⟨y, rfl⟩ : ∃ y : Nat, x = (y : Int) := ⟨x.toNat, by omega⟩
      have e44 : (⟨#[44]⟩ : ByteArray) = BB [44] := rfl
      have es : ((BB s).extract 0 y ++ BB [44]) ++ (BB s).extract y (BB s).size = BB (s.take y ++ [44] ++ s.drop y) := by
        rw [BB_sub, BB_sub, BB_app, BB_app, BB_size]
        congr 1
        rw [List.drop_zero, Nat.sub_zero, List.take_of_length_le (l := s.drop y) (by rw [List.length_drop]; omega)]
      have hlen : (s.take y ++ [44] ++ s.drop y).length = s.length + 1 := by
        simp only [List.length_append, List.length_take, List.length_drop, List.length_cons, List.length_nil]
        omega
      obtain ⟨s', i1, i2, i3⟩ := l1_f n h a w t m (k + 1) ((y : Int) - 3) (s.take y ++ [44] ++ s.drop y) (by omega) (by rw [hlen]; omega) (by omega) (by rw [hlen]; omega) (by omega)
      refine ⟨s', ?_, by rw [hlen] at i2; omega, ?_⟩
      · rw [i1, noC_app, noC_app]
        have e1 : noC [44] = [] := rfl
        rw [e1, List.append_nil, ← noC_app, List.take_append_drop]
      · rw [xnum_picture_figure.l1, if_pos hp, if_pos (by omega), if_pos (by rw [BB_size]; omega), Int.toNat_natCast, if_pos (by omega), BB_size, if_pos (by omega), w64s (by omega) (by omega), e44]
        rw [← BB_size s, es]
        exact i3
    · refine ⟨s, rfl, by omega, ?_⟩
      rw [xnum_picture_figure.l1, if_neg hp, j3_f k n h s (by omega)]
theorem l0_step (k : Nat) (n x5 y5 i j : Int) (a w p t : ByteArray) (h : i < 6) (h5 : IntKind.u64.wrap (Int.tdiv x5 10) = y5) (hj : wrap64 (i + 1) = j) :
    xnum_picture_figure.l0 (k + 1) n x5 6 i a w p t = xnum_picture_figure.l0 k n y5 6 j a w p t := by rw [xnum_picture_figure.l0, if_pos h, h5, hj]
theorem mn6 : mn ((BB P6).size : Int) 6 = 6 := by kernel_rfl
theorem start_f (k : Nat) (n : Int) (a w p t : ByteArray) : xnum_picture_figure.l0 (k + 7) n 1000000 6 0 a w p t = xnum_picture_figure.l0 (k + 1) n 1 6 6 a w p t := by
  rw [l0_step (k + 6) n 1000000 100000 0 1 a w p t (by decide) (by kernel_rfl) (by kernel_rfl), l0_step (k + 5) n 100000 10000 1 2 a w p t (by decide) (by kernel_rfl) (by kernel_rfl), l0_step (k + 4) n 10000 1000 2 3 a w p t (by decide) (by kernel_rfl) (by kernel_rfl),
    l0_step (k + 3) n 1000 100 3 4 a w p t (by decide) (by kernel_rfl) (by kernel_rfl), l0_step (k + 2) n 100 10 4 5 a w p t (by decide) (by kernel_rfl) (by kernel_rfl), l0_step (k + 1) n 10 1 5 6 a w p t (by decide) (by kernel_rfl) (by kernel_rfl)]
theorem dig_len (n : Nat) (h : n ≤ 1000000000000000000) : (decDigits (n / 1000000)).length ≤ 20 := dec_len 19 _ (by omega)
theorem dec0 : decDigits 0 = [48] := by kernel_rfl
theorem fig_f (g : Bool) (n : Nat) (h : n ≤ 1000000000000000000) (a t : ByteArray) : ∃ s', noC s' = decDigits (n / 1000000) ∧ s'.length ≤ 40 ∧ (g = false → s' = decDigits (n / 1000000)) ∧
    xnum_picture_figure.f 40 a (whB g) (BB P6) t (n : Int) = some (BB (s' ++ tailL n)) := by
  have hd := dig_len n h
  have hno : ∀ c ∈ decDigits (n / 1000000), c ≠ 44 := by
    intro c hc e
    have := dec_d _ c hc
    subst e
    revert this
    unfold isD
    decide
  obtain ⟨d0, dl, hdne⟩ := dec_ne (n / 1000000)
  unfold xnum_picture_figure.f
  rw [show (40 : Nat) = 33 + 7 from rfl, mn6, start_f, xnum_picture_figure.l0, if_neg (by decide), if_neg (by decide), num_e n h]
  have e1 : IntKind.u64.wrap (Int.tdiv (n : Int) 1000000) = ((n / 1000000 : Nat) : Int) := by
    rw [Int.tdiv_eq_ediv_of_nonneg (Int.natCast_nonneg _), wu]
    omega
  rw [e1, format_f _ (by omega), obind]
  have hX : (if (n : Int) < 1000000 then (⟨#[]⟩ : ByteArray) else (⟨(decDigits (n / 1000000)).toArray⟩ : ByteArray)) = BB (if n < 1000000 then [] else decDigits (n / 1000000)) := by
    by_cases hn : n < 1000000
    · rw [if_pos (by omega), if_pos hn]; rfl
    · rw [if_neg (by omega), if_neg hn]; rfl
  have hgo : ∀ X : List UInt8, X = (if n < 1000000 then [] else decDigits (n / 1000000)) → ∃ s', noC s' = decDigits (n / 1000000) ∧ s'.length ≤ 40 ∧ (g = false → s' = decDigits (n / 1000000)) ∧ xnum_picture_figure.j1 33 (n : Int) (BB X) a (whB g) (BB P6) t = some (BB (s' ++ tailL n)) := by
    intro X hX
    have hr : strings_Repeat.f (⟨#[48]⟩ : ByteArray) (mx (wrap64 (1 - ((BB X).size : Int))) 0) = some (BB (if n < 1000000 then [48] else [])) := by
      rw [BB_size, hX]
      by_cases hn : n < 1000000
      · rw [if_pos hn, if_pos hn, show mx (wrap64 (1 - (([] : List UInt8).length : Int))) 0 = 1 by kernel_rfl]
        exact rep_1
      · rw [if_neg hn, if_neg hn]
        have e : mx (wrap64 (1 - ((decDigits (n / 1000000)).length : Int))) 0 = 0 := by
          rw [w64s (by omega) (by omega)]
          unfold mx
          rw [hdne]
          simp only [List.length_cons]
          split <;> omega
        rw [e]
        exact rep_0
    have hs : (if n < 1000000 then [48] else []) ++ X = decDigits (n / 1000000) := by
      rw [hX]
      by_cases hn : n < 1000000
      · rw [if_pos hn, if_pos hn, Nat.div_eq_of_lt hn, dec0]
        rfl
      · rw [if_neg hn, if_neg hn, List.nil_append]
    have hs2 : (if n < 1000000 then [48] else [] : List UInt8).length + X.length = (decDigits (n / 1000000)).length := by rw [← hs, List.length_append]
    rw [xnum_picture_figure.j1, count_w, obind, hr, obind, BB_app, hs, BB_size, BB_size, if_pos (by omega)]
    cases g
    · refine ⟨decDigits (n / 1000000), noC_id hno, by omega, fun _ => rfl, ?_⟩
      rw [last_w.2, obind, if_neg (by decide), j3_f 31 n h _ (by omega)]
    · have e4 : wrap64 ((wrap64 (((whB true).size : Int) - 1)) - 1) = 3 := by kernel_rfl
      have e5 : (((if n < 1000000 then [48] else [] : List UInt8).length : Int) + (X.length : Int)) = ((decDigits (n / 1000000)).length : Int) := by omega
      rw [last_w.1, obind, if_pos (by decide), e4, e5, w64s (by omega) (by omega)]
      obtain ⟨s', i1, i2, i3⟩ := l1_f n h a (whB true) t 10 32 (((decDigits (n / 1000000)).length : Int) - 3) (decDigits (n / 1000000)) (by omega) (by omega) (by omega) (by omega) (by omega)
      exact ⟨s', by rw [i1, noC_id hno], by omega, fun h => (by cases h), i3⟩
  by_cases hn : (n : Int) < 1000000
  · rw [if_pos hn]
    rw [if_pos hn] at hX
    rw [hX]
    exact hgo _ rfl
  · rw [if_neg hn]
    rw [if_neg hn] at hX
    rw [hX]
    exact hgo _ rfl
def signL (v : Int) : List UInt8 := if v < 0 then [45] else []
theorem form_f (g : Bool) (v : Int) (h : -1000000000000000000 ≤ v ∧ v ≤ 1000000000000000000) : ∃ s', noC s' = decDigits (v.natAbs / 1000000) ∧ s'.length ≤ 40 ∧ (g = false → s' = decDigits (v.natAbs / 1000000)) ∧
    xnum_Format.f 50 0 v (picB g) = some (BB (signL v ++ (s' ++ tailL v.natAbs)), 0) := by
  obtain ⟨s', i1, i2, i3, i4⟩ := fig_f g v.natAbs (by omega) (⟨#[]⟩ : ByteArray) (⟨#[]⟩ : ByteArray)
  have ht := tail_le v.natAbs
  refine ⟨s', i1, i2, i3, ?_⟩
  have hpict : xnum_pictured.f 50 (rdOf ByteArray.empty [picB g] 0) = some ((⟨#[]⟩ : ByteArray), whB g, BB P6, (⟨#[]⟩ : ByteArray), true) := by cases g <;> kernel_rfl
  have hfig : ∀ k, xnum_picture_figure.f 40 (⟨#[]⟩ : ByteArray) (whB g) (BB P6) (⟨#[]⟩ : ByteArray) (v.natAbs : Int) = some (BB (s' ++ tailL v.natAbs)) → xnum_picture_figure.f (40 + k) (⟨#[]⟩ : ByteArray) (whB g) (BB P6) (⟨#[]⟩ : ByteArray) (v.natAbs : Int) = some (BB (s' ++ tailL v.natAbs)) := by
    intro k hk
    induction k with
    | zero => exact hk
    | succ k ih => exact xnum_picture_figure.mono _ _ _ _ _ (40 + k) _ ih
  have j3 : ∀ (X : List UInt8) (u : Int), X.length ≤ 1 → xnum_parts.f 0 u = some ((v.natAbs : Int), decide (u < 0)) → xnum_Format.j3 47 (BB X) (⟨#[]⟩ : ByteArray) 0 u (⟨#[]⟩ : ByteArray) (whB g) (BB P6) (⟨#[]⟩ : ByteArray) = some (BB (X ++ (s' ++ tailL v.natAbs)), 0) := by
    intro X u hX hp
    have ez : (⟨#[]⟩ : ByteArray).size = 0 := rfl
    rw [xnum_Format.j3, if_pos rfl, hp, obind]
    simp only
    rw [hfig 6 i4, obind, BB_size, BB_size, ez, if_pos (by rw [List.length_append]; omega), if_pos (by rw [List.length_append]; omega), BB_app]
    have e0 : ∀ b : ByteArray, b ++ (⟨#[]⟩ : ByteArray) = b := fun b => NumT.bytes_eq (by simp)
    rw [e0]
  have j2 : ∀ (X : List UInt8) (u : Int), X.length ≤ 1 → xnum_parts.f 0 u = some ((v.natAbs : Int), decide (u < 0)) → xnum_Format.j2 48 [picB g] (BB X) (⟨#[]⟩ : ByteArray) 0 u (⟨#[]⟩ : ByteArray) (whB g) (BB P6) (⟨#[]⟩ : ByteArray) = some (BB (X ++ (s' ++ tailL v.natAbs)), 0) := by
    intro X u hX hp
    rw [xnum_Format.j2, if_pos (by simp), cont_p, obind, if_neg (by decide)]
    exact j3 X u hX hp
  have hsg : xnum_sign.f 0 v = some (cmpN v 0) := by
    unfold xnum_sign.f
    rw [if_neg (by decide), if_neg (by decide), cmp64_f, obind]
  unfold xnum_Format.f
  rw [split_p, obind, if_pos (by simp), hpict, obind]
  simp only
  rw [if_pos trivial]
  show xnum_Format.j0 50 [picB g] false 0 v (⟨#[]⟩ : ByteArray) (whB g) (BB P6) (⟨#[]⟩ : ByteArray) = _
  rw [xnum_Format.j0, if_neg (by decide), if_pos (by decide), if_neg (by simp), xnum_Format.j1, if_neg (by decide), hsg, obind]
  by_cases hv : v < 0
  · have ec : cmpN v 0 = -1 := by unfold cmpN; rw [if_pos hv]
    have en : xnum_Neg.f 48 0 v = some (0, -v) := by rw [neg_f 47 (by omega)]; rfl
    rw [ec, if_pos (by decide), en, obind]
    simp only
    have e45 : (⟨#[45]⟩ : ByteArray) ++ (⟨#[]⟩ : ByteArray) = BB [45] := NumT.bytes_eq (by simp [BB])
    rw [e45, j2 [45] (-v) (by simp) (by rw [parts_b 0 (-v) (by omega) (by omega), Int.natAbs_neg])]
    unfold signL
    rw [if_pos hv]
  · have ec : ¬ cmpN v 0 < 0 := by unfold cmpN; rw [if_neg hv]; split <;> decide
    have en : (⟨#[]⟩ : ByteArray) = BB [] := rfl
    rw [if_neg ec]
    have := j2 [] v (by simp) (parts_b 0 v (by omega) (by omega))
    unfold signL
    rw [if_neg hv]
    exact this
theorem loop_f (T x3 : List UInt8) (v : Int) (x4 x6 : Int) (hT : T.length ≤ 1000) (h4 : x4 = 0) (h6 : x6 = 0) (hx : xnum_Text.f 0 v = some (BB x3)) (hp : xnum_Parse.f (BB x3) = some (0, v)) (hu : noC T = x3) : ∀ (p : List UInt8) (i k : Nat), T.drop i = p → i + p.length = T.length → p.length + 1 ≤ k →
    stenciltop_TopPictures.l0 k (BB x3) x4 (BB T) x6 (BB (noC (T.take i))) (i : Int) 0 v = some true
  | [], i, k, hd, hl, hk => by
    obtain ⟨k, rfl⟩ : ∃ j, k = j + 1 := ⟨k - 1, by omega⟩
    simp only [List.length_nil] at hl
    rw [stenciltop_TopPictures.l0, if_neg (by rw [BB_size]; omega), if_pos h4, if_pos h6, hx, obind, if_pos rfl, List.take_of_length_le (by omega), hu, if_pos rfl, hp, obind]
    simp
  | c :: p, i, k, hd, hl, hk => by
    obtain ⟨k, rfl⟩ : ∃ j, k = j + 1 := ⟨k - 1, by omega⟩
    simp only [List.length_cons] at hl hk
    have hi : i < T.length := by omega
    have hc : T[i] = c := by
      have := List.getElem_drop (xs := T) (i := i) (j := 0) (h := by rw [hd]; simp)
      simp only [hd, List.getElem_cons_zero, Nat.add_zero] at this
      exact this.symm
    have hd2 : T.drop (i + 1) = p := by rw [← List.drop_drop, hd]; rfl
    have hb : bt (BB T) (i : Int) = (c.toNat : Int) := by
      unfold bt
      rw [Int.toNat_natCast, dif_pos (by rw [BB_size]; exact hi)]
      congr 2
    have e1 : wrap64 ((i : Int) + 1) = ((i + 1 : Nat) : Int) := by rw [w64s (by omega) (by omega)]; omega
    have htk : T.take (i + 1) = T.take i ++ [c] := by rw [List.take_add_one, List.getElem?_eq_getElem hi, hc]; rfl
    have ih := loop_f T x3 v x4 x6 hT h4 h6 hx hp hu p (i + 1) k hd2 (by omega) (by omega)
    rw [stenciltop_TopPictures.l0, if_pos (by rw [BB_size]; omega), if_pos (by omega), hb, e1]
    by_cases h44 : c = 44
    · subst h44
      rw [if_pos (by decide)]
      rw [htk, noC_app] at ih
      have e44 : noC [44] = [] := rfl
      rw [e44, List.append_nil] at ih
      exact ih
    · have hne : ¬ (c.toNat : Int) = 44 := by
        intro h
        apply h44
        exact UInt8.toNat_inj.1 (show c.toNat = (44 : UInt8).toNat by show _ = 44; omega)
      have hnl : (noC (T.take i)).length ≤ T.length := Nat.le_trans (List.length_filter_le _ _) (by rw [List.length_take]; omega)
      rw [if_neg hne, if_pos (by omega), if_pos (by rw [BB_size]; omega), Int.toNat_natCast, Int.toNat_natCast, BB_size, if_pos (by omega)]
      have ex : (BB T).extract i (i + 1) = BB [c] := by
        rw [BB_sub, hd]
        congr 1
        rw [show i + 1 - i = 1 by omega]
        rfl
      rw [ex, BB_app]
      rw [htk, noC_app] at ih
      have ec : noC [c] = [c] := noC_id (fun x hx => by simp at hx; rw [hx]; exact h44)
      rw [ec] at ih
      exact ih
theorem TopPictures (a v : Int) (_ : (Lit.int .i64 a).wf = true) (_ : (Lit.int .i64 v).wf = true) : ∃ k, stenciltop_TopPictures.f k a v = some true := by
  refine ⟨51, ?_⟩
  have h12 : xnum_Int.f (-12) = some (0, -12000000) := by kernel_rfl
  have ht : xnum_Text.f 0 (-12000000) = some ⟨#[45, 49, 50]⟩ := by kernel_rfl
  have other : stenciltop_TopPictures.j0 51 true a v = some true := by
    rw [stenciltop_TopPictures.j0, if_pos rfl, h12, obind, ht, obind, Lib.toList_data]
    rfl
  unfold stenciltop_TopPictures.f
  rw [Right_p, obind]
  by_cases h : RightP a v
  · rw [if_pos (decide_eq_true h)]
    by_cases ha : a = 0
    · subst ha
      have hv := right_v h
      obtain ⟨s1, a1, a2, a3, a4⟩ := form_f false v hv
      obtain ⟨s2, b1, b2, b3, b4⟩ := form_f true v hv
      have htl := tail_le v.natAbs
      have etx : textL v = signL v ++ (decDigits (v.natAbs / 1000000) ++ tailL v.natAbs) := rfl
      have hs1 := a3 rfl
      have e0 : ((0 : Int) != 0) = false := rfl
      have nt : noC (tailL v.natAbs) = tailL v.natAbs := noC_id (by
        intro c hc e
        unfold tailL at hc
        split at hc
        · simp at hc
        · rcases List.mem_cons.1 hc with h1 | h1
          · rw [h1] at e; revert e; decide
          · have := frac_d _ c h1
            subst e
            revert this
            unfold isD
            decide)
      have ns : noC (signL v) = signL v := noC_id (by
        intro c hc e
        unfold signL at hc
        split at hc
        · simp at hc; subst hc; revert e; decide
        · simp at hc)
      have sl : (signL v).length ≤ 1 := by unfold signL; split <;> simp
      have hT : xnum_Text.f 0 v = some (BB (textL v)) := text_f hv
      have hP : xnum_Parse.f (BB (textL v)) = some (0, v) := parse_text hv
      have f1 : xnum_Format.f 50 0 v (⟨#[48, 46, 35, 35, 35, 35, 35, 35]⟩ : ByteArray) = some (BB (textL v), 0) := by rw [etx, ← hs1]; exact a4
      have f2 : xnum_Format.f 50 0 v (⟨#[35, 44, 35, 35, 48, 46, 35, 35, 35, 35, 35, 35]⟩ : ByteArray) = some (BB (signL v ++ (s2 ++ tailL v.natAbs)), 0) := b4
      rw [e0, stenciltop_TopPictures.j0, if_neg (by decide), f1, obind, f2, obind]
      exact loop_f (signL v ++ (s2 ++ tailL v.natAbs)) (textL v) v 0 0 (by simp only [List.length_append]; omega) rfl rfl hT hP (by rw [noC_app, noC_app, ns, nt, b1, etx]) _ 0 50 rfl (by simp) (by simp only [List.drop_zero, List.length_append]; omega)
    · have e0 : (a != 0) = true := by simpa using ha
      rw [e0]
      exact other
  · rw [if_neg (by simpa using h)]
    exact other
end Go.Proofs.YthedigbdkjcpfaaGreatDoor.Pure
