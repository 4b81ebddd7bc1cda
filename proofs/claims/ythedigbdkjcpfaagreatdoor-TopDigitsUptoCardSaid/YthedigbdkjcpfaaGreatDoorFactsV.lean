/- Decoding: what the program's functions compute, as plain functions on lists. -/
import Derived.Test.YthedigbdkjcpfaaGreatDoorPrintf24
import Derived.Test.YthedigbdkjcpfaaGreatDoorPrintxcharwide
import Derived.Test.YthedigbdkjcpfaaGreatDoorPrintf9
import Derived.Test.YthedigbdkjcpfaaGreatDoorPrintxcharbad
import Derived.Test.YthedigbdkjcpfaaGreatDoorPlainB
import Derived.Test.YthedigbdkjcpfaaGreatDoorLines
import Derived.Test.YthedigbdkjcpfaaGreatDoorEnc
import Derived.Lib.ReplaceLaws
set_option linter.unusedSimpArgs false
namespace Go.Proofs.YthedigbdkjcpfaaGreatDoor.FactsV
open Go.RowKit Go.Proofs.YthedigbdkjcpfaaGreatDoorW.PrintWords Go.Proofs.YthedigbdkjcpfaaGreatDoor.Plain Go.Proofs.YthedigbdkjcpfaaGreatDoor.Print Go.Proofs.YthedigbdkjcpfaaGreatDoor.Lines

theorem size_len (s : ByteArray) : s.data.toList.length = s.size := by rw [Array.length_toList]; rfl
theorem toList_eq (s : ByteArray) : s.toList = s.data.toList := Lib.toList_data s
theorem extract_list (s : ByteArray) (a b : Nat) : (s.extract a b).data.toList = (s.data.toList.drop a).take (b - a) := Lib.extract_data s a b
theorem tail_list (s : ByteArray) (a : Nat) : (s.extract a s.size).data.toList = s.data.toList.drop a := by
  rw [extract_list, List.take_of_length_le (by rw [List.length_drop, size_len]; omega)]
theorem head_list (s : ByteArray) (a : Nat) : (s.extract 0 a).data.toList = s.data.toList.take a := by rw [extract_list]; simp
theorem bt_list (s : ByteArray) (i : Nat) (h : i < s.data.toList.length) : bt s (i : Int) = (s.data.toList[i].toNat : Int) := by
  rw [size_len] at h
  rw [← bt_at s i (by omega)]
  rfl
theorem ba_ext {a b : ByteArray} (h : a.data.toList = b.data.toList) : a = b := by
  cases a; cases b; congr 1; exact Array.ext' h

theorem badL_sign : ∀ (f : Nat) (l : List UInt8) (at_ : Nat), ((badL f l at_).1 < 0 ↔ (badL f l at_).2 = 0) := by
  intro f
  induction f with
  | zero => intro l at_; simp [badL]
  | succ f ih =>
    intro l at_
    rw [badL]
    split
    · simp
    · split
      · first | (simp; done) | (simp; omega)
      · split
        · exact ih _ _
        · first | (simp; done) | (simp; omega)
def isTextL (l : List UInt8) : Bool := decide ((badL l.length l 0).1 < 0)
theorem wrapS {i : Int} (h0 : -1000000000000 ≤ i) (h1 : i ≤ 1000000000000) : wrap64 i = i := by
  unfold wrap64
  omega

def asInts (l : List UInt8) : List Int := l.map fun b => (b.toNat : Int)
theorem mk_list (l : List UInt8) : (⟨l.toArray⟩ : ByteArray).data.toList = l := rfl
theorem mk_size (l : List UInt8) : (⟨l.toArray⟩ : ByteArray).size = l.length := by rw [← size_len, mk_list]
theorem asInts_str (l : List UInt8) : strOfNums (asInts l) = ⟨l.toArray⟩ := by
  apply ba_ext
  rw [strOfNums_data, asInts, List.map_map, mk_list]
  conv => rhs; rw [← List.map_id l]
  apply List.map_congr_left
  intro b _
  simp
theorem asInts_append (a b : List UInt8) : asInts (a ++ b) = asInts a ++ asInts b := by simp [asInts]
theorem asInts_drop (a : List UInt8) (n : Nat) : (asInts a).drop n = asInts (a.drop n) := by simp [asInts, List.map_drop]
theorem asInts_length (a : List UInt8) : (asInts a).length = a.length := by simp [asInts]
theorem of_wf (l : List Int) (h : ∀ x ∈ l, (Lit.int .u8 x).wf = true) : ∃ b : List UInt8, l = asInts b := by
  refine ⟨l.map fun x => x.toNat.toUInt8, ?_⟩
  rw [asInts, List.map_map]
  conv => lhs; rw [← List.map_id l]
  apply List.map_congr_left
  intro x hx
  have hw := h x hx
  have h0 : 0 ≤ x ∧ x < 256 := by
    simp [Lit.wf, IntKind.min, IntKind.max, IntKind.signed, IntKind.bits] at hw
    omega
  simp only [id, Function.comp_apply]
  rw [Nat.toUInt8, UInt8.toNat_ofNat']
  omega

theorem lines_f (s : ByteArray) (hs : s.size ≤ 1000000000) : xchar_lines.f s = some ⟨(endsL s.data.toList).toArray⟩ := by
  have hl := size_len s
  unfold xchar_lines.f strings_ReplaceAll.f
  have h1 := Lib.countB_le ⟨#[13, 10]⟩ (by decide) s.size s (Nat.le_refl _)
  rw [if_pos ⟨by omega, by decide, by rw [show (⟨#[10]⟩ : ByteArray).size = 1 from rfl]; omega⟩, Option.bind_some]
  have h2 := lines1_len s.data.toList
  have h3 : (⟨(Lib.replaceAll s.data.toList [13, 10] [10]).toArray⟩ : ByteArray).size ≤ s.size := by rw [mk_size]; omega
  have h4 := Lib.countB_le ⟨#[13]⟩ (by decide) _ ⟨(Lib.replaceAll s.data.toList [13, 10] [10]).toArray⟩ (Nat.le_refl _)
  have e1 : (⟨#[13, 10]⟩ : ByteArray).data.toList = [13, 10] := rfl
  have e2 : (⟨#[10]⟩ : ByteArray).data.toList = [10] := rfl
  have e3 : (⟨#[13]⟩ : ByteArray).data.toList = [13] := rfl
  rw [e1, e2, e3, if_pos ⟨by omega, by decide, by rw [show (⟨#[10]⟩ : ByteArray).size = 1 from rfl]; omega⟩, Option.bind_some, mk_list, lines_ends]

theorem rd_nat (l : List Int) (n : Nat) : rd l (n : Int) = l.getD n 0 := by simp [rd]
theorem encode_eq {r : Int} (h : Enc.okR r) : (Utf8.encode r).data.toList = Lib.encodeRune r := by
  have hr := Enc.ok_range h
  have hv : Utf8.valid r = true := by
    unfold Utf8.valid
    simp only [Bool.or_eq_true, Bool.and_eq_true, decide_eq_true_eq]
    omega
  unfold Utf8.encode Lib.encodeRune
  rw [if_pos hv]
  obtain ⟨n, rfl⟩ : ∃ n : Nat, r = (n : Int) := ⟨r.toNat, by omega⟩
  rw [Int.toNat_natCast]
  by_cases c1 : n < 128
  · rw [Lib.encodeRuneZ_one (by omega) (by omega)]
    simp only [if_pos c1]
    rfl
  · by_cases c2 : n < 2048
    · rw [Lib.encodeRuneZ_two (by omega) (by omega)]
      simp only [if_neg c1, if_pos c2]
      have e1 : ((192 : Int) + (n : Int) / 64).toNat = 192 + n / 64 := by omega
      have e2 : ((128 : Int) + (n : Int) % 64).toNat = 128 + n % 64 := by omega
      simp only [List.map_cons, List.map_nil, e1, e2]
    · by_cases c3 : n < 65536
      · rw [Lib.encodeRuneZ_three (by omega)]
        simp only [if_neg c1, if_neg c2, if_pos c3]
        have e1 : ((224 : Int) + (n : Int) / 4096).toNat = 224 + n / 4096 := by omega
        have e2 : ((128 : Int) + (n : Int) / 64 % 64).toNat = 128 + n / 64 % 64 := by omega
        have e3 : ((128 : Int) + (n : Int) % 64).toNat = 128 + n % 64 := by omega
        simp only [List.map_cons, List.map_nil, e1, e2, e3]
      · rw [Lib.encodeRuneZ_four (by omega) (by omega)]
        simp only [if_neg c1, if_neg c2, if_neg c3]
        have e1 : ((240 : Int) + (n : Int) / 262144).toNat = 240 + n / 262144 := by omega
        have e2 : ((128 : Int) + (n : Int) / 4096 % 64).toNat = 128 + n / 4096 % 64 := by omega
        have e3 : ((128 : Int) + (n : Int) / 64 % 64).toNat = 128 + n / 64 % 64 := by omega
        have e4 : ((128 : Int) + (n : Int) % 64).toNat = 128 + n % 64 := by omega
        simp only [List.map_cons, List.map_nil, e1, e2, e3, e4]
theorem bytesOf_eq {r : Int} (h : Enc.okR r) : bytesOf (Utf8.encode r) = asInts (Lib.encodeRune r) := by
  rw [bytesOf, encode_eq h]; rfl
theorem encode_size {r : Int} (h : Enc.okR r) : (Utf8.encode r).size ≤ 4 := by
  rw [← size_len, encode_eq h]
  unfold Lib.encodeRune; rw [List.length_map]; exact (Lib.encodeRuneZ_length r).2
def wres : Except (Int × Nat) (List Int) → Option (ByteArray × Int × Int)
  | .error (c, a) => some (⟨#[]⟩, c, (a : Int))
  | .ok rs => some (⟨(endsL (Print.encR rs)).toArray⟩, 0, 0)
theorem wrap32_small {i : Int} (h0 : -2000000000 ≤ i) (h1 : i ≤ 2000000000) : wrap32 i = i := by
  unfold wrap32
  omega
theorem wr1 (a n : Nat) (ha : a ≤ 2000000) (hn : n ≤ 10) : wrap64 ((a : Int) + (n : Int)) = ((a + n : Nat) : Int) := by rw [wrapS (by omega) (by omega)]; rfl
theorem wrM (a h : Nat) (ha : a ≤ 2000000) (hh : h ≤ a) : wrap64 ((a : Int) - (h : Int)) = ((a - h : Nat) : Int) := by rw [wrapS (by omega) (by omega)]; omega
theorem w_one (a : Nat) (ha : a ≤ 2000000) : wrap64 ((a : Int) + 1) = ((a + 1 : Nat) : Int) := wr1 a 1 ha (by omega)
theorem w_two (a : Nat) (ha : a ≤ 2000000) : wrap64 ((a : Int) + 2) = ((a + 2 : Nat) : Int) := wr1 a 2 ha (by omega)
theorem w_three (a : Nat) (ha : a ≤ 2000000) : wrap64 ((a : Int) + 3) = ((a + 3 : Nat) : Int) := wr1 a 3 ha (by omega)
theorem sur_low {r : Int} (h : r / 2048 = 27) (h2 : r ≥ 56320) : ¬ (r / 1024 = 54) ∧ r ≤ 57343 := by omega
theorem sur_high {r : Int} (h : r / 2048 = 27) (h2 : ¬ r ≥ 56320) : r / 1024 = 54 ∧ r ≥ 55296 ∧ r ≤ 56319 := by omega
theorem low_in {r : Int} (h : r / 1024 = 55) : ¬ r < 56320 ∧ ¬ r > 57343 := by omega
theorem low_out {r : Int} (h : ¬ r / 1024 = 55) (h2 : ¬ r < 56320) : r > 57343 := by omega
theorem no_sur1 {r : Int} (h : ¬ r / 2048 = 27) (h2 : r ≥ 55296) : ¬ r ≤ 56319 := by omega
theorem no_sur2 {r : Int} (h : ¬ r / 2048 = 27) (h2 : r ≥ 56320) : ¬ r ≤ 57343 := by omega
theorem pair_val {r low : Int} (h1 : r / 1024 = 54) (h2 : low / 1024 = 55) : wrap32 (wrap32 (65536 + wrap32 (wrap32 (r - 55296) * 1024)) + wrap32 (low - 56320)) = 65536 + r % 1024 * 1024 + low % 1024 := by
  have e1 : wrap32 (r - 55296) = r - 55296 := wrap32_small (by omega) (by omega)
  have e2 : wrap32 ((r - 55296) * 1024) = (r - 55296) * 1024 := wrap32_small (by omega) (by omega)
  have e3 : wrap32 (65536 + (r - 55296) * 1024) = 65536 + (r - 55296) * 1024 := wrap32_small (by omega) (by omega)
  have e4 : wrap32 (low - 56320) = low - 56320 := wrap32_small (by omega) (by omega)
  rw [e1, e2, e3, e4, wrap32_small (by omega) (by omega)]
  omega
theorem getD_bound {l : List Int} (hby : ∀ x ∈ l, 0 ≤ x ∧ x < 256) (i : Nat) (hi : i < l.length) : 0 ≤ l.getD i 0 ∧ l.getD i 0 < 256 := by
  rw [List.getD_eq_getElem?_getD, List.getElem?_eq_getElem hi]; exact hby _ (List.getElem_mem hi)
theorem unit_eq (l : List Int) (hby : ∀ x ∈ l, 0 ≤ x ∧ x < 256) (h a : Nat) (hh : h ≤ 1) (hp : a + 1 < l.length) : ∃ r, unitV l h a = some r ∧ bits .or .i32 (wrap32 (wrap32 (rd l ((a + h : Nat) : Int)) * 256)) (wrap32 (rd l ((a + 1 - h : Nat) : Int))) = r ∧ 0 ≤ r ∧ r < 65536 := by
  have hxa := getD_bound hby (a + h) (by omega)
  have hxb := getD_bound hby (a + 1 - h) (by omega)
  refine ⟨_, by unfold unitV; rw [if_pos hp], ?_, by omega, by omega⟩
  rw [rd_nat, rd_nat, or_256 _ _ hxa.1 hxa.2 hxb.1 hxb.2]
theorem wideGo_len (l : List Int) (h : Nat) : ∀ (f a : Nat) (acc rs : List Int), wideGo l h f a acc = .ok rs → rs.length ≤ acc.length + f := by
  intro f
  induction f with
  | zero => intro a acc rs e; simp only [wideGo, Except.ok.injEq] at e; subst e; omega
  | succ f ih =>
    intro a acc rs e
    rw [wideGo] at e
    split at e
    · simp only [Except.ok.injEq] at e; subst e; omega
    · split at e
      · cases e
      · split at e
        · split at e
          · split at e
            · have := ih _ _ _ e; rw [List.length_append, List.length_singleton] at this; omega
            · cases e
          · cases e
        · split at e
          · have := ih _ _ _ e; rw [List.length_append, List.length_singleton] at this; omega
          · cases e
theorem bytes_ok (b : List UInt8) : ∀ x ∈ asInts b, 0 ≤ x ∧ x < 256 := by
  intro x hx
  obtain ⟨c, _, rfl⟩ := List.mem_map.1 hx
  have := c.toNat_lt
  omega
theorem wide_f (b : List UInt8) (hz : b.length ≤ 1000000) (h : Nat) (hh : h ≤ 1) : xchar_wide.f (asInts b) (h : Int) = wres (wideGo (asInts b) h (b.length + 4) 2 []) := by
  unfold xchar_wide.f
  rw [if_pos ⟨by omega, by rw [asInts_length]; omega, bytes_ok b⟩, Int.toNat_natCast, asInts_length]
  rcases hg : wideGo (asInts b) h (b.length + 4) 2 [] with ⟨k, a⟩ | rs
  · rfl
  · have := wideGo_len _ _ _ _ _ _ hg
    have h2 := encR_len rs
    simp only
    rw [lines_f _ (by rw [mk_size]; simp only [List.length_nil] at this; omega), mk_list]
    rfl
/-! ### UTF-8 -/
theorem _root_.Go.Proofs.YthedigbdkjcpfaaGreatDoor.Enc.decodeL_le4 (l : List UInt8) : (Lib.decodeL l).2 ≤ 4 := by
  rw [Lib.decodeL_N]
  rcases Lib.decodeN_shape l.length (l.getD 0 0).toNat (l.getD 1 0).toNat (l.getD 2 0).toNat (l.getD 3 0).toNat with ⟨c, e⟩ | ⟨c1, c2, c3, c4, e⟩ | ⟨c1, c2, c3, c4, c5, c6, e⟩ | ⟨c1, c2, c3, c4, c5, c6, c7, e⟩ | e <;> rw [e] <;> simp
theorem badL_kind : ∀ (f : Nat) (l : List UInt8) (a : Nat), ((badL f l a).2 = 0 ∧ (badL f l a).1 = -1) ∨ (((badL f l a).2 = 3 ∨ (badL f l a).2 = 4) ∧ 0 ≤ (badL f l a).1 ∧ (badL f l a).1 ≤ a + 4 * f) := by
  intro f
  induction f with
  | zero => intro l a; exact .inl ⟨rfl, rfl⟩
  | succ f ih =>
    intro l a
    rw [badL]
    split
    · exact .inl ⟨rfl, rfl⟩
    · split
      · exact .inr ⟨.inl rfl, by simp only; omega, by simp only; omega⟩
      · split
        · rename_i hne _ _
          have hw : (Lib.decodeL l).2 ≤ 4 := by
            have := Enc.decodeL_le4 l
            exact this
          rcases ih (l.drop (Lib.decodeL l).2) (a + (Lib.decodeL l).2) with h | ⟨h1, h2, h3⟩
          · exact .inl h
          · exact .inr ⟨h1, h2, by omega⟩
        · exact .inr ⟨.inr rfl, by simp only; omega, by simp only; omega⟩
def tailD (b : List UInt8) (n : Nat) : Option (ByteArray × Int × Int) :=
  if (badL (b.drop n).length (b.drop n) 0).2 = 0 then some (⟨(endsL (b.drop n)).toArray⟩, 0, 0)
  else some (⟨#[]⟩, (badL (b.drop n).length (b.drop n) 0).2, (n : Int) + (badL (b.drop n).length (b.drop n) 0).1)
def decD (b : List UInt8) : Option (ByteArray × Int × Int) :=
  if 32768 < b.length then some (⟨#[]⟩, 6, 0)
  else if b.take 2 = [254, 255] then wres (wideGo (asInts b) 0 (b.length + 4) 2 [])
  else if b.take 2 = [255, 254] then wres (wideGo (asInts b) 1 (b.length + 4) 2 [])
  else if b.take 3 = [239, 187, 191] then tailD b 3 else tailD b 0
theorem hasPre (b p : List UInt8) : strings_HasPrefix.f ⟨b.toArray⟩ ⟨p.toArray⟩ = some (decide (b.take p.length = p)) := by
  unfold strings_HasPrefix.f stringslite_HasPrefix.f
  rw [mk_size, mk_size]
  by_cases h : p.length ≤ b.length
  · rw [if_pos (by omega), if_pos (by omega), if_pos (by omega), Option.bind_some, Int.toNat_natCast, toList_eq, toList_eq, head_list, mk_list, mk_list]
    congr 1
    rw [Bool.eq_iff_iff, beq_iff_eq, decide_eq_true_eq]
  · rw [if_neg (by omega), Option.bind_some, decide_eq_false]
    intro e
    have := congrArg List.length e
    rw [List.length_take] at this
    omega
theorem trimPre (b p : List UInt8) : strings_TrimPrefix.f ⟨b.toArray⟩ ⟨p.toArray⟩ = some ⟨(if b.take p.length = p then b.drop p.length else b).toArray⟩ := by
  have h := hasPre b p
  unfold strings_HasPrefix.f at h
  rw [Option.bind_eq_some_iff] at h
  obtain ⟨x, hx, hx2⟩ := h
  obtain rfl := Option.some.inj hx2
  unfold strings_TrimPrefix.f stringslite_TrimPrefix.f
  rw [hx, Option.bind_some]
  by_cases h : b.take p.length = p
  · have hl : p.length ≤ b.length := by
      have := congrArg List.length h
      rw [List.length_take] at this
      omega
    rw [if_pos (by simpa using h), if_pos h, mk_size, mk_size, if_pos (by omega), if_pos (by omega), Option.bind_some, Int.toNat_natCast]
    congr 1
    apply ba_ext
    have e := tail_list ⟨b.toArray⟩ p.length
    rw [mk_size, mk_list] at e
    rw [e, mk_list]
  · rw [if_neg (by simpa using h), if_neg h, Option.bind_some]
theorem decode_x (b : List UInt8) : xchar_Decode.f (asInts b) = decD b := by
  unfold xchar_Decode.f decD
  rw [asInts_length, asInts_str]
  by_cases hz : 32768 < b.length
  · rw [if_pos (by omega), if_pos hz]
  · rw [if_neg (by omega), if_neg hz]
    have h1 := hasPre b [254, 255]
    have h2 := hasPre b [255, 254]
    have h3 := trimPre b [239, 187, 191]
    have e1 : (⟨([254, 255] : List UInt8).toArray⟩ : ByteArray) = ⟨#[254, 255]⟩ := rfl
    have e2 : (⟨([255, 254] : List UInt8).toArray⟩ : ByteArray) = ⟨#[255, 254]⟩ := rfl
    have e3 : (⟨([239, 187, 191] : List UInt8).toArray⟩ : ByteArray) = ⟨#[239, 187, 191]⟩ := rfl
    rw [e1] at h1
    rw [e2] at h2
    rw [e3] at h3
    rw [h1, h2, h3]
    simp only [Option.bind_some, decide_eq_true_eq, List.length_cons, List.length_nil, Nat.zero_add, Nat.reduceAdd]
    by_cases c1 : b.take 2 = [254, 255]
    · rw [if_pos c1, if_pos c1]
      have := wide_f b (by omega) 0 (by omega)
      rw [show ((0 : Nat) : Int) = 0 from rfl] at this
      rw [this]
      rcases wideGo (asInts b) 0 (b.length + 4) 2 [] with _ | _ <;> rfl
    · rw [if_neg c1, if_neg c1]
      by_cases c2 : b.take 2 = [255, 254]
      · rw [if_pos c2, if_pos c2]
        have := wide_f b (by omega) 1 (by omega)
        rw [show ((1 : Nat) : Int) = 1 from rfl] at this
        rw [this]
        rcases wideGo (asInts b) 1 (b.length + 4) 2 [] with _ | _ <;> rfl
      · rw [if_neg c2, if_neg c2]
        have key : ∀ n : Nat, n ≤ b.length → (Option.bind (xchar_bad.f ⟨(b.drop n).toArray⟩) fun bt115 => if bt115.2 = 0 then ((xchar_lines.f ⟨(b.drop n).toArray⟩).bind fun t117 => some (t117, 0, 0)) else some ((⟨#[]⟩ : ByteArray), bt115.2, wrap64 (wrap64 (((⟨b.toArray⟩ : ByteArray).size : Int) - ((⟨(b.drop n).toArray⟩ : ByteArray).size : Int)) + bt115.1))) = tailD b n := by
          intro n hn
          have hl : (b.drop n).length = b.length - n := by rw [List.length_drop]
          unfold xchar_bad.f tailD
          rw [Option.bind_some, mk_size, mk_size, mk_list, lines_f _ (by rw [mk_size]; omega), mk_list]
          have hk := badL_kind (b.drop n).length (b.drop n) 0
          obtain ⟨B, hB⟩ : ∃ B, badL (b.drop n).length (b.drop n) 0 = B := ⟨_, rfl⟩
          rw [hB] at hk ⊢
          obtain ⟨B1, B2⟩ := B
          simp only at hk ⊢
          rcases hk with ⟨rfl, rfl⟩ | ⟨h3, h0, h1⟩
          · rfl
          · rw [if_neg (by omega), if_neg (by omega), wrapS (i := (b.length : Int) - _) (by omega) (by omega), wrapS (by omega) (by omega)]
            congr 3
            omega
        by_cases c3 : b.take 3 = [239, 187, 191]
        · have hn : 3 ≤ b.length := by
            have := congrArg List.length c3
            rw [List.length_take] at this
            simp only [List.length_cons, List.length_nil] at this
            omega
          rw [if_pos c3, if_pos c3]
          exact key 3 hn
        · rw [if_neg c3, if_neg c3]
          have := key 0 (by omega)
          rw [List.drop_zero] at this
          exact this
end Go.Proofs.YthedigbdkjcpfaaGreatDoor.FactsV
