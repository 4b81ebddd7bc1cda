/- Texts of runes: their line ends, their first bytes; decoding of what is of such runes. -/
import Derived.Test.YthedigbdkjcpfaaGreatDoorFactsV
set_option linter.unusedSimpArgs false
namespace Go.Proofs.YthedigbdkjcpfaaGreatDoor.FactsX
open Go.RowKit Go.Proofs.YthedigbdkjcpfaaGreatDoorW.PrintWords Go.Proofs.YthedigbdkjcpfaaGreatDoor.Plain Go.Proofs.YthedigbdkjcpfaaGreatDoor.Print Go.Proofs.YthedigbdkjcpfaaGreatDoor.Lines Go.Proofs.YthedigbdkjcpfaaGreatDoor.FactsV Go.Proofs.YthedigbdkjcpfaaGreatDoor.Enc

theorem encR_enc (rs : List Int) : Print.encR rs = enc rs := rfl
/-! ### line ends of runes -/
def endsR : List Int → List Int
  | [] => []
  | r :: t => if r = 13 then (if t.head? = some 10 then endsR t else 10 :: endsR t) else r :: endsR t
theorem endsR_ok : ∀ rs : List Int, okRs rs → okRs (endsR rs) := by
  intro rs
  induction rs with
  | nil => intro _; exact fun _ h => by simp [endsR] at h
  | cons r t ih =>
    intro h
    have hr := okRs_cons h
    rw [endsR]
    split
    · split
      · exact ih hr.2
      · intro x hx
        rcases List.mem_cons.1 hx with rfl | hx
        · show inSpans isCharL 10 = true; decide
        · exact ih hr.2 x hx
    · intro x hx
      rcases List.mem_cons.1 hx with rfl | hx
      · exact hr.1
      · exact ih hr.2 x hx
theorem ends_skip (bs t : List UInt8) (h : ∀ b ∈ bs, b ≠ 13) : endsL (bs ++ t) = bs ++ endsL t := by
  induction bs with
  | nil => rfl
  | cons b bs ih => rw [List.cons_append, endsL, if_neg (h b (by simp)), ih fun x hx => h x (by simp [hx])]; rfl
theorem ends_enc : ∀ rs : List Int, okRs rs → endsL (enc rs) = enc (endsR rs) := by
  intro rs
  induction rs with
  | nil => intro _; rfl
  | cons r t ih =>
    intro h
    have hr := okRs_cons h
    have hb := ok_range hr.1
    rw [enc_cons, endsR]
    by_cases h13 : r = 13
    · subst h13
      rw [rune_ascii (by omega) (by omega), if_pos rfl]
      show endsL (13 :: enc t) = _
      rw [endsL, if_pos rfl]
      by_cases h10 : t.head? = some 10
      · rw [if_pos h10]
        have : (enc t).head? = some 10 := by
          rcases t with _ | ⟨x, t⟩
          · cases h10
          · obtain rfl : x = 10 := by simpa using h10
            rw [enc_cons, rune_ascii (by omega) (by omega)]; rfl
        rw [if_pos this, ih hr.2]
      · rw [if_neg h10]
        have : ¬ (enc t).head? = some 10 := by
          intro he
          rcases hh : enc t with _ | ⟨c, l⟩
          · rw [hh] at he; cases he
          · rw [hh] at he
            obtain rfl : c = 10 := by simpa using he
            obtain ⟨rs', e, _⟩ := enc_head hr.2 l 10 (by decide) hh
            rw [e] at h10
            exact h10 rfl
        rw [if_neg this, ih hr.2, enc_cons, rune_ascii (by omega) (by omega)]
        rfl
    · rw [if_neg h13, enc_cons, ← ih hr.2]
      refine ends_skip _ _ fun b hbm hb13 => ?_
      subst hb13
      by_cases hlo : r < 128
      · rw [rune_ascii hb.1 hlo, List.mem_singleton] at hbm
        have := congrArg UInt8.toNat hbm
        rw [byteN r hb.1 (by omega)] at this
        have h2 : (13 : UInt8).toNat = 13 := rfl
        omega
      · have := rune_high hr.1 (by omega) 13 hbm
        have h2 : (13 : UInt8).toNat = 13 := rfl
        omega
/-! ### first bytes -/
theorem rune_small {r : Int} (h : okR r) : ∀ b ∈ Lib.encodeRune r, b.toNat < 254 := by
  have hr := ok_range h
  intro b hb
  unfold Lib.encodeRune at hb
  obtain ⟨x, hx, rfl⟩ := List.mem_map.1 hb
  have key : 0 ≤ x ∧ x < 254 := by
    by_cases c1 : r < 128
    · rw [Lib.encodeRuneZ_one hr.1 (by omega)] at hx
      simp only [List.mem_cons, List.not_mem_nil, or_false] at hx
      omega
    · by_cases c2 : r ≤ 2047
      · rw [Lib.encodeRuneZ_two (by omega) c2] at hx
        simp only [List.mem_cons, List.not_mem_nil, or_false] at hx
        rcases hx with rfl | rfl <;> omega
      · by_cases c3 : r ≤ 65535
        · rw [Lib.encodeRuneZ_three (by omega)] at hx
          simp only [List.mem_cons, List.not_mem_nil, or_false] at hx
          rcases hx with rfl | rfl | rfl <;> omega
        · rw [Lib.encodeRuneZ_four (by omega) (by omega)] at hx
          simp only [List.mem_cons, List.not_mem_nil, or_false] at hx
          rcases hx with rfl | rfl | rfl | rfl <;> omega
  rw [byteN x (by omega) (by omega)]
  omega
theorem enc_small {rs : List Int} (h : okRs rs) : ∀ b ∈ enc rs, b.toNat < 254 := by
  intro b hb
  obtain ⟨r, hr, hb⟩ := List.mem_flatMap.1 hb
  exact rune_small (h r hr) b hb
theorem no_mark {rs : List Int} (h : okRs rs) : ¬ (enc rs).take 2 = [254, 255] ∧ ¬ (enc rs).take 2 = [255, 254] := by
  constructor
  · intro e
    have : (254 : UInt8) ∈ enc rs := List.mem_of_mem_take (i := 2) (by rw [e]; simp)
    have := enc_small h _ this
    exact absurd this (by decide)
  · intro e
    have : (255 : UInt8) ∈ enc rs := List.mem_of_mem_take (i := 2) (by rw [e]; simp)
    have := enc_small h _ this
    exact absurd this (by decide)
theorem bom_rune {rs : List Int} (h : okRs rs) (e : (enc rs).take 3 = [239, 187, 191]) : ∃ rs', okRs rs' ∧ (enc rs).drop 3 = enc rs' := by
  rcases rs with _ | ⟨r, rs'⟩
  · simp [enc] at e
  · have hr := okRs_cons h
    have hd := dec_enc hr.1 (enc rs')
    rw [← enc_cons] at hd
    have e2 : enc (r :: rs') = [239, 187, 191] ++ (enc (r :: rs')).drop 3 := by rw [← e, List.take_append_drop]
    have hd2 : Lib.decodeL (enc (r :: rs')) = (65279, 3) := by
      rw [e2, Lib.decodeL_N]
      simp only [List.cons_append, List.nil_append, List.getD_cons_zero, List.getD_cons_succ, List.length_cons]
      unfold Lib.decodeN
      have t1 : (239 : UInt8).toNat = 239 := rfl
      have t2 : (187 : UInt8).toNat = 187 := rfl
      have t3 : (191 : UInt8).toNat = 191 := rfl
      rw [t1, t2, t3, if_neg (by omega), if_neg (by omega), if_pos ⟨by omega, by omega, by omega, by omega⟩, if_pos (by omega)]
    rw [hd2] at hd
    have h3 : (Lib.encodeRune r).length = 3 := (Prod.mk.inj hd).2.symm
    refine ⟨rs', hr.2, ?_⟩
    rw [enc_cons, ← h3, List.drop_left]
theorem bad_enc {rs : List Int} (h : okRs rs) (f a : Nat) : badL f (enc rs) a = (-1, 0) := good_of_enc f rs a h
/-- decoding a text of runes that has no 13 -/
theorem dec_text {rs : List Int} (h : okRs rs) (hz : (enc rs).length ≤ 32768) (h13 : 13 ∉ enc rs) :
    decD (enc rs) = some (⟨(if (enc rs).take 3 = [239, 187, 191] then (enc rs).drop 3 else enc rs).toArray⟩, 0, 0) := by
  unfold decD
  rw [if_neg (by omega), if_neg (no_mark h).1, if_neg (no_mark h).2]
  by_cases c3 : (enc rs).take 3 = [239, 187, 191]
  · rw [if_pos c3, if_pos c3]
    obtain ⟨rs', ok', e⟩ := bom_rune h c3
    unfold tailD
    rw [e, bad_enc ok', if_pos rfl, ends_id _ (by rw [← e]; exact fun hm => h13 (List.mem_of_mem_drop hm))]
  · rw [if_neg c3, if_neg c3]
    unfold tailD
    rw [List.drop_zero, bad_enc h, if_pos rfl, ends_id _ h13]
/-- what is decoded is an error with nothing, or a text of runes whose line ends are line feeds -/
theorem wideGo_kind (l : List Int) (h : Nat) : ∀ (f a : Nat) (acc : List Int), okRs acc → (∃ c a2, wideGo l h f a acc = .error (c, a2) ∧ c ≠ 0) ∨ (∃ rs, wideGo l h f a acc = .ok rs ∧ okRs rs ∧ rs.length ≤ acc.length + f) := by
  intro f
  induction f with
  | zero => intro a acc h; exact .inr ⟨acc, rfl, h, by omega⟩
  | succ f ih =>
    intro a acc hacc
    have push : ∀ c, okR c → okRs (acc ++ [c]) := fun c hc => okRs_append.2 ⟨hacc, fun x hx => by rw [List.mem_singleton] at hx; rw [hx]; exact hc⟩
    have up : ∀ (a2 : Nat) (c : Int), okR c → (∃ c' a', wideGo l h f a2 (acc ++ [c]) = .error (c', a') ∧ c' ≠ 0) ∨ (∃ rs, wideGo l h f a2 (acc ++ [c]) = .ok rs ∧ okRs rs ∧ rs.length ≤ acc.length + (f + 1)) := by
      intro a2 c hc
      rcases ih a2 (acc ++ [c]) (push c hc) with h1 | ⟨rs, h1, h2, h3⟩
      · exact .inl h1
      · rw [List.length_append, List.length_singleton] at h3
        exact .inr ⟨rs, h1, h2, by omega⟩
    rw [wideGo]
    split
    · exact .inr ⟨acc, rfl, hacc, by omega⟩
    · split
      · exact .inl ⟨3, a, rfl, by decide⟩
      · split
        · split
          · split
            · rename_i hc
              exact up _ _ hc
            · exact .inl ⟨4, a, rfl, by decide⟩
          · exact .inl ⟨3, a, rfl, by decide⟩
        · split
          · rename_i hc
            exact up _ _ hc
          · exact .inl ⟨4, a, rfl, by decide⟩
theorem decD_kind (b : List UInt8) : (∃ c a, decD b = some (⟨#[]⟩, c, a) ∧ c ≠ 0) ∨ (∃ rs, decD b = some (⟨(enc rs).toArray⟩, 0, 0) ∧ okRs rs ∧ 13 ∉ enc rs ∧ (enc rs).length ≤ 1000000) := by
  have wk : ∀ h : Nat, ¬ 32768 < b.length → (∃ c a, wres (wideGo (asInts b) h (b.length + 4) 2 []) = some (⟨#[]⟩, c, a) ∧ c ≠ 0) ∨ (∃ rs, wres (wideGo (asInts b) h (b.length + 4) 2 []) = some (⟨(enc rs).toArray⟩, 0, 0) ∧ okRs rs ∧ 13 ∉ enc rs ∧ (enc rs).length ≤ 1000000) := by
    intro h hz
    rcases wideGo_kind (asInts b) h (b.length + 4) 2 [] (fun _ h => by simp at h) with ⟨c, a, e, hc⟩ | ⟨rs, e, ok, hl⟩
    · rw [e]; exact .inl ⟨c, _, rfl, hc⟩
    · rw [e]
      refine .inr ⟨endsR rs, ?_, endsR_ok rs ok, ?_, ?_⟩
      · show some (_, _, _) = _
        rw [encR_enc, ends_enc rs ok]
      · rw [← ends_enc rs ok]; exact ends_no13 _
      · rw [← ends_enc rs ok]
        have h1 := ends_len (enc rs)
        have h2 := encR_len rs
        rw [encR_enc] at h2
        simp only [List.length_nil] at hl
        omega
  have tk : ∀ n : Nat, ¬ 32768 < b.length → (∃ c a, tailD b n = some (⟨#[]⟩, c, a) ∧ c ≠ 0) ∨ (∃ rs, tailD b n = some (⟨(enc rs).toArray⟩, 0, 0) ∧ okRs rs ∧ 13 ∉ enc rs ∧ (enc rs).length ≤ 1000000) := by
    intro n hz
    unfold tailD
    by_cases h0 : (badL (b.drop n).length (b.drop n) 0).2 = 0
    · rw [if_pos h0]
      have hneg := (badL_sign (b.drop n).length (b.drop n) 0).2 h0
      obtain ⟨rs, ok, e⟩ := (good_iff _).1 hneg
      refine .inr ⟨endsR rs, by rw [← ends_enc rs ok, e], endsR_ok rs ok, by rw [← ends_enc rs ok]; exact ends_no13 _, ?_⟩
      rw [← ends_enc rs ok, e]
      have h1 := ends_len (b.drop n)
      rw [List.length_drop] at h1
      omega
    · rw [if_neg h0]
      exact .inl ⟨_, _, rfl, h0⟩
  unfold decD
  split
  · exact .inl ⟨6, 0, rfl, by decide⟩
  · rename_i hz
    split
    · exact wk 0 hz
    · split
      · exact wk 1 hz
      · split
        · exact tk 3 hz
        · exact tk 0 hz
theorem bytesOf_mk (l : List UInt8) : bytesOf ⟨l.toArray⟩ = asInts l := rfl
theorem of_bytes (l : List Int) (h : ∀ x ∈ l, 0 ≤ x ∧ x < 256) : ∃ b : List UInt8, l = asInts b := by
  refine ⟨l.map fun x => x.toNat.toUInt8, ?_⟩
  rw [asInts, List.map_map]
  conv => lhs; rw [← List.map_id l]
  apply List.map_congr_left
  intro x hx
  have h0 := h x hx
  simp only [id, Function.comp_apply]
  rw [Nat.toUInt8, UInt8.toNat_ofNat']
  omega
theorem asInts_inj {a b : List UInt8} (h : asInts a = asInts b) : a = b := by
  have := congrArg strOfNums h
  rw [asInts_str, asInts_str] at this
  exact congrArg (fun s : ByteArray => s.data.toList) this
end Go.Proofs.YthedigbdkjcpfaaGreatDoor.FactsX
