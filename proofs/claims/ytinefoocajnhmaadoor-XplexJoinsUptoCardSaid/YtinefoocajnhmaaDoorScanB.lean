/- A token of a text's bytes is the token of its runes; so are all that Scan tells. -/
import Derived.Test.YtinefoocajnhmaaDoorPrintxplexscan
import Derived.Test.YtinefoocajnhmaaDoorScanA
set_option linter.unusedSimpArgs false
namespace Go.Proofs.YtinefoocajnhmaaDoor.Scan
open Go.RowKit Go.Proofs.YtinefoocajnhmaaDoorW.PrintWords Go.Proofs.YtinefoocajnhmaaDoor.Plain Go.Proofs.YtinefoocajnhmaaDoor.Print Go.Proofs.YtinefoocajnhmaaDoor.Enc Go.Lib
theorem mk_data (l : List Int) : (mkB l).data.toList = enc l := rfl
theorem mk_eq {x : ByteArray} {l : List Int} (h : x.data.toList = enc l) : x = mkB l := by
  cases x with
  | mk d => simp only at h; rw [mkB, ← h]
theorem ex0 {x : ByteArray} {l m : List Int} (hx : x.data.toList = enc l) (h : m ++ l.drop m.length = l) : x.extract 0 (enc m).length = mkB m := by
  apply mk_eq
  rw [Lib.extract_data, List.drop_zero, Nat.sub_zero, hx, take_pre h]
theorem exr {x : ByteArray} {l m : List Int} (hx : x.data.toList = enc l) (h : m ++ l.drop m.length = l) : (x.extract (enc m).length x.size).data.toList = enc (l.drop m.length) := by
  rw [ext_drop, hx, drop_pre h]
theorem pos_enc (l : List Int) : 0 < (enc l).length ↔ l ≠ [] := by rw [List.length_pos_iff, ne_eq, enc_eq_nil]
theorem trimB_enc {x : ByteArray} {l : List Int} (hx : x.data.toList = enc l) (h : okRs l) : (trimB x).data.toList = enc (trimR l) := by
  show trimLeftS x.data.toList [9, 10, 13, 32] = _
  rw [hx, trim_enc l h]
theorem okRs_trim {l : List Int} (h : okRs l) : okRs (trimR l) := fun x hx => h x ((List.dropWhile_sublist _).mem hx)
theorem word_enc (x : ByteArray) (l : List Int) (h : okRs l) (hx : x.data.toList = enc l) (n : Int) :
    wordB x n = (wordR l n).map fun p => (p.1, mkB p.2.2, (enc p.2.1).length) := by
  have hn := nm_enc l h
  have hq := qname_enc l h
  have e1 := ex0 hx (name_pre l)
  have e2 := exr hx (name_pre l)
  have e3 := ex0 hx (qname_pre l)
  have e4 := exr hx (qname_pre l)
  have o1 := okRs_drop h (nameR l).length
  have o2 := okRs_drop h (qnameR l).length
  unfold wordB wordR
  rw [hx, hn, hq, e1, e3]
  have t1 := trimB_enc e2 o1
  have t2 := trimB_enc e4 o2
  rw [t1, t2, e2]
  have a1 := has_enc [58, 58] (trimR (l.drop (nameR l).length)) (by intro c hc; simp at hc; omega) (okRs_trim o1)
  have a2 := has_enc [58, 42] (l.drop (nameR l).length) (by intro c hc; simp at hc; omega) o1
  have a3 := has_enc [40] (trimR (l.drop (qnameR l).length)) (by intro c hc; simp at hc; omega) (okRs_trim o2)
  rw [show enc [58, 58] = [58, 58] by decide] at a1
  rw [show enc [58, 42] = [58, 42] by decide] at a2
  rw [show enc [40] = [40] by decide] at a3
  rw [a1, a2, a3]
  by_cases c0 : n = 1
  · rw [if_pos c0, if_pos c0]
    split <;> rfl
  · rw [if_neg c0, if_neg c0]
    split
    · rfl
    · split
      · simp only [Option.map_some, Option.some.injEq, Prod.mk.injEq, true_and]
        refine ⟨mk_eq ?_, ?_⟩
        · rw [ByteArray.data_append, Array.toList_append, mk_data, enc_append]; rfl
        · rw [enc_append, List.length_append]; rfl
      · rfl
theorem index_enc (c : Int) (hc : 0 ≤ c ∧ c < 128) (t : List Int) (h : okRs t) : indexByte (enc t) c.toNat.toUInt8 = if c ∈ t then ((enc (t.takeWhile (· ≠ c))).length : Int) else -1 := by
  have hi : ∀ (l : List UInt8) (b : UInt8), indexByte l b = if b ∈ l then ((l.takeWhile (· ≠ b)).length : Int) else -1 := by
    intro l b
    induction l with
    | nil => rfl
    | cons d l ih =>
      unfold indexByte
      by_cases hd : d = b
      · subst hd; simp
      · rw [if_neg (by simpa using hd), ih]
        by_cases hm : b ∈ l
        · rw [if_pos hm, if_neg (by rw [beq_iff_eq]; omega), if_pos (List.mem_cons_of_mem d hm), List.takeWhile_cons_of_pos (by simpa using hd), List.length_cons]; rfl
        · rw [if_neg hm, if_pos (by decide), if_neg (by rw [List.mem_cons]; rintro (h | h); exact hd h.symm; exact hm h)]
  have hb : ∀ rs, okRs rs → (c.toNat.toUInt8 ∈ enc rs ↔ c ∈ rs) ∧ (enc rs).takeWhile (· ≠ c.toNat.toUInt8) = enc (rs.takeWhile (· ≠ c)) := by
    intro rs
    induction rs with
    | nil => intro _; simp [enc]
    | cons r rs ih =>
      intro h
      have hr := okRs_cons h
      have hrr := ok_range hr.1
      have ih := ih hr.2
      by_cases e : r = c
      · subst e
        rw [enc_cons, rune_ascii hc.1 hc.2, List.singleton_append]
        simp [enc]
      · have hall : ∀ b ∈ encodeRune r, b ≠ c.toNat.toUInt8 := by
          intro b hb0 eb
          have h1 := congrArg UInt8.toNat eb
          rw [byteN c hc.1 (by omega)] at h1
          by_cases hlt : r < 128
          · rw [rune_ascii hrr.1 hlt] at hb0
            have h2 := congrArg UInt8.toNat (List.mem_singleton.1 hb0)
            rw [byteN r hrr.1 (by omega)] at h2
            omega
          · have := rune_high hr.1 (by omega) b hb0
            omega
        refine ⟨?_, ?_⟩
        · rw [enc_cons, List.mem_append, List.mem_cons, ih.1]
          constructor
          · rintro (h | h)
            · exact absurd rfl (hall _ h)
            · exact .inr h
          · rintro (h | h)
            · exact absurd h.symm e
            · exact .inr h
        · rw [enc_cons, List.takeWhile_append_of_pos (fun b hb0 => by simpa using hall b hb0), ih.2, List.takeWhile_cons_of_pos (by simpa using e), enc_cons]
  have := hb t h
  rw [hi, this.2]
  by_cases hm : c ∈ t
  · rw [if_pos hm, if_pos (this.1.2 hm)]
  · rw [if_neg hm, if_neg (fun h => hm (this.1.1 h))]
theorem quote_pre (c : Int) (t : List Int) (h : c ∈ t) : t.takeWhile (· ≠ c) ++ c :: t.drop ((t.takeWhile (· ≠ c)).length + 1) = t := by
  induction t with
  | nil => simp at h
  | cons d t ih =>
    by_cases e : d = c
    · subst e; simp
    · rw [List.takeWhile_cons_of_pos (by simpa using e), List.cons_append, List.length_cons, List.drop_succ_cons]
      rw [ih (by rcases List.mem_cons.1 h with h | h; exact absurd h.symm e; exact h)]
theorem sTab_sign : signTab = sTab.map fun p => (p.1, mkB p.2) := by rfl
theorem sTab_asc : ∀ p ∈ sTab, ∀ c ∈ p.2, 32 ≤ c ∧ c < 128 := by decide
theorem sign_enc (x : ByteArray) (l : List Int) (h : okRs l) (hx : x.data.toList = enc l) : signFind x 0 = (sTab.find? fun p => preR p.2 l).map fun p => (p.1, mkB p.2) := by
  unfold signFind
  rw [List.drop_zero, sTab_sign, List.find?_map]
  congr 1
  have key : ∀ (tab : List (Int × List Int)), (∀ p ∈ tab, ∀ c ∈ p.2, 32 ≤ c ∧ c < 128) → tab.find? ((fun p : Int × ByteArray => hasL x.data.toList p.2.data.toList) ∘ fun p => (p.1, mkB p.2)) = tab.find? fun p => preR p.2 l := by
    intro tab
    induction tab with
    | nil => intro _; rfl
    | cons p tab ih =>
      intro ht
      have h1 : hasL x.data.toList (mkB p.2).data.toList = preR p.2 l := by
        rw [hx, mk_data, has_enc p.2 l (fun c hc => by have := ht p (by simp) c hc; omega) h]
      rw [List.find?_cons, List.find?_cons, ih fun q hq => ht q (by simp [hq])]
      simp only [Function.comp_apply, h1]
  exact key sTab sTab_asc
theorem token_enc (x : ByteArray) (l : List Int) (h : okRs l) (hx : x.data.toList = enc l) (n : Int) :
    tokenB x n = (tokenR l n).map fun p => (p.1, mkB p.2.2, (enc p.2.1).length) := by
  have hn := nm_enc l h
  have hnum := number_enc l h
  have e1 := ex0 hx (number_pre l)
  have o1 := okRs_drop h 1
  have q34 := has_enc [34] l (by intro c hc; simp at hc; omega) h
  have q39 := has_enc [39] l (by intro c hc; simp at hc; omega) h
  have q36 := has_enc [36] l (by intro c hc; simp at hc; omega) h
  have q42 := has_enc [42] l (by intro c hc; simp at hc; omega) h
  rw [show enc [34] = [34] by decide] at q34
  rw [show enc [39] = [39] by decide] at q39
  rw [show enc [36] = [36] by decide] at q36
  rw [show enc [42] = [42] by decide] at q42
  have hd : ∀ c, 0 ≤ c ∧ c < 128 → preR [c] l = true → (x.extract 1 x.size).data.toList = enc (l.drop 1) := fun c hc hp => by
    rw [ext_drop, hx]
    have := drop1 c hc l hp 0
    rw [List.drop_zero, Nat.add_zero] at this
    exact this
  have hq : ∀ c, 0 ≤ c ∧ c < 128 → preR [c] l = true → (if indexByte (x.extract 1 x.size).data.toList c.toNat.toUInt8 < 0 then none else some ((2 : Int), x.extract 1 (1 + (indexByte (x.extract 1 x.size).data.toList c.toNat.toUInt8).toNat), (indexByte (x.extract 1 x.size).data.toList c.toNat.toUInt8).toNat + 2)) = (quoteR c (l.drop 1)).map fun p => (p.1, mkB p.2.2, (enc p.2.1).length) := by
    intro c hc hp
    rw [hd c hc hp, index_enc c hc _ o1]
    unfold quoteR
    by_cases hm : c ∈ l.drop 1
    · rw [if_pos hm, if_pos hm, if_neg (by omega), Int.toNat_natCast]
      simp only [Option.map_some, Option.some.injEq, Prod.mk.injEq, true_and]
      refine ⟨mk_eq ?_, ?_⟩
      · have e2 := drop1 c hc l hp 0
        rw [Nat.add_zero, List.drop_zero] at e2
        rw [Lib.extract_data, hx, e2, Nat.add_sub_cancel_left]
        have e3 := quote_pre c _ hm
        conv => lhs; arg 2; rw [← e3]
        exact enc_take _ _
      · rw [enc_cons, enc_append, rune_ascii hc.1 hc.2, enc_cons, enc_nil, rune_ascii hc.1 hc.2]
        simp only [List.length_append, List.length_cons, List.length_nil]; omega
    · rw [if_neg hm, if_neg hm, if_pos (by decide)]; rfl
  unfold tokenB tokenR
  rw [hx, hnum, hn]
  by_cases c0 : numberR l ≠ []
  · rw [if_pos ((pos_enc _).2 c0), if_pos c0, e1]; rfl
  · rw [if_neg (fun h => c0 ((pos_enc _).1 h)), if_neg c0, q34, q39, q36, q42]
    by_cases c1 : preR [34] l = true
    · rw [if_pos c1, if_pos c1]; exact hq 34 (by decide) c1
    · rw [if_neg c1, if_neg c1]
      by_cases c2 : preR [39] l = true
      · rw [if_pos c2, if_pos c2]; exact hq 39 (by decide) c2
      · rw [if_neg c2, if_neg c2]
        by_cases c3 : preR [36] l = true
        · rw [if_pos c3, if_pos c3, hd 36 (by decide) c3, qname_enc _ o1]
          by_cases c4 : qnameR (l.drop 1) = []
          · rw [if_pos c4, if_pos (by rw [c4]; rfl)]; rfl
          · rw [if_neg c4, if_neg (fun h => c4 (enc_eq_nil.1 (List.eq_nil_of_length_eq_zero h)))]
            simp only [Option.map_some, Option.some.injEq, Prod.mk.injEq, true_and]
            refine ⟨mk_eq ?_, ?_⟩
            · have e2 := drop1 36 (by decide) l c3 0
              rw [Nat.add_zero, List.drop_zero] at e2
              rw [Lib.extract_data, hx, e2, Nat.add_sub_cancel_left, take_pre (qname_pre _)]
            · rw [enc_cons, rune_ascii (by decide) (by decide), List.length_append, List.length_singleton]; omega
        · rw [if_neg c3, if_neg c3]
          by_cases c4 : preR [42] l = true
          · rw [if_pos c4, if_pos c4]; rfl
          · rw [if_neg c4, if_neg c4]
            by_cases c5 : nameR l ≠ []
            · rw [if_pos ((pos_enc _).2 c5), if_pos c5]; exact word_enc x l h hx n
            · rw [if_neg (fun h => c5 ((pos_enc _).1 h)), if_neg c5, sign_enc x l h hx, Option.map_map, Option.map_map]
              congr 1
end Go.Proofs.YtinefoocajnhmaaDoor.Scan
