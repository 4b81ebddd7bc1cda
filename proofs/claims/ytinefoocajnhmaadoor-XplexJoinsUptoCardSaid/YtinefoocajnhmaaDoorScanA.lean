/- The scanner over runes: what it tells of a text's bytes it tells of the text's runes. -/
import Derived.Test.YtinefoocajnhmaaDoorPrintxplexscan
import Derived.Test.YtinefoocajnhmaaDoorEnc
set_option linter.unusedSimpArgs false
namespace Go.Proofs.YtinefoocajnhmaaDoor.Scan
open Go.RowKit Go.Proofs.YtinefoocajnhmaaDoorW.PrintWords Go.Proofs.YtinefoocajnhmaaDoor.Plain Go.Proofs.YtinefoocajnhmaaDoor.Print Go.Proofs.YtinefoocajnhmaaDoor.Enc Go.Lib
def bl (r : Int) : Bool := decide (r = 9) || decide (r = 10) || decide (r = 13) || decide (r = 32)
def dg (r : Int) : Bool := decide (48 ≤ r ∧ r ≤ 57)
def trimR (l : List Int) : List Int := l.dropWhile bl
def preR (p l : List Int) : Bool := l.take p.length == p
def nameR : List Int → List Int
  | [] => []
  | r :: t => if beginsS r = true then (r :: t).takeWhile goesOnS else []
def numberR (l : List Int) : List Int :=
  if preR [46] (l.dropWhile dg) = true then
    if l.takeWhile dg = [] ∧ ((l.dropWhile dg).drop 1).takeWhile dg = [] then [] else l.takeWhile dg ++ 46 :: ((l.dropWhile dg).drop 1).takeWhile dg
  else l.takeWhile dg
def qnameR (l : List Int) : List Int :=
  if nameR l ≠ [] ∧ preR [58] (l.drop (nameR l).length) = true ∧ nameR (l.drop ((nameR l).length + 1)) ≠ [] then nameR l ++ 58 :: nameR (l.drop ((nameR l).length + 1)) else nameR l
def mkB (rs : List Int) : ByteArray := ⟨(enc rs).toArray⟩
def sTab : List (Int × List Int) := [(9, [58, 58]), (9, [46, 46]), (8, [47, 47]), (8, [33, 61]), (8, [60, 61]), (8, [62, 61]), (9, [40]), (9, [41]), (9, [91]), (9, [93]), (9, [46]), (9, [64]), (9, [44]), (8, [47]), (8, [124]), (8, [43]), (8, [45]), (8, [61]), (8, [60]), (8, [62])]
/-- kind, what is read, what is told -/
def wordR (l : List Int) (n : Int) : Option (Int × List Int × List Int) :=
  if n = 1 then (if memB (mkB (nameR l)) opNames = true then some (8, nameR l, nameR l) else none)
  else if preR [58, 58] (trimR (l.drop (nameR l).length)) = true then some (6, nameR l, nameR l)
  else if preR [58, 42] (l.drop (nameR l).length) = true then some (3, nameR l ++ [58, 42], nameR l ++ [58, 42])
  else some ((if preR [40] (trimR (l.drop (qnameR l).length)) = true then (if memB (mkB (qnameR l)) typeNames = true then 5 else 4) else 3), qnameR l, qnameR l)
def quoteR (c : Int) (t : List Int) : Option (Int × List Int × List Int) :=
  if c ∈ t then some (2, c :: (t.takeWhile (· ≠ c) ++ [c]), t.takeWhile (· ≠ c)) else none
def tokenR (l : List Int) (n : Int) : Option (Int × List Int × List Int) :=
  if numberR l ≠ [] then some (1, numberR l, numberR l)
  else if preR [34] l = true then quoteR 34 (l.drop 1)
  else if preR [39] l = true then quoteR 39 (l.drop 1)
  else if preR [36] l = true then (if qnameR (l.drop 1) = [] then none else some (7, 36 :: qnameR (l.drop 1), qnameR (l.drop 1)))
  else if preR [42] l = true then some ((if n = 0 then 3 else 8), [42], [42])
  else if nameR l ≠ [] then wordR l n
  else (sTab.find? fun p => preR p.2 l).map fun p => (p.1, p.2, p.2)
/-! ### a set of bytes below 128 -/
theorem bytes_set (p : UInt8 → Bool) (q : Int → Bool) (hp : ∀ b, p b = true → b.toNat < 128) (hq : ∀ r, q r = true → 0 ≤ r ∧ r < 128) (hpq : ∀ r : Int, 0 ≤ r → r < 128 → p r.toNat.toUInt8 = q r) :
    ∀ rs, okRs rs → (enc rs).dropWhile p = enc (rs.dropWhile q) ∧ (enc rs).takeWhile p = enc (rs.takeWhile q) := by
  intro rs
  induction rs with
  | nil => intro _; exact ⟨rfl, rfl⟩
  | cons r rs ih =>
    intro h
    have hr := okRs_cons h
    have hrr := ok_range hr.1
    by_cases hqr : q r = true
    · have h1 := hq r hqr
      rw [enc_cons, rune_ascii h1.1 h1.2, List.singleton_append, List.dropWhile_cons_of_pos (by rw [hpq r h1.1 h1.2]; exact hqr), List.takeWhile_cons_of_pos (by rw [hpq r h1.1 h1.2]; exact hqr), List.dropWhile_cons_of_pos hqr, List.takeWhile_cons_of_pos hqr, enc_cons, rune_ascii h1.1 h1.2, (ih hr.2).1, (ih hr.2).2]
      exact ⟨rfl, rfl⟩
    · have hf : ∃ b t, encodeRune r = b :: t ∧ p b = false := by
        by_cases hlt : r < 128
        · exact ⟨_, [], rune_ascii hrr.1 hlt, by rw [hpq r hrr.1 hlt]; exact eq_false_of_ne_true hqr⟩
        · have hh := rune_high hr.1 (by omega)
          rcases he : encodeRune r with _ | ⟨b, t⟩
          · exact absurd he (rune_ne r)
          · refine ⟨b, t, rfl, ?_⟩
            have := hh b (by rw [he]; simp)
            refine eq_false_of_ne_true fun hpb => ?_
            have := hp b hpb
            omega
      obtain ⟨b, t, he, hb⟩ := hf
      rw [List.dropWhile_cons_of_neg hqr, List.takeWhile_cons_of_neg hqr, enc_cons, he, List.cons_append, List.dropWhile_cons_of_neg (by rw [hb]; decide), List.takeWhile_cons_of_neg (by rw [hb]; decide)]
      exact ⟨rfl, rfl⟩
theorem all128 (P : UInt8 → Prop) [DecidablePred P] (h : ∀ n : Fin 128, P (n.val.toUInt8)) (r : Int) (h0 : 0 ≤ r) (h1 : r < 128) : P r.toNat.toUInt8 := h ⟨r.toNat, by omega⟩
theorem trim_enc (rs : List Int) (h : okRs rs) : trimLeftS (enc rs) [9, 10, 13, 32] = enc (trimR rs) := by
  refine (bytes_set _ bl (fun b hb => ?_) (fun r hr => ?_) (fun r h0 h1 => ?_) rs h).1
  · simp only [List.contains_cons, List.contains_nil, Bool.or_false, Bool.or_eq_true, beq_iff_eq] at hb
    rcases hb with rfl | rfl | rfl | rfl <;> decide
  · simp only [bl, Bool.or_eq_true, decide_eq_true_eq] at hr
    omega
  · obtain ⟨n, rfl⟩ : ∃ n : Nat, r = n := ⟨r.toNat, by omega⟩
    have key : ∀ m : Fin 128, ([9, 10, 13, 32] : List UInt8).contains (m.val.toUInt8) = bl (m.val : Int) := by decide
    exact key ⟨n, by omega⟩
theorem digits_enc (rs : List Int) (h : okRs rs) : digitsL (enc rs) = (enc (rs.takeWhile dg)).length ∧ trimLeftS (enc rs) [48, 49, 50, 51, 52, 53, 54, 55, 56, 57] = enc (rs.dropWhile dg) := by
  have e : trimLeftS (enc rs) [48, 49, 50, 51, 52, 53, 54, 55, 56, 57] = enc (rs.dropWhile dg) := by
    refine (bytes_set _ dg (fun b hb => ?_) (fun r hr => ?_) (fun r h0 h1 => ?_) rs h).1
    · simp only [List.contains_cons, List.contains_nil, Bool.or_false, Bool.or_eq_true, beq_iff_eq] at hb
      rcases hb with rfl | rfl | rfl | rfl | rfl | rfl | rfl | rfl | rfl | rfl <;> decide
    · simp only [dg, decide_eq_true_eq] at hr
      omega
    · obtain ⟨n, rfl⟩ : ∃ n : Nat, r = n := ⟨r.toNat, by omega⟩
      have key : ∀ m : Fin 128, ([48, 49, 50, 51, 52, 53, 54, 55, 56, 57] : List UInt8).contains (m.val.toUInt8) = dg (m.val : Int) := by decide
      exact key ⟨n, by omega⟩
  refine ⟨?_, e⟩
  unfold digitsL
  rw [e]
  have : enc rs = enc (rs.takeWhile dg) ++ enc (rs.dropWhile dg) := by rw [← enc_append, List.takeWhile_append_dropWhile]
  rw [this, List.length_append]
  omega
def asc (p : List Int) : Prop := ∀ c ∈ p, 0 ≤ c ∧ c < 128
theorem has_enc : ∀ (p rs : List Int), asc p → okRs rs → hasL (enc rs) (enc p) = preR p rs := by
  intro p
  induction p with
  | nil => intro rs _ _; simp [hasL, preR, enc]
  | cons c p ih =>
    intro rs hp h
    have hc := hp c (by simp)
    have hp2 : asc p := fun x hx => hp x (by simp [hx])
    rcases rs with _ | ⟨r, rs⟩
    · have : enc (c :: p) ≠ [] := fun e => by simp [enc_eq_nil] at e
      rw [show preR (c :: p) [] = false from rfl]
      refine beq_eq_false_iff_ne.2 fun e => this (by rw [← e]; simp [enc])
    · have hr := okRs_cons h
      have hrr := ok_range hr.1
      have ih2 := ih rs hp2 hr.2
      rw [enc_cons c p, rune_ascii hc.1 hc.2, List.singleton_append]
      by_cases hrc : r = c
      · subst hrc
        rw [enc_cons, rune_ascii hc.1 hc.2, List.singleton_append]
        simp only [hasL, preR, List.length_cons, List.take_succ_cons] at ih2 ⊢
        rw [show ∀ (a : UInt8) (x y : List UInt8), (a :: x == a :: y) = (x == y) from fun a x y => by simp, ih2]
        simp
      · have hf : ∃ b t, encodeRune r = b :: t ∧ b ≠ c.toNat.toUInt8 := by
          by_cases hlt : r < 128
          · refine ⟨_, [], rune_ascii hrr.1 hlt, fun e => hrc ?_⟩
            have := congrArg UInt8.toNat e
            rw [byteN r hrr.1 (by omega), byteN c hc.1 (by omega)] at this
            omega
          · have hh := rune_high hr.1 (by omega)
            rcases he : encodeRune r with _ | ⟨b, t⟩
            · exact absurd he (rune_ne r)
            · refine ⟨b, t, rfl, fun e => ?_⟩
              have h1 := hh b (by rw [he]; simp)
              rw [e, byteN c hc.1 (by omega)] at h1
              omega
        obtain ⟨b, t, he, hb⟩ := hf
        rw [enc_cons, he, List.cons_append]
        have e1 : preR (c :: p) (r :: rs) = false := by
          refine beq_eq_false_iff_ne.2 fun e => hrc ?_
          rw [List.length_cons, List.take_succ_cons] at e
          exact (List.cons.inj e).1
        rw [e1]
        refine beq_eq_false_iff_ne.2 fun e => hb ?_
        rw [List.length_cons, List.take_succ_cons] at e
        exact (List.cons.inj e).1
theorem asc_ok (p : List Int) (h : ∀ c ∈ p, 32 ≤ c ∧ c < 128) : okRs p := by
  intro c hc
  have := h c hc
  show inSpans isCharL c = true
  exact inSpans_hit isCharL c 32 55295 2 rfl (by omega) (by omega)
theorem name_enc : ∀ (f : Nat) (rs : List Int) (a : Nat), okRs rs → rs.length ≤ f →
    nameL f (enc rs) a = a + (enc (if a = 0 then nameR rs else rs.takeWhile goesOnS)).length := by
  intro f
  induction f with
  | zero =>
    intro rs a _ hl
    have : rs = [] := List.eq_nil_of_length_eq_zero (by omega)
    subst this
    simp [nameL, nameR, enc]
  | succ f ih =>
    intro rs a h hl
    rcases rs with _ | ⟨r, rs⟩
    · rw [enc_nil, nameL_nil]; simp [nameR, enc]
    · have hr := okRs_cons h
      have hrr := ok_range hr.1
      have er : ((r.toNat : Nat) : Int) = r := by omega
      have hlen := rune_len r
      have ih2 := ih rs (a + (encodeRune r).length) hr.2 (by simpa using hl)
      rw [if_neg (by omega)] at ih2
      rw [nameL, if_neg (by rw [enc_eq_nil]; simp), enc_cons, dec_enc hr.1]
      simp only
      rw [er, List.drop_left, ih2]
      have hbg := beginsS_goesOnS r
      by_cases ha : a = 0
      · rw [if_pos ha]
        by_cases hb : beginsS r = true
        · rw [if_neg (fun h => h.elim (fun h => by rw [hb] at h; exact absurd h.2 (by decide)) (fun h => by rw [hbg hb] at h; exact absurd h (by decide)))]
          rw [nameR, if_pos hb, List.takeWhile_cons_of_pos (hbg hb), enc_cons, List.length_append]
          omega
        · rw [if_pos (.inl ⟨ha, eq_false_of_ne_true hb⟩), nameR, if_neg hb]
          simp [enc]
      · rw [if_neg ha]
        by_cases hg : goesOnS r = true
        · rw [if_neg (fun h => h.elim (fun h => ha h.1) (fun h => by rw [hg] at h; exact absurd h (by decide)))]
          rw [List.takeWhile_cons_of_pos hg, enc_cons, List.length_append]
          omega
        · rw [if_pos (.inr (eq_false_of_ne_true hg)), List.takeWhile_cons_of_neg hg]
          simp [enc]
theorem nm_enc (rs : List Int) (h : okRs rs) : nmL (enc rs) = (enc (nameR rs)).length := by
  unfold nmL
  rw [name_enc _ rs 0 h (enc_len rs), if_pos rfl, Nat.zero_add]
/-! ### what is read stands at the begin -/
theorem tw_drop (p : Int → Bool) (l : List Int) : l.drop (l.takeWhile p).length = l.dropWhile p := by
  have h := List.takeWhile_append_dropWhile (p := p) (l := l)
  have h2 := congrArg (List.drop (l.takeWhile p).length) h
  rw [List.drop_left] at h2; exact h2.symm
theorem name_pre (l : List Int) : nameR l ++ l.drop (nameR l).length = l := by
  rcases l with _ | ⟨r, t⟩
  · rfl
  · rw [nameR]
    split
    · rw [tw_drop, List.takeWhile_append_dropWhile]
    · rfl
theorem pre_split (p l : List Int) (h : preR p l = true) : p ++ l.drop p.length = l := by
  have h2 : l.take p.length = p := beq_iff_eq.1 h
  conv => lhs; arg 1; rw [← h2]
  exact List.take_append_drop _ _
theorem pre_app (p l : List Int) : preR p (p ++ l) = true := by simp [preR]
theorem number_pre (l : List Int) : numberR l ++ l.drop (numberR l).length = l := by
  unfold numberR
  split
  · rename_i h
    have h1 := pre_split _ _ h
    split
    · rfl
    · have e : l = l.takeWhile dg ++ 46 :: (((l.dropWhile dg).drop 1).takeWhile dg ++ ((l.dropWhile dg).drop 1).dropWhile dg) := by
        rw [List.takeWhile_append_dropWhile, show (46 :: (l.dropWhile dg).drop 1 : List Int) = l.dropWhile dg from h1, List.takeWhile_append_dropWhile]
      have e2 : l = (l.takeWhile dg ++ 46 :: ((l.dropWhile dg).drop 1).takeWhile dg) ++ ((l.dropWhile dg).drop 1).dropWhile dg := by
        rw [List.append_assoc, List.cons_append]; exact e
      have e3 := congrArg (List.drop (l.takeWhile dg ++ 46 :: ((l.dropWhile dg).drop 1).takeWhile dg).length) e2
      rw [List.drop_left] at e3
      rw [e3]; exact e2.symm
  · rw [tw_drop, List.takeWhile_append_dropWhile]
theorem qname_pre (l : List Int) : qnameR l ++ l.drop (qnameR l).length = l := by
  unfold qnameR
  split
  · rename_i h
    have h1 := name_pre l
    have h2 := pre_split _ _ h.2.1
    have h3 := name_pre (l.drop ((nameR l).length + 1))
    rw [List.drop_drop, List.length_singleton] at h2
    have e2 : l = (nameR l ++ 58 :: nameR (l.drop ((nameR l).length + 1))) ++ (l.drop ((nameR l).length + 1)).drop (nameR (l.drop ((nameR l).length + 1))).length := by
      rw [List.append_assoc, List.cons_append, h3]
      conv => lhs; rw [← h1, ← h2]
      rfl
    have e3 := congrArg (List.drop (nameR l ++ 58 :: nameR (l.drop ((nameR l).length + 1))).length) e2
    rw [List.drop_left] at e3
    rw [e3]; exact e2.symm
  · exact name_pre l
/-! ### bytes of what stands at the begin -/
theorem enc_take (m t : List Int) : (enc (m ++ t)).take (enc m).length = enc m := by rw [enc_append, List.take_left]
theorem enc_drop (m t : List Int) : (enc (m ++ t)).drop (enc m).length = enc t := by rw [enc_append, List.drop_left]
theorem okRs_drop {l : List Int} (h : okRs l) (k : Nat) : okRs (l.drop k) := fun x hx => h x (List.mem_of_mem_drop hx)
theorem drop_pre {l m : List Int} (h : m ++ l.drop m.length = l) : (enc l).drop (enc m).length = enc (l.drop m.length) := by
  conv => lhs; arg 2; rw [← h]
  exact enc_drop _ _
theorem take_pre {l m : List Int} (h : m ++ l.drop m.length = l) : (enc l).take (enc m).length = enc m := by
  conv => lhs; arg 2; rw [← h]
  exact enc_take _ _
theorem drop1 (c : Int) (hc : 0 ≤ c ∧ c < 128) (l : List Int) (h : preR [c] l = true) (k : Nat) : (enc l).drop (1 + k) = (enc (l.drop 1)).drop k := by
  have h1 := pre_split _ _ h
  conv => lhs; arg 2; rw [← h1]
  rw [enc_append, enc_cons, enc_nil, List.append_nil, rune_ascii hc.1 hc.2, List.singleton_append, Nat.add_comm, List.drop_succ_cons]
  rfl
theorem number_enc (l : List Int) (h : okRs l) : numberL (enc l) = (enc (numberR l)).length := by
  have hd := digits_enc l h
  have hl1 : (enc l).drop (digitsL (enc l)) = enc (l.dropWhile dg) := by
    rw [hd.1, drop_pre (by rw [tw_drop, List.takeWhile_append_dropWhile]), tw_drop]
  have hok : okRs (l.dropWhile dg) := by rw [← tw_drop]; exact okRs_drop h _
  have hh := has_enc [46] (l.dropWhile dg) (by intro c hc; simp at hc; omega) hok
  have hok2 := okRs_drop hok 1
  have hd2 := digits_enc ((l.dropWhile dg).drop 1) hok2
  unfold numberL numberR
  rw [hl1]
  rw [show ([46] : List UInt8) = enc [46] from by decide, hh]
  by_cases hp : preR [46] (l.dropWhile dg) = true
  · rw [if_pos hp, if_pos hp]
    have e2 : (enc l).drop (digitsL (enc l) + 1) = enc ((l.dropWhile dg).drop 1) := by
      rw [← List.drop_drop, hl1, drop1 46 (by decide) _ hp 0, List.drop_zero]
    rw [e2, hd2.1, hd.1]
    by_cases hz : l.takeWhile dg = [] ∧ ((l.dropWhile dg).drop 1).takeWhile dg = []
    · rw [if_pos hz, hz.1, hz.2]; rfl
    · rw [if_neg hz, if_neg]
      · rw [enc_append, enc_cons, rune_ascii (by decide) (by decide), List.length_append, List.length_append, List.length_singleton]; omega
      · intro he
        refine hz ⟨enc_eq_nil.1 (List.eq_nil_of_length_eq_zero (by omega)), enc_eq_nil.1 (List.eq_nil_of_length_eq_zero (by omega))⟩
  · rw [if_neg hp, if_neg hp, hd.1]
theorem qname_enc (l : List Int) (h : okRs l) : qnameL (enc l) = (enc (qnameR l)).length := by
  have hn := nm_enc l h
  have e1 : (enc l).drop (nmL (enc l)) = enc (l.drop (nameR l).length) := by rw [hn, drop_pre (name_pre l)]
  have hh := has_enc [58] (l.drop (nameR l).length) (by intro c hc; simp at hc; omega) (okRs_drop h _)
  unfold qnameL
  show (if 0 < nmL (enc l) ∧ hasL ((enc l).drop (nmL (enc l))) [58] = true ∧ 0 < nmL ((enc l).drop (nmL (enc l) + 1)) then nmL (enc l) + 1 + nmL ((enc l).drop (nmL (enc l) + 1)) else nmL (enc l)) = _
  rw [e1, show ([58] : List UInt8) = enc [58] from by decide, hh]
  unfold qnameR
  by_cases hp : preR [58] (l.drop (nameR l).length) = true
  · have e2 : (enc l).drop (nmL (enc l) + 1) = enc (l.drop ((nameR l).length + 1)) := by
      rw [← List.drop_drop, e1, drop1 58 (by decide) _ hp 0, List.drop_zero, List.drop_drop]
    have h2 := nm_enc (l.drop ((nameR l).length + 1)) (okRs_drop h _)
    rw [e2, h2, hn]
    have z : ∀ x : List Int, 0 < (enc x).length ↔ x ≠ [] := fun x => by
      rw [List.length_pos_iff, ne_eq, enc_eq_nil]
    by_cases hc : nameR l ≠ [] ∧ preR [58] (l.drop (nameR l).length) = true ∧ nameR (l.drop ((nameR l).length + 1)) ≠ []
    · rw [if_pos ⟨(z _).2 hc.1, hc.2.1, (z _).2 hc.2.2⟩, if_pos hc, enc_append, enc_cons, rune_ascii (by decide) (by decide), List.length_append, List.length_append, List.length_singleton]; omega
    · rw [if_neg (fun h => hc ⟨(z _).1 h.1, h.2.1, (z _).1 h.2.2⟩), if_neg hc]
  · rw [if_neg (fun h => hp h.2.1), if_neg (fun h => hp h.2.1), hn]
end Go.Proofs.YtinefoocajnhmaaDoor.Scan
