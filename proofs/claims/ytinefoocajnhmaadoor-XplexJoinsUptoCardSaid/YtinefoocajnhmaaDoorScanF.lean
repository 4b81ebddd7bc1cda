/- Tokens spelled anew with blanks between are the same tokens. -/
import Derived.Test.YtinefoocajnhmaaDoorPrintxplexscan
import Derived.Test.YtinefoocajnhmaaDoorScanE
set_option linter.unusedSimpArgs false
namespace Go.Proofs.YtinefoocajnhmaaDoor.Scan
open Go.RowKit Go.Proofs.YtinefoocajnhmaaDoorW.PrintWords Go.Proofs.YtinefoocajnhmaaDoor.Plain Go.Proofs.YtinefoocajnhmaaDoor.Print Go.Proofs.YtinefoocajnhmaaDoor.Enc Go.Lib
/-- a piece spells a token: as it was read, or a string in signs that it does not hold -/
def Sp (t : Tk) (p : List Int) : Prop := p = t.raw ∨ (t.k = 2 ∧ ∃ c, (c = 34 ∨ c = 39) ∧ c ∉ t.txt ∧ p = c :: (t.txt ++ [c]))
def glue : List (List Int × List Int) → List Int
  | [] => []
  | (p, b) :: r => p ++ (b ++ glue r)
def Bl (b : List Int) : Prop := ∀ x ∈ b, bl x = true
def Glued : List Tk → List (List Int × List Int) → Prop
  | [], [] => True
  | t :: ts, (p, b) :: r => Sp t p ∧ Bl b ∧ (r ≠ [] → b ≠ []) ∧ Glued ts r
  | _, _ => False
theorem quote_tok (c : Int) (hc : c = 34 ∨ c = 39) (b : List Int) (hn : c ∉ b) (n : Int) (t : List Int) : tokenR (c :: (b ++ c :: t)) n = some (2, c :: (b ++ [c]), b) := by
  have hdc : dg c = false := by rcases hc with rfl | rfl <;> decide
  have hd46 : c ≠ 46 := by rcases hc with rfl | rfl <;> decide
  have hq : quoteR c (b ++ c :: t) = some (2, c :: (b ++ [c]), b) := by
    have htw : (b ++ c :: t).takeWhile (· ≠ c) = b := by
      rw [List.takeWhile_append_of_pos (fun x hx => by simp only [decide_eq_true_eq]; rintro rfl; exact hn hx)]; simp
    unfold quoteR
    rw [if_pos (by simp), htw]
  unfold tokenR
  rw [number_head c _ hdc hd46, if_neg (by decide), preR1, preR1, List.drop_succ_cons, List.drop_zero]
  rcases hc with rfl | rfl
  · rw [if_pos (by decide)]; exact hq
  · rw [if_neg (by decide), if_pos (by decide)]; exact hq
/-- only a string has the kind of one -/
theorem kind2 {l : List Int} {n k : Int} {raw txt : List Int} (h : tokenR l n = some (k, raw, txt)) (hk : k = 2) : ∃ c t, (c = 34 ∨ c = 39) ∧ l = c :: t := by
  have hp : ∀ c, preR [c] l = true → ∃ t, l = c :: t := fun c h => ⟨l.drop 1, (pre_split [c] l h).symm⟩
  unfold tokenR at h
  split at h
  · simp only [Option.some.injEq, Prod.mk.injEq] at h
    omega
  · split at h
    · rename_i hc; obtain ⟨t, e⟩ := hp 34 hc; exact ⟨34, t, .inl rfl, e⟩
    · split at h
      · rename_i hc; obtain ⟨t, e⟩ := hp 39 hc; exact ⟨39, t, .inr rfl, e⟩
      · split at h
        · split at h
          · cases h
          · simp only [Option.some.injEq, Prod.mk.injEq] at h; omega
        · split at h
          · simp only [Option.some.injEq, Prod.mk.injEq] at h
            have := h.1
            split at this <;> omega
          · split at h
            · unfold wordR at h
              split at h
              · split at h
                · simp only [Option.some.injEq, Prod.mk.injEq] at h; omega
                · cases h
              · split at h
                · simp only [Option.some.injEq, Prod.mk.injEq] at h; omega
                · split at h
                  · simp only [Option.some.injEq, Prod.mk.injEq] at h; omega
                  · simp only [Option.some.injEq, Prod.mk.injEq] at h
                    have := h.1
                    split at this
                    · split at this <;> omega
                    · omega
            · rw [Option.map_eq_some_iff] at h
              obtain ⟨p, h1, h2⟩ := h
              simp only [Prod.mk.injEq] at h2
              have hm := List.mem_of_find?_eq_some h1
              have h3 : ∀ q ∈ sTab, q.1 ≠ 2 := by decide
              exact absurd (h2.1.trans hk) (h3 _ hm)
/-- a token that begins with a colon is :: -/
theorem colon_tok {l : List Int} {n k : Int} {raw txt : List Int} (h : tokenR (58 :: l) n = some (k, raw, txt)) : raw = [58, 58] := by
  have hnm : nameR (58 :: l) = [] := by rw [nameR, if_neg (by decide)]
  unfold tokenR at h
  rw [number_head 58 _ (by decide) (by decide), if_neg (by decide), preR1, preR1, preR1, preR1, if_neg (by decide), if_neg (by decide), if_neg (by decide), if_neg (by decide), hnm, if_neg (by simp), Option.map_eq_some_iff] at h
  obtain ⟨p, h1, h2⟩ := h
  simp only [Prod.mk.injEq] at h2
  obtain ⟨_, rfl, _⟩ := h2
  have hm := List.mem_of_find?_eq_some h1
  have hp := List.find?_some h1
  have hs := pre_split _ _ hp
  have h3 : ∀ q ∈ sTab, q.2.head? = some 58 → q.2 = [58, 58] := by decide
  refine h3 _ hm ?_
  obtain ⟨c, t, e, _⟩ := sign_heads p hm
  rw [e, List.cons_append] at hs
  rw [e, (List.cons.inj hs).1]; rfl
/-- what a token begins with is what its spelling begins with -/
theorem sp_head {l : List Int} {n k : Int} {raw txt p : List Int} (h : tokenR l n = some (k, raw, txt)) (ht : trimR l = l) (hs : Sp ⟨k, raw, txt, l⟩ p) (y : List Int) :
    preR [58, 58] (p ++ y) = preR [58, 58] l ∧ preR [40] (p ++ y) = preR [40] l ∧ ∃ a q, p = a :: q ∧ bl a = false := by
  have hr := token_raw h
  have hbl : ∀ a q, l = a :: q → bl a = false := by
    rintro a q rfl
    rcases hb : bl a with _ | _
    · rfl
    · unfold trimR at ht
      rw [List.dropWhile_cons_of_pos hb] at ht
      have h1 : (q.dropWhile bl).length ≤ q.length := (List.dropWhile_sublist _).length_le
      rw [ht, List.length_cons] at h1
      omega
  rcases hs with e | ⟨hk, c, hc, hn, e⟩
  · simp only at e
    subst e
    obtain ⟨rest, hrest⟩ : ∃ rest, l.drop p.length = rest := ⟨_, rfl⟩
    rw [hrest] at hr
    rcases p with _ | ⟨a, q⟩
    · exact absurd rfl hr.2
    · have hl := hr.1
      rw [List.cons_append] at hl
      refine ⟨?_, ?_, a, q, rfl, hbl a _ hl.symm⟩
      · rcases q with _ | ⟨a2, q⟩
        · have ha : a ≠ 58 := by
            rintro rfl
            rw [← hl] at h
            have := colon_tok h
            cases this
          have f : ∀ z, preR [58, 58] (a :: z) = false := fun z => by
            rcases z with _ | ⟨z1, z⟩
            · exact preR2n _ _ _
            · rw [preR2, decide_eq_false ha]; rfl
          rw [← hl, List.cons_append, f, f]
        · rw [← hl, List.cons_append, List.cons_append, List.cons_append, preR2, preR2]
      · rw [← hl, List.cons_append, preR1, preR1]
  · simp only at hk hn e
    obtain ⟨d, t, hd, hl⟩ := kind2 h hk
    subst e
    have f : ∀ (x : Int), (x = 34 ∨ x = 39) → ∀ z, preR [58, 58] (x :: z) = false ∧ preR [40] (x :: z) = false := by
      intro x hx z
      have h58 : x ≠ 58 := by omega
      have h40 : x ≠ 40 := by omega
      refine ⟨?_, by rw [preR1, decide_eq_false h40]⟩
      rcases z with _ | ⟨z1, z⟩
      · exact preR2n _ _ _
      · rw [preR2, decide_eq_false h58]; rfl
    rw [hl, List.cons_append, (f c hc _).1, (f c hc _).2, (f d hd _).1, (f d hd _).2]
    exact ⟨rfl, rfl, c, _, rfl, by rcases hc with rfl | rfl <;> decide⟩
theorem trim_idem (l : List Int) : trimR (trimR l) = trimR l := by
  unfold trimR
  induction l with
  | nil => rfl
  | cons a l ih =>
    by_cases ha : bl a = true
    · rw [List.dropWhile_cons_of_pos ha, ih]
    · rw [List.dropWhile_cons_of_neg ha, List.dropWhile_cons_of_neg ha]
theorem trim_bl (b r : List Int) (hb : Bl b) : trimR (b ++ r) = trimR r := by
  unfold trimR; rw [List.dropWhile_append_of_pos hb]
theorem scanT_nil {f : Nat} {l : List Int} {n : Int} (h : scanT f l n = .ok []) (hf : l.length < f) : l = [] := by
  cases f with
  | zero => omega
  | succ f =>
    rw [scanT] at h
    split at h
    · assumption
    · split at h
      · cases h
      · rename_i k raw txt _
        rcases hs : scanT f (trimR (l.drop raw.length)) (nextR k txt) with e | us
        · rw [hs] at h; cases h
        · rw [hs] at h; simp [consT] at h
theorem scanT_cons {f : Nat} {l : List Int} {n : Int} {t : Tk} {us : List Tk} (h : scanT (f + 1) l n = .ok (t :: us)) : t.suf = l ∧ tokenR l n = some (t.k, t.raw, t.txt) ∧ scanT f (trimR (l.drop t.raw.length)) (nextR t.k t.txt) = .ok us ∧ l ≠ [] := by
  rw [scanT] at h
  split at h
  · cases h
  · rename_i h0
    split at h
    · cases h
    · rename_i k raw txt ht
      rcases hs : scanT f (trimR (l.drop raw.length)) (nextR k txt) with e | vs
      · rw [hs] at h; cases h
      · rw [hs] at h
        simp only [consT, Except.ok.injEq, List.cons.injEq] at h
        obtain ⟨rfl, rfl⟩ := h
        exact ⟨rfl, ht, hs, h0⟩
theorem glued_nil {ts : List Tk} (h : Glued ts []) : ts = [] := by
  cases ts with
  | nil => rfl
  | cons t ts => exact h.elim
/-- what is told of a token: its kind and text -/
def what (t : Tk) : Int × List Int := (t.k, t.txt)
theorem glue_scan : ∀ (f : Nat) (l : List Int) (n : Int) (ts : List Tk), scanT f l n = .ok ts → l.length < f → trimR l = l →
    ∀ pb, Glued ts pb → ∀ f2, (glue pb).length < f2 → ∃ us, scanT f2 (glue pb) n = .ok us ∧ us.map what = ts.map what := by
  intro f
  induction f with
  | zero => intro l n ts _ h; omega
  | succ f ih =>
    intro l n ts h hf ht pb hG f2 hf2
    rcases ts with _ | ⟨t, ts⟩
    · rcases pb with _ | ⟨x, pb⟩
      · refine ⟨[], ?_, rfl⟩
        cases f2 with
        | zero => rfl
        | succ f2 => rw [glue, scanT, if_pos rfl]
      · exact hG.elim
    · rcases pb with _ | ⟨⟨p, b⟩, r⟩
      · exact hG.elim
      · obtain ⟨hS, hb, hbr, hG2⟩ := hG
        obtain ⟨hsuf, htok, hrest, hne⟩ := scanT_cons h
        have hraw := token_raw htok
        have hl2 : (trimR (l.drop t.raw.length)).length < f := by
          have h1 : (trimR (l.drop t.raw.length)).length ≤ (l.drop t.raw.length).length := (List.dropWhile_sublist _).length_le
          rw [List.length_drop] at h1
          have h2 := List.length_pos_iff.2 hraw.2
          have h3 := List.length_pos_iff.2 hne
          omega
        have hS' : Sp ⟨t.k, t.raw, t.txt, l⟩ p := hS
        obtain ⟨_, _, a, q, hpa, _⟩ := sp_head htok ht hS' []
        have hplen : 1 ≤ p.length := by rw [hpa]; simp
        -- what stands behind
        have hstop : Stop (b ++ glue r) := by
          rcases r with _ | ⟨x, r⟩
          · rw [glue, List.append_nil]
            rcases b with _ | ⟨y, b⟩
            · exact .inl rfl
            · exact .inr ⟨y, b, rfl, hb y (by simp)⟩
          · rcases b with _ | ⟨y, b⟩
            · exact absurd rfl (hbr (by simp))
            · exact .inr ⟨y, _, rfl, hb y (by simp)⟩
        have htrim : trimR (b ++ glue r) = glue r ∧ preR [58, 58] (glue r) = preR [58, 58] (trimR (l.drop t.raw.length)) ∧ preR [40] (glue r) = preR [40] (trimR (l.drop t.raw.length)) := by
          rw [trim_bl b _ hb]
          rcases ts with _ | ⟨u, us⟩
          · have e := scanT_nil hrest hl2
            rcases r with _ | ⟨x, r⟩
            · rw [glue, e]; exact ⟨rfl, rfl, rfl⟩
            · exact hG2.elim
          · rcases r with _ | ⟨⟨p2, b2⟩, r⟩
            · exact hG2.elim
            · cases f with
              | zero => omega
              | succ f =>
                obtain ⟨hs2, htok2, _, _⟩ := scanT_cons hrest
                have h2 := sp_head htok2 (trim_idem _) (show Sp ⟨u.k, u.raw, u.txt, trimR (l.drop t.raw.length)⟩ p2 from hG2.1) (b2 ++ glue r)
                obtain ⟨h58, h40, a2, q2, e2, hbl2⟩ := h2
                rw [glue]
                refine ⟨?_, h58, h40⟩
                rw [e2]
                unfold trimR
                rw [List.cons_append, List.dropWhile_cons_of_neg (by rw [hbl2]; decide)]
        have htok' : tokenR (p ++ (b ++ glue r)) n = some (t.k, p, t.txt) := by
          rcases hS' with e | ⟨hk, c, hc, hn, e⟩
          · simp only at e
            rw [e]
            exact token_loc htok _ hstop (by rw [htrim.1]; exact htrim.2.1) (by rw [htrim.1]; exact htrim.2.2)
          · simp only at hk hn e
            rw [e, hk, List.cons_append, List.append_assoc, List.singleton_append]
            exact quote_tok c hc _ hn n _
        obtain ⟨f3, rfl⟩ : ∃ m, f2 = m + 1 := ⟨f2 - 1, by omega⟩
        obtain ⟨us, hus, hw⟩ := ih _ _ ts hrest hl2 (trim_idem _) r hG2 f3 (by
          rw [glue, List.length_append, List.length_append] at hf2; omega)
        refine ⟨⟨t.k, p, t.txt, glue ((p, b) :: r)⟩ :: us, ?_, ?_⟩
        · rw [scanT, if_neg (by rw [glue, hpa]; simp), glue, htok']
          simp only []
          rw [List.drop_left, htrim.1, hus]
          rfl
        · rw [List.map_cons, List.map_cons, hw]; rfl
end Go.Proofs.YtinefoocajnhmaaDoor.Scan
