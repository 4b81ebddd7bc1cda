/- A token hangs on what stands behind it only so far: behind a blank, or at the end, it is the same. -/
import Derived.Test.YtinefoocajnhmaaDoorPrintxplexscan
import Derived.Test.YtinefoocajnhmaaDoorScanD
set_option linter.unusedSimpArgs false
namespace Go.Proofs.YtinefoocajnhmaaDoor.Scan
open Go.RowKit Go.Proofs.YtinefoocajnhmaaDoorW.PrintWords Go.Proofs.YtinefoocajnhmaaDoor.Plain Go.Proofs.YtinefoocajnhmaaDoor.Print Go.Proofs.YtinefoocajnhmaaDoor.Enc Go.Lib
/-- nothing, or a blank -/
def Stop (r : List Int) : Prop := r = [] ∨ ∃ x y, r = x :: y ∧ bl x = true
theorem bl_cases {x : Int} (h : bl x = true) : x = 9 ∨ x = 10 ∨ x = 13 ∨ x = 32 := by
  simp only [bl, Bool.or_eq_true, decide_eq_true_eq] at h; omega
theorem bl_not {x : Int} (h : bl x = true) : goesOnS x = false ∧ dg x = false ∧ x ≠ 46 ∧ x ≠ 58 ∧ x ≠ 42 ∧ x ≠ 47 ∧ x ≠ 61 := by
  rcases bl_cases h with rfl | rfl | rfl | rfl <;> decide
theorem stop_tw (p : Int → Bool) (hp : ∀ x, bl x = true → p x = false) {r : List Int} (h : Stop r) : r.takeWhile p = [] ∧ r.dropWhile p = r := by
  rcases h with rfl | ⟨x, y, rfl, hx⟩
  · exact ⟨rfl, rfl⟩
  · exact ⟨List.takeWhile_cons_of_neg (by rw [hp x hx]; decide), List.dropWhile_cons_of_neg (by rw [hp x hx]; decide)⟩
theorem tw_app (p : Int → Bool) (hp : ∀ x, bl x = true → p x = false) (m r : List Int) (hm : ∀ x ∈ m, p x = true) (h : Stop r) : (m ++ r).takeWhile p = m ∧ (m ++ r).dropWhile p = r := by
  have := stop_tw p hp h
  rw [List.takeWhile_append_of_pos hm, List.dropWhile_append_of_pos hm, this.1, this.2, List.append_nil]
  exact ⟨rfl, rfl⟩
theorem preR1 (a c : Int) (l : List Int) : preR [a] (c :: l) = decide (c = a) := by
  rw [Bool.eq_iff_iff]; simp [preR]
theorem preR2 (a b c d : Int) (l : List Int) : preR [a, b] (c :: d :: l) = (decide (c = a) && decide (d = b)) := by
  rw [Bool.eq_iff_iff]; simp [preR]
theorem preR2n (a b c : Int) : preR [a, b] [c] = false := by
  refine beq_eq_false_iff_ne.2 fun e => ?_
  have := congrArg List.length e
  simp at this
theorem preR1n (a : Int) : preR [a] [] = false := rfl
theorem preR2m (a b : Int) : preR [a, b] [] = false := rfl
theorem stop_pre (a : Int) (ha : ∀ x, bl x = true → x ≠ a) (p r : List Int) (h : Stop r) : preR (a :: p) r = false := by
  rcases h with rfl | ⟨x, y, rfl, hx⟩
  · rfl
  · refine beq_eq_false_iff_ne.2 fun e => ha x hx ?_
    rw [List.length_cons, List.take_succ_cons] at e
    exact (List.cons.inj e).1
theorem mem_tw (p : Int → Bool) (l : List Int) : ∀ x ∈ l.takeWhile p, p x = true := by
  induction l with
  | nil => simp
  | cons a l ih =>
    intro x hx
    by_cases ha : p a = true
    · rw [List.takeWhile_cons_of_pos ha] at hx
      rcases List.mem_cons.1 hx with rfl | hx
      · exact ha
      · exact ih x hx
    · rw [List.takeWhile_cons_of_neg ha] at hx; cases hx
/-- a name -/
def NmP (m : List Int) : Prop := ∃ r t, m = r :: t ∧ beginsS r = true ∧ ∀ x ∈ m, goesOnS x = true
theorem name_nm (l : List Int) (h : nameR l ≠ []) : NmP (nameR l) := by
  rcases l with _ | ⟨r, t⟩
  · exact absurd rfl h
  · rw [nameR] at h ⊢
    split
    · rename_i hb
      have hg := beginsS_goesOnS r hb
      refine ⟨r, t.takeWhile goesOnS, by rw [List.takeWhile_cons_of_pos hg], hb, mem_tw _ _⟩
    · rename_i hb
      rw [if_neg hb] at h
      exact absurd rfl h
/-- behind a name: nothing that goes on -/
def NoGo (r : List Int) : Prop := ∀ x y, r = x :: y → goesOnS x = false
theorem stop_nogo {r : List Int} (h : Stop r) : NoGo r := by
  rintro x y rfl
  rcases h with h | ⟨x2, y2, h, hx⟩
  · cases h
  · obtain ⟨rfl, _⟩ := List.cons.inj h
    exact (bl_not hx).1
theorem colon_nogo (r : List Int) : NoGo (58 :: r) := by
  rintro x y h
  obtain ⟨rfl, _⟩ := List.cons.inj h
  exact goesOn_colon
theorem name_app (m r : List Int) (hm : NmP m) (hr : NoGo r) : nameR (m ++ r) = m := by
  obtain ⟨a, t, rfl, hb, hg⟩ := hm
  rw [List.cons_append, nameR, if_pos hb, ← List.cons_append, List.takeWhile_append_of_pos hg]
  rcases r with _ | ⟨x, y⟩
  · simp
  · rw [List.takeWhile_cons_of_neg (by rw [hr x y rfl]; decide), List.append_nil]
theorem begins_facts (r : Int) (h : beginsS r = true) : r ≠ 34 ∧ r ≠ 36 ∧ r ≠ 39 ∧ r ≠ 42 ∧ r ≠ 46 ∧ r ≠ 58 ∧ dg r = false ∧ bl r = false := by
  have hh : 65 ≤ r := by
    unfold beginsS at h
    split at h
    · simp only [asciiB, Bool.or_eq_true, decide_eq_true_eq] at h; omega
    · omega
  have h58 : r ≠ 58 := by rintro rfl; revert h; decide
  have hd : dg r = false := by unfold dg; rw [decide_eq_false_iff_not]; omega
  have hb : bl r = false := by
    unfold bl; simp only [Bool.or_eq_false_iff, decide_eq_false_iff_not]; omega
  exact ⟨by omega, by omega, by omega, by omega, by omega, h58, hd, hb⟩
/-- a QName: with its colon, or none -/
theorem qname_cases (l : List Int) : (qnameR l = nameR l ∧ ¬ (nameR l ≠ [] ∧ preR [58] (l.drop (nameR l).length) = true ∧ nameR (l.drop ((nameR l).length + 1)) ≠ [])) ∨ (∃ m2, NmP (nameR l) ∧ NmP m2 ∧ qnameR l = nameR l ++ 58 :: m2) := by
  unfold qnameR
  split
  · rename_i h
    exact .inr ⟨_, name_nm l h.1, name_nm _ h.2.2, rfl⟩
  · rename_i h
    exact .inl ⟨rfl, h⟩
theorem qname_app1 (m r : List Int) (hm : NmP m) (hr : Stop r) : qnameR (m ++ r) = m := by
  have hn := name_app m r hm (stop_nogo hr)
  unfold qnameR
  rw [hn, List.drop_left, stop_pre 58 (fun x hx => (bl_not hx).2.2.2.1) [] r hr, if_neg (by rintro ⟨_, h, _⟩; cases h)]
theorem qname_app2 (m m2 r : List Int) (hm : NmP m) (hm2 : NmP m2) (hr : Stop r) : qnameR ((m ++ 58 :: m2) ++ r) = m ++ 58 :: m2 := by
  have e : (m ++ 58 :: m2) ++ r = m ++ 58 :: (m2 ++ r) := by simp
  have hn := name_app m (58 :: (m2 ++ r)) hm (colon_nogo _)
  have hn2 := name_app m2 r hm2 (stop_nogo hr)
  have e2 : (m ++ 58 :: (m2 ++ r)).drop (m.length + 1) = m2 ++ r := by rw [← List.drop_drop, List.drop_left, List.drop_succ_cons, List.drop_zero]
  have hne : m ≠ [] := by obtain ⟨a, t, rfl, _⟩ := hm; simp
  have hne2 : m2 ≠ [] := by obtain ⟨a, t, rfl, _⟩ := hm2; simp
  rw [e]
  unfold qnameR
  rw [hn, List.drop_left, e2, hn2, preR1, if_pos ⟨hne, by decide, hne2⟩]
theorem qname_loc (l : List Int) (h : qnameR l ≠ []) (r : List Int) (hr : Stop r) : qnameR (qnameR l ++ r) = qnameR l := by
  rcases qname_cases l with ⟨e, _⟩ | ⟨m2, h1, h2, e⟩
  · rw [e] at h ⊢
    exact qname_app1 _ r (name_nm l h) hr
  · rw [e]
    exact qname_app2 _ _ r h1 h2 hr
theorem number_head (c : Int) (l : List Int) (h1 : dg c = false) (h2 : c ≠ 46) : numberR (c :: l) = [] := by
  unfold numberR
  rw [List.dropWhile_cons_of_neg (by rw [h1]; decide), List.takeWhile_cons_of_neg (by rw [h1]; decide), preR1, decide_eq_false h2, if_neg (by decide)]
theorem number_loc (l : List Int) (h : numberR l ≠ []) (r : List Int) (hr : Stop r) : numberR (numberR l ++ r) = numberR l := by
  have hdg : ∀ x, bl x = true → dg x = false := fun x hx => (bl_not hx).2.1
  unfold numberR at h
  by_cases hp : preR [46] (l.dropWhile dg) = true
  · rw [if_pos hp] at h
    by_cases hz : l.takeWhile dg = [] ∧ ((l.dropWhile dg).drop 1).takeWhile dg = []
    · rw [if_pos hz] at h; exact absurd rfl h
    · have e : numberR l = l.takeWhile dg ++ 46 :: ((l.dropWhile dg).drop 1).takeWhile dg := by
        unfold numberR; rw [if_pos hp, if_neg hz]
      rw [e]
      obtain ⟨d, hd⟩ : ∃ d, l.takeWhile dg = d := ⟨_, rfl⟩
      obtain ⟨w, hw⟩ : ∃ w, ((l.dropWhile dg).drop 1).takeWhile dg = w := ⟨_, rfl⟩
      have hdm := mem_tw dg l
      have hwm := mem_tw dg ((l.dropWhile dg).drop 1)
      rw [hd] at hdm hz ⊢
      rw [hw] at hwm hz ⊢
      have e2 : d ++ 46 :: w ++ r = d ++ 46 :: (w ++ r) := by simp
      have h46 : dg 46 = false := by decide
      have t1 : (d ++ 46 :: (w ++ r)).takeWhile dg = d := by rw [List.takeWhile_append_of_pos hdm, List.takeWhile_cons_of_neg (by rw [h46]; decide), List.append_nil]
      have t2 : (d ++ 46 :: (w ++ r)).dropWhile dg = 46 :: (w ++ r) := by rw [List.dropWhile_append_of_pos hdm, List.dropWhile_cons_of_neg (by rw [h46]; decide)]
      rw [e2]
      unfold numberR
      rw [t1, t2, preR1, if_pos (by decide), List.drop_succ_cons, List.drop_zero, (tw_app dg hdg w r hwm hr).1, if_neg hz]
  · rw [if_neg hp] at h
    have e : numberR l = l.takeWhile dg := by unfold numberR; rw [if_neg hp]
    have hdm := mem_tw dg l
    rw [e]
    obtain ⟨d, hd⟩ : ∃ d, l.takeWhile dg = d := ⟨_, rfl⟩
    rw [hd] at hdm ⊢
    have t := tw_app dg hdg d r hdm hr
    unfold numberR
    rw [t.1, t.2, stop_pre 46 (fun x hx => (bl_not hx).2.2.1) [] r hr, if_neg (by decide)]
theorem sign_loc (p : Int × List Int) (hp : p ∈ sTab) (r : List Int) (hr : Stop r) : (sTab.find? fun q => preR q.2 (p.2 ++ r)) = some p := by
  rcases hr with rfl | ⟨x, y, rfl, hx⟩
  · rw [List.append_nil]
    have : ∀ p ∈ sTab, (sTab.find? fun q => preR q.2 p.2) = some p := by decide
    exact this p hp
  · have hn := bl_not hx
    simp only [sTab, List.mem_cons, List.not_mem_nil, or_false] at hp
    rcases hp with rfl | rfl | rfl | rfl | rfl | rfl | rfl | rfl | rfl | rfl | rfl | rfl | rfl | rfl | rfl | rfl | rfl | rfl | rfl | rfl <;>
      simp [sTab, preR1, preR2, hn]
theorem sign_heads : ∀ p ∈ sTab, ∃ c t, p.2 = c :: t ∧ c ≠ 34 ∧ c ≠ 39 ∧ c ≠ 36 ∧ c ≠ 42 ∧ dg c = false ∧ beginsS c = false ∧ (c = 46 → t = [] ∨ t = [46]) := by
  intro p hp
  simp only [sTab, List.mem_cons, List.not_mem_nil, or_false] at hp
  rcases hp with rfl | rfl | rfl | rfl | rfl | rfl | rfl | rfl | rfl | rfl | rfl | rfl | rfl | rfl | rfl | rfl | rfl | rfl | rfl | rfl <;>
    exact ⟨_, _, rfl, by decide, by decide, by decide, by decide, by decide, by decide, by decide⟩
/-- THE SAME TOKEN, whatever stands behind the blank -/
theorem token_loc {l : List Int} {n k : Int} {raw txt : List Int} (h : tokenR l n = some (k, raw, txt)) (r : List Int) (hr : Stop r)
    (h1 : preR [58, 58] (trimR r) = preR [58, 58] (trimR (l.drop raw.length))) (h2 : preR [40] (trimR r) = preR [40] (trimR (l.drop raw.length))) :
    tokenR (raw ++ r) n = some (k, raw, txt) := by
  have hraw := token_raw h
  have hq : ∀ c, (c = 34 ∨ c = 39) → preR [c] l = true → quoteR c (l.drop 1) = some (k, raw, txt) → tokenR (raw ++ r) n = some (k, raw, txt) := by
    intro c hc hp h
    unfold quoteR at h
    split at h
    · simp only [Option.some.injEq, Prod.mk.injEq] at h
      obtain ⟨rfl, rfl, rfl⟩ := h
      obtain ⟨b, hb⟩ : ∃ b, (l.drop 1).takeWhile (· ≠ c) = b := ⟨_, rfl⟩
      have hbm := mem_tw (fun x => decide (x ≠ c)) (l.drop 1)
      rw [hb] at hbm ⊢
      have hdc : dg c = false := by rcases hc with rfl | rfl <;> decide
      have hd46 : c ≠ 46 := by rcases hc with rfl | rfl <;> decide
      have e : (c :: (b ++ [c])) ++ r = c :: (b ++ c :: r) := by simp
      have hq : quoteR c (b ++ c :: r) = some (2, c :: (b ++ [c]), b) := by
        have htw : (b ++ c :: r).takeWhile (· ≠ c) = b := by
          rw [List.takeWhile_append_of_pos hbm]; simp
        unfold quoteR
        rw [if_pos (by simp), htw]
      rw [e]
      unfold tokenR
      rw [number_head c _ hdc hd46, if_neg (by decide), preR1, preR1, List.drop_succ_cons, List.drop_zero]
      rcases hc with rfl | rfl
      · rw [if_pos (by decide)]; exact hq
      · rw [if_neg (by decide), if_pos (by decide)]; exact hq
    · cases h
  unfold tokenR at h
  by_cases c0 : numberR l ≠ []
  · rw [if_pos c0] at h
    simp only [Option.some.injEq, Prod.mk.injEq] at h
    obtain ⟨rfl, rfl, rfl⟩ := h
    unfold tokenR
    rw [number_loc l c0 r hr, if_pos c0]
  · rw [if_neg c0] at h
    by_cases c1 : preR [34] l = true
    · rw [if_pos c1] at h; exact hq 34 (.inl rfl) c1 h
    · rw [if_neg c1] at h
      by_cases c2 : preR [39] l = true
      · rw [if_pos c2] at h; exact hq 39 (.inr rfl) c2 h
      · rw [if_neg c2] at h
        by_cases c3 : preR [36] l = true
        · rw [if_pos c3] at h
          by_cases c4 : qnameR (l.drop 1) = []
          · rw [if_pos c4] at h; cases h
          · rw [if_neg c4] at h
            simp only [Option.some.injEq, Prod.mk.injEq] at h
            obtain ⟨rfl, rfl, rfl⟩ := h
            have hql := qname_loc _ c4 r hr
            unfold tokenR
            rw [List.cons_append, number_head 36 _ (by decide) (by decide), if_neg (by decide), preR1, preR1, preR1, if_neg (by decide), if_neg (by decide), if_pos (by decide), List.drop_succ_cons, List.drop_zero, hql, if_neg c4]
        · rw [if_neg c3] at h
          by_cases c4 : preR [42] l = true
          · rw [if_pos c4] at h
            simp only [Option.some.injEq, Prod.mk.injEq] at h
            obtain ⟨rfl, rfl, rfl⟩ := h
            unfold tokenR
            rw [List.cons_append, number_head 42 _ (by decide) (by decide), if_neg (by decide), preR1, preR1, preR1, preR1, if_neg (by decide), if_neg (by decide), if_neg (by decide), if_pos (by decide)]
          · rw [if_neg c4] at h
            by_cases c5 : nameR l ≠ []
            · rw [if_pos c5] at h
              have hm := name_nm l c5
              have hword : ∀ t, NoGo t → tokenR (nameR l ++ t) n = wordR (nameR l ++ t) n := by
                intro t ht
                have hn := name_app _ t hm ht
                obtain ⟨m, hmm⟩ : ∃ m, nameR l = m := ⟨_, rfl⟩
                rw [hmm] at hm hn c5 ⊢
                obtain ⟨a, u, rfl, hb, hg⟩ := hm
                have hf := begins_facts a hb
                unfold tokenR
                rw [hn, if_pos c5, List.cons_append, number_head a _ hf.2.2.2.2.2.2.1 hf.2.2.2.2.1, if_neg (by decide), preR1, preR1, preR1, preR1, decide_eq_false hf.1, decide_eq_false hf.2.2.1, decide_eq_false hf.2.1, decide_eq_false hf.2.2.2.1]
                simp only [Bool.false_eq_true, if_false]
              have p58 : preR [58, 42] r = false := stop_pre 58 (fun x hx => (bl_not hx).2.2.2.1) [42] r hr
              have hn := name_app _ r hm (stop_nogo hr)
              unfold wordR at h
              by_cases d0 : n = 1
              · rw [if_pos d0] at h
                split at h
                · rename_i hmem
                  simp only [Option.some.injEq, Prod.mk.injEq] at h
                  obtain ⟨rfl, rfl, rfl⟩ := h
                  rw [hword r (stop_nogo hr)]
                  unfold wordR
                  rw [if_pos d0, hn, if_pos hmem]
                · cases h
              · rw [if_neg d0] at h
                by_cases d1 : preR [58, 58] (trimR (l.drop (nameR l).length)) = true
                · rw [if_pos d1] at h
                  simp only [Option.some.injEq, Prod.mk.injEq] at h
                  obtain ⟨rfl, rfl, rfl⟩ := h
                  rw [hword r (stop_nogo hr)]
                  unfold wordR
                  rw [if_neg d0, hn, List.drop_left, h1, if_pos d1]
                · rw [if_neg d1] at h
                  by_cases d2 : preR [58, 42] (l.drop (nameR l).length) = true
                  · rw [if_pos d2] at h
                    simp only [Option.some.injEq, Prod.mk.injEq] at h
                    obtain ⟨rfl, rfl, rfl⟩ := h
                    rw [List.append_assoc, hword ([58, 42] ++ r) (colon_nogo (42 :: r))]
                    have hn2 := name_app _ ([58, 42] ++ r) hm (colon_nogo (42 :: r))
                    unfold wordR
                    rw [if_neg d0, hn2, List.drop_left]
                    have htr : trimR ([58, 42] ++ r) = 58 :: 42 :: r := by
                      unfold trimR
                      rw [List.cons_append, List.dropWhile_cons_of_neg (by decide)]; rfl
                    rw [htr, preR2, if_neg (by decide), show ([58, 42] ++ r : List Int) = 58 :: 42 :: r from rfl, preR2, if_pos (by decide)]
                  · rw [if_neg d2] at h
                    simp only [Option.some.injEq, Prod.mk.injEq] at h
                    obtain ⟨rfl, rfl, rfl⟩ := h
                    rcases qname_cases l with ⟨e, _⟩ | ⟨m2, _, hm2, e⟩
                    · rw [e] at h1 h2 ⊢
                      have hq := qname_app1 _ r hm hr
                      rw [hword r (stop_nogo hr)]
                      unfold wordR
                      rw [if_neg d0, hq, hn, List.drop_left, h1, if_neg d1, p58, if_neg (by decide), h2]
                    · rw [e] at h2 ⊢
                      have hq := qname_app2 _ m2 r hm hm2 hr
                      have e2 : (nameR l ++ 58 :: m2) ++ r = nameR l ++ 58 :: (m2 ++ r) := by simp
                      have hn2 := name_app _ (58 :: (m2 ++ r)) hm (colon_nogo _)
                      rw [e2] at hq ⊢
                      rw [hword _ (colon_nogo _)]
                      have htr : trimR (58 :: (m2 ++ r)) = 58 :: (m2 ++ r) := by
                        unfold trimR
                        rw [List.dropWhile_cons_of_neg (by decide)]
                      obtain ⟨a, u, rfl, hb, _⟩ := hm2
                      have hf := begins_facts a hb
                      unfold wordR
                      rw [if_neg d0, hq, hn2, List.drop_left, htr, List.cons_append, preR2, preR2, decide_eq_false hf.2.2.2.2.2.1, decide_eq_false hf.2.2.2.1, Bool.and_false, if_neg (by decide), if_neg (by decide)]
                      have e3 : (nameR l ++ 58 :: a :: (u ++ r)).drop (nameR l ++ 58 :: a :: u).length = r := by
                        rw [show nameR l ++ 58 :: a :: (u ++ r) = (nameR l ++ 58 :: a :: u) ++ r by simp, List.drop_left]
                      rw [e3, h2]
            · rw [if_neg c5] at h
              rw [Option.map_eq_some_iff] at h
              obtain ⟨p, hp1, hp2⟩ := h
              simp only [Prod.mk.injEq] at hp2
              obtain ⟨rfl, rfl, rfl⟩ := hp2
              have hmem := List.mem_of_find?_eq_some hp1
              have hf := sign_loc p hmem r hr
              obtain ⟨c, t, e, g1, g2, g3, g4, g5, g6, g7⟩ := sign_heads p hmem
              have hnum : numberR (p.2 ++ r) = [] := by
                by_cases hc : c = 46
                · subst hc
                  rw [e, List.cons_append]
                  unfold numberR
                  rw [List.dropWhile_cons_of_neg (by decide), List.takeWhile_cons_of_neg (by decide), preR1, if_pos (by decide), List.drop_succ_cons, List.drop_zero]
                  have : (t ++ r).takeWhile dg = [] := by
                    rcases g7 rfl with rfl | rfl
                    · exact (stop_tw dg (fun x hx => (bl_not hx).2.1) hr).1
                    · rw [List.cons_append, List.takeWhile_cons_of_neg (by decide)]
                  rw [this, if_pos ⟨rfl, rfl⟩]
                · rw [e, List.cons_append, number_head c _ g5 hc]
              have hnm : nameR (p.2 ++ r) = [] := by rw [e, List.cons_append, nameR, if_neg (by rw [g6]; decide)]
              unfold tokenR
              rw [hnum, hnm, if_neg (by decide), hf, e, List.cons_append, preR1, preR1, preR1, preR1, decide_eq_false g1, decide_eq_false g2, decide_eq_false g3, decide_eq_false g4]
              simp only [Bool.false_eq_true, if_false, ne_eq, not_true, Option.map_some, e]
end Go.Proofs.YtinefoocajnhmaaDoor.Scan
