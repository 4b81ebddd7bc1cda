/- XplexPlaces, without Go and memory. -/
import Derived.Test.YtinefoocajnhmaaDoorPrintf5
import Derived.Test.YtinefoocajnhmaaDoorScanD
set_option linter.unusedSimpArgs false
namespace Go.Proofs.YtinefoocajnhmaaDoor.Pure
open Go.RowKit Go.Proofs.YtinefoocajnhmaaDoorW.PrintWords Go.Proofs.YtinefoocajnhmaaDoor.Plain Go.Proofs.YtinefoocajnhmaaDoor.Print Go.Proofs.YtinefoocajnhmaaDoor.Enc Go.Proofs.YtinefoocajnhmaaDoor.Scan Go.Lib
/-- how far a token's text stands behind its begin -/
def off (k : Int) : Nat := if k = 2 ∨ k = 7 then 1 else 0
theorem word_kind {l : List Int} {n k : Int} {raw txt : List Int} (h : wordR l n = some (k, raw, txt)) : txt = raw ∧ k ≠ 2 ∧ k ≠ 7 := by
  unfold wordR at h
  split at h
  · split at h
    · simp only [Option.some.injEq, Prod.mk.injEq] at h
      obtain ⟨rfl, rfl, rfl⟩ := h
      exact ⟨rfl, by decide, by decide⟩
    · cases h
  · split at h
    · simp only [Option.some.injEq, Prod.mk.injEq] at h
      obtain ⟨rfl, rfl, rfl⟩ := h
      exact ⟨rfl, by decide, by decide⟩
    · split at h
      · simp only [Option.some.injEq, Prod.mk.injEq] at h
        obtain ⟨rfl, rfl, rfl⟩ := h
        exact ⟨rfl, by decide, by decide⟩
      · simp only [Option.some.injEq, Prod.mk.injEq] at h
        obtain ⟨rfl, rfl, rfl⟩ := h
        refine ⟨rfl, ?_, ?_⟩ <;> (split; split; all_goals decide)
/-- a token's text stands in what is read, at its begin or one behind it -/
theorem token_text {l : List Int} {n k : Int} {raw txt : List Int} (h : tokenR l n = some (k, raw, txt)) : (∃ u v, raw = u ++ txt ++ v ∧ (enc u).length = off k) := by
  have same : k ≠ 2 → k ≠ 7 → txt = raw → (∃ u v, raw = u ++ txt ++ v ∧ (enc u).length = off k) := fun h2 h7 e =>
    ⟨[], [], by rw [e]; simp, by unfold off; rw [if_neg (by omega)]; rfl⟩
  have hq : ∀ c, 0 ≤ c ∧ c < 128 → quoteR c (l.drop 1) = some (k, raw, txt) → (∃ u v, raw = u ++ txt ++ v ∧ (enc u).length = off k) := by
    intro c hc h
    unfold quoteR at h
    split at h
    · simp only [Option.some.injEq, Prod.mk.injEq] at h
      obtain ⟨rfl, rfl, rfl⟩ := h
      exact ⟨[c], [c], by simp, by rw [enc_cons, rune_ascii hc.1 hc.2]; rfl⟩
    · cases h
  unfold tokenR at h
  split at h
  · simp only [Option.some.injEq, Prod.mk.injEq] at h
    obtain ⟨rfl, rfl, rfl⟩ := h
    exact same (by decide) (by decide) rfl
  · split at h
    · exact hq 34 (by decide) h
    · split at h
      · exact hq 39 (by decide) h
      · split at h
        · split at h
          · cases h
          · simp only [Option.some.injEq, Prod.mk.injEq] at h
            obtain ⟨rfl, rfl, rfl⟩ := h
            exact ⟨[36], [], by simp, by decide⟩
        · split at h
          · simp only [Option.some.injEq, Prod.mk.injEq] at h
            obtain ⟨rfl, rfl, rfl⟩ := h
            exact same (by split <;> decide) (by split <;> decide) rfl
          · split at h
            · have := word_kind h
              exact same this.2.1 this.2.2 this.1
            · rw [Option.map_eq_some_iff] at h
              obtain ⟨p, h1, h2⟩ := h
              simp only [Prod.mk.injEq] at h2
              obtain ⟨rfl, rfl, rfl⟩ := h2
              have hm := List.mem_of_find?_eq_some h1
              have h2 : ∀ q ∈ sTab, q.1 ≠ 2 ∧ q.1 ≠ 7 := by decide
              exact same (h2 _ hm).1 (h2 _ hm).2 rfl
/-- what holds of the tokens one behind the other -/
def Rise (l0 : List Int) : List Tk → Prop
  | [] => True
  | t :: ts => (∃ p, l0 = p ++ t.suf) ∧ (∃ u w, t.suf = u ++ t.txt ++ w ∧ (enc u).length = off t.k) ∧ (∀ t2 ∈ ts, (enc t2.suf).length < (enc t.suf).length) ∧ Rise l0 ts
theorem trim_split (l : List Int) : l.takeWhile bl ++ trimR l = l := by unfold trimR; rw [List.takeWhile_append_dropWhile]
theorem rise_suf {l0 : List Int} : ∀ (f : Nat) (l : List Int) (n : Int) (ts : List Tk) (N : Nat), (∃ p, l0 = p ++ l) → (enc l).length ≤ N → scanT f l n = .ok ts → Rise l0 ts ∧ ∀ t ∈ ts, (enc t.suf).length ≤ N := by
  intro f
  induction f with
  | zero => intro l n ts N _ _ h; simp only [scanT, Except.ok.injEq] at h; subst h; exact ⟨trivial, by simp⟩
  | succ f ih =>
    intro l n ts N hp hN h
    rw [scanT] at h
    split at h
    · simp only [Except.ok.injEq] at h; subst h; exact ⟨trivial, by simp⟩
    · split at h
      · cases h
      · rename_i h0 _ k raw txt ht
        have hr := token_raw ht
        rcases hs : scanT f (trimR (l.drop raw.length)) (nextR k txt) with e | us
        · rw [hs] at h; cases h
        · rw [hs] at h
          simp only [consT, Except.ok.injEq] at h
          subst h
          have hlen : (enc (trimR (l.drop raw.length))).length + 1 ≤ (enc l).length := by
            have e1 : (enc l).length = (enc raw).length + (enc (l.drop raw.length)).length := by
              conv => lhs; rw [← hr.1, enc_append, List.length_append]
            have e2 : (enc (l.drop raw.length)).length = (enc ((l.drop raw.length).takeWhile bl)).length + (enc (trimR (l.drop raw.length))).length := by
              conv => lhs; rw [← trim_split (l.drop raw.length), enc_append, List.length_append]
            have e3 := (pos_enc raw).2 hr.2
            omega
          obtain ⟨p, hp⟩ := hp
          have ih2 := ih _ _ us ((enc l).length - 1) ⟨p ++ raw ++ (l.drop raw.length).takeWhile bl, by rw [List.append_assoc, trim_split, List.append_assoc, hr.1]; exact hp⟩ (by omega) hs
          obtain ⟨u, v, huv, hu⟩ := token_text ht
          refine ⟨⟨⟨p, hp⟩, ⟨u, v ++ l.drop raw.length, ?_, hu⟩, fun t2 h2 => ?_, ih2.1⟩, fun t2 h2 => ?_⟩
          · show l = _
            conv => lhs; rw [← hr.1]
            rw [← List.append_assoc, ← huv]
          · show _ < (enc l).length
            have := ih2.2 t2 h2
            have := (pos_enc l).2 h0
            omega
          · rcases List.mem_cons.1 h2 with rfl | h2
            · exact hN
            · have := ih2.2 t2 h2
              omega
theorem rise_at {l0 : List Int} : ∀ (ts : List Tk), Rise l0 ts → ∀ (j : Nat) (t : Tk), ts[j]? = some t →
    (∃ p, l0 = p ++ t.suf) ∧ (∃ u w, t.suf = u ++ t.txt ++ w ∧ (enc u).length = off t.k) ∧ ∀ t2, ts[j + 1]? = some t2 → (enc t2.suf).length < (enc t.suf).length := by
  intro ts
  induction ts with
  | nil => intro _ j t h; simp at h
  | cons a ts ih =>
    intro hR j t h
    obtain ⟨h1, h2, h3, h4⟩ := hR
    cases j with
    | zero =>
      simp only [List.getElem?_cons_zero, Option.some.injEq] at h
      subst h
      exact ⟨h1, h2, fun t2 ht => h3 t2 (by simp only [List.getElem?_cons_succ] at ht; exact List.mem_of_getElem? ht)⟩
    | succ j =>
      simp only [List.getElem?_cons_succ] at h
      have := ih h4 j t h
      exact ⟨this.1, this.2.1, fun t2 ht => this.2.2 t2 (by simp only [List.getElem?_cons_succ] at ht; exact ht)⟩
theorem j1_true (k : Nat) (s : ByteArray) (L : List S30) (j a : Nat) (tx : ByteArray) (hL : j < L.length) (hz : L.length ≤ 1000) (h0 : 0 < j → (rd_T30 L (wrap64 ((j : Int) - 1))).f2 < (rd_T30 L (j : Int)).f2)
    (hs : s.size ≤ 512) (ha : a + 1 + tx.size ≤ s.size) (hcut : (s.extract (a + 1) (a + 1 + tx.size)).toList = tx.toList) :
    stencillaw05_XplexPlaces.j1 (k + 1) s L (j : Int) (a : Int) tx true = stencillaw05_XplexPlaces.l0 k s L (wrap64 ((j : Int) + 1)) := by
  obtain ⟨p, hp⟩ : ∃ p, rd_T30 L (wrap64 ((j : Int) - 1)) = p := ⟨_, rfl⟩
  obtain ⟨c, hc⟩ : ∃ c, rd_T30 L (j : Int) = c := ⟨_, rfl⟩
  obtain ⟨R, hR⟩ : ∃ R, stencillaw05_XplexPlaces.l0 k s L (wrap64 ((j : Int) + 1)) = R := ⟨_, rfl⟩
  have w1 : wrap64 ((a : Int) + 1) = ((a + 1 : Nat) : Int) := by unfold wrap64; omega
  have w2 : wrap64 (((a + 1 : Nat) : Int) + (tx.size : Int)) = ((a + 1 + tx.size : Nat) : Int) := by unfold wrap64; omega
  rw [stencillaw05_XplexPlaces.j1, if_pos rfl, hp, hc, hR, w1, w2, Int.toNat_natCast, Int.toNat_natCast]
  rw [hp, hc] at h0
  by_cases hj : 0 < j
  · have hf := h0 hj
    have wj : wrap64 ((j : Int) - 1) = ((j - 1 : Nat) : Int) := by unfold wrap64; omega
    rw [if_pos (show (j : Int) > 0 by omega), if_pos (show (0 : Int) ≤ j by omega), if_pos (show (j : Int) < L.length by omega), wj, if_pos (show (0 : Int) ≤ ((j - 1 : Nat) : Int) by omega), if_pos (show ((j - 1 : Nat) : Int) < L.length by omega), if_neg (show ¬ c.f2 ≤ p.f2 by omega)]
    rw [if_neg (show ¬ ((a + 1 : Nat) : Int) < 0 by omega), if_neg (show ¬ ((a + 1 + tx.size : Nat) : Int) > s.size by omega), if_pos (show (0 : Int) ≤ ((a + 1 : Nat) : Int) by omega), if_pos (show ((a + 1 : Nat) : Int) ≤ ((a + 1 + tx.size : Nat) : Int) by omega), if_pos (show ((a + 1 + tx.size : Nat) : Int) ≤ s.size by omega), if_pos hcut]
  · rw [if_neg (show ¬ (j : Int) > 0 by omega)]
    rw [if_neg (show ¬ ((a + 1 : Nat) : Int) < 0 by omega), if_neg (show ¬ ((a + 1 + tx.size : Nat) : Int) > s.size by omega), if_pos (show (0 : Int) ≤ ((a + 1 : Nat) : Int) by omega), if_pos (show ((a + 1 : Nat) : Int) ≤ ((a + 1 + tx.size : Nat) : Int) by omega), if_pos (show ((a + 1 + tx.size : Nat) : Int) ≤ s.size by omega), if_pos hcut]
theorem j1_false (k : Nat) (s : ByteArray) (L : List S30) (j a : Nat) (tx : ByteArray) (hL : j < L.length) (hz : L.length ≤ 1000) (h0 : 0 < j → (rd_T30 L (wrap64 ((j : Int) - 1))).f2 < (rd_T30 L (j : Int)).f2)
    (hs : s.size ≤ 512) (ha : a + tx.size ≤ s.size) (hcut : (s.extract a (a + tx.size)).toList = tx.toList) :
    stencillaw05_XplexPlaces.j1 (k + 1) s L (j : Int) (a : Int) tx false = stencillaw05_XplexPlaces.l0 k s L (wrap64 ((j : Int) + 1)) := by
  obtain ⟨p, hp⟩ : ∃ p, rd_T30 L (wrap64 ((j : Int) - 1)) = p := ⟨_, rfl⟩
  obtain ⟨c, hc⟩ : ∃ c, rd_T30 L (j : Int) = c := ⟨_, rfl⟩
  obtain ⟨R, hR⟩ : ∃ R, stencillaw05_XplexPlaces.l0 k s L (wrap64 ((j : Int) + 1)) = R := ⟨_, rfl⟩
  have w2 : wrap64 ((a : Int) + (tx.size : Int)) = ((a + tx.size : Nat) : Int) := by unfold wrap64; omega
  rw [stencillaw05_XplexPlaces.j1, if_neg (show ¬ (false = true) by decide), hp, hc, hR, w2, Int.toNat_natCast, Int.toNat_natCast]
  rw [hp, hc] at h0
  by_cases hj : 0 < j
  · have hf := h0 hj
    have wj : wrap64 ((j : Int) - 1) = ((j - 1 : Nat) : Int) := by unfold wrap64; omega
    rw [if_pos (show (j : Int) > 0 by omega), if_pos (show (0 : Int) ≤ j by omega), if_pos (show (j : Int) < L.length by omega), wj, if_pos (show (0 : Int) ≤ ((j - 1 : Nat) : Int) by omega), if_pos (show ((j - 1 : Nat) : Int) < L.length by omega), if_neg (show ¬ c.f2 ≤ p.f2 by omega)]
    rw [if_neg (show ¬ (a : Int) < 0 by omega), if_neg (show ¬ ((a + tx.size : Nat) : Int) > s.size by omega), if_pos (show (0 : Int) ≤ (a : Int) by omega), if_pos (show (a : Int) ≤ ((a + tx.size : Nat) : Int) by omega), if_pos (show ((a + tx.size : Nat) : Int) ≤ s.size by omega), if_pos hcut]
  · rw [if_neg (show ¬ (j : Int) > 0 by omega)]
    rw [if_neg (show ¬ (a : Int) < 0 by omega), if_neg (show ¬ ((a + tx.size : Nat) : Int) > s.size by omega), if_pos (show (0 : Int) ≤ (a : Int) by omega), if_pos (show (a : Int) ≤ ((a + tx.size : Nat) : Int) by omega), if_pos (show ((a + tx.size : Nat) : Int) ≤ s.size by omega), if_pos hcut]
theorem places_l0 (s : ByteArray) (hz : s.size ≤ 512) (rs : List Int) (hs : s.data.toList = enc rs) (ts : List Tk) (hR : Rise rs ts) (hlen : ts.length ≤ 1000) :
    ∀ (d j k : Nat), ts.length - j ≤ d → 2 * d + 1 ≤ k → j ≤ ts.length → stencillaw05_XplexPlaces.l0 k s (ts.map (tkS s.size)) (j : Int) = some true := by
  intro d
  induction d with
  | zero =>
    intro j k hd hk hj
    obtain ⟨k, rfl⟩ : ∃ m, k = m + 1 := ⟨k - 1, by omega⟩
    rw [stencillaw05_XplexPlaces.l0, List.length_map, if_neg (by omega), live_ok]; rfl
  | succ d ih =>
    intro j k hd hk hj
    by_cases hlt : j < ts.length
    · obtain ⟨k, rfl⟩ : ∃ m, k = m + 2 := ⟨k - 2, by omega⟩
      obtain ⟨t, ht⟩ : ∃ t, ts[j]? = some t := ⟨_, List.getElem?_eq_getElem hlt⟩
      have hm : (ts.map (tkS s.size))[j]? = some (tkS s.size t) := by rw [List.getElem?_map, ht]; rfl
      obtain ⟨⟨p, hp⟩, ⟨u, w, hu, hul⟩, _⟩ := rise_at ts hR j t ht
      have hnx : wrap64 ((j : Int) + 1) = ((j + 1 : Nat) : Int) := by unfold wrap64; omega
      have ihn := ih (j + 1) k (by omega) (by omega) (by omega)
      have hn : (enc rs).length = s.size := by rw [← hs, sz]
      have hsuf : (enc p).length + (enc t.suf).length = s.size := by rw [← hn, hp, enc_append, List.length_append]
      have htx : (enc u).length + (enc t.txt).length ≤ (enc t.suf).length := by
        rw [hu, enc_append, enc_append, List.length_append, List.length_append]; omega
      have hf2 : (tkS s.size t).f2 = ((enc p).length : Int) := by
        show ((s.size - (enc t.suf).length : Nat) : Int) = _
        omega
      have hf1 : (tkS s.size t).f1 = mkB t.txt := rfl
      have hf0 : (tkS s.size t).f0 = t.k := rfl
      have hf1s : (mkB t.txt).size = (enc t.txt).length := by rw [← sz]; rfl
      have hcut : (s.extract ((enc p).length + off t.k) ((enc p).length + off t.k + (mkB t.txt).size)).toList = (mkB t.txt).toList := by
        rw [hf1s, Lib.toList_data, Lib.toList_data, Lib.extract_data, Scan.mk_data, hs, hp, hu, Nat.add_sub_cancel_left, ← hul]
        rw [enc_append, enc_append, enc_append, ← List.drop_drop, List.drop_left, List.append_assoc, List.drop_left, List.take_left]
      have hprev : 0 < j → (rd_T30 (ts.map (tkS s.size)) (wrap64 ((j : Int) - 1))).f2 < (rd_T30 (ts.map (tkS s.size)) (j : Int)).f2 := by
        intro h0
        have hw : wrap64 ((j : Int) - 1) = ((j - 1 : Nat) : Int) := by unfold wrap64; omega
        obtain ⟨t0, ht0⟩ : ∃ t, ts[j - 1]? = some t := ⟨_, List.getElem?_eq_getElem (by omega)⟩
        have hm0 : (ts.map (tkS s.size))[j - 1]? = some (tkS s.size t0) := by rw [List.getElem?_map, ht0]; rfl
        obtain ⟨⟨p0, hp0⟩, _, h3⟩ := rise_at ts hR (j - 1) t0 ht0
        have h3 := h3 t (by rw [show j - 1 + 1 = j by omega]; exact ht)
        have hsuf0 : (enc p0).length + (enc t0.suf).length = s.size := by rw [← hn, hp0, enc_append, List.length_append]
        rw [hw, rd_get hm0, rd_get hm, hf2]
        show ((s.size - (enc t0.suf).length : Nat) : Int) < _
        omega
      rw [stencillaw05_XplexPlaces.l0, if_pos (by rw [List.length_map]; omega), if_pos (by omega)]
      rw [rd_get hm, hf2, hf1, hf0]
      have kt : off t.k = 1 → stencillaw05_XplexPlaces.j1 (k + 1) s (ts.map (tkS s.size)) (j : Int) ((enc p).length : Int) (mkB t.txt) true = some true := by
        intro ho
        rw [ho] at hcut hul
        rw [j1_true k s _ j _ _ (by rw [List.length_map]; omega) (by rw [List.length_map]; omega) hprev hz (by omega) hcut, hnx]
        exact ihn
      have kf : off t.k = 0 → stencillaw05_XplexPlaces.j1 (k + 1) s (ts.map (tkS s.size)) (j : Int) ((enc p).length : Int) (mkB t.txt) false = some true := by
        intro ho
        rw [ho, Nat.add_zero] at hcut
        rw [ho] at hul
        rw [j1_false k s _ j _ _ (by rw [List.length_map]; omega) (by rw [List.length_map]; omega) hprev hz (by omega) hcut, hnx]
        exact ihn
      by_cases h2 : t.k = 2
      · rw [if_pos h2]; exact kt (by unfold off; rw [if_pos (.inl h2)])
      · rw [if_neg h2]
        by_cases h7 : t.k = 7
        · rw [h7]; exact kt (by unfold off; rw [if_pos (.inr h7)])
        · rw [beq_eq_false_iff_ne.2 h7]; exact kf (by unfold off; rw [if_neg (by omega)])
    · obtain ⟨k, rfl⟩ : ∃ m, k = m + 1 := ⟨k - 1, by omega⟩
      rw [stencillaw05_XplexPlaces.l0, List.length_map, if_neg (by omega), live_ok]; rfl
theorem XplexPlaces (s : ByteArray) (hz : s.size ≤ 1048576) : ∃ k, stencillaw05_XplexPlaces.f k s = some true := by
  unfold stencillaw05_XplexPlaces.f xplex_Scan.f
  rcases scan_cases s with ⟨e, at_, hs, he⟩ | ⟨rs, ts, hok, hs, hz2, hts, hsc⟩
  · refine ⟨1, ?_⟩
    rw [hs]
    simp only [Option.bind_some]
    rw [if_neg he, live_ok]; rfl
  · have hR := rise_suf (l0 := rs) (s.size + 1) (trimR rs) 0 ts (enc (trimR rs)).length ⟨rs.takeWhile bl, (trim_split rs).symm⟩ (Nat.le_refl _) hts
    have hlen : ts.length ≤ 600 := by
      have hn : (enc rs).length = s.size := by rw [← hs, sz]
      have : ∀ (us : List Tk) (N : Nat), Rise rs us → (∀ t ∈ us, (enc t.suf).length ≤ N) → us.length ≤ N + 1 := by
        intro us
        induction us with
        | nil => intro N _ _; simp
        | cons t us ih =>
          intro N hR hN
          have ht := hN t (by simp)
          by_cases h0 : us = []
          · subst h0; simp
          · obtain ⟨u, hu⟩ := List.exists_mem_of_ne_nil us h0
            have := hR.2.2.1 u hu
            have := ih ((enc t.suf).length - 1) hR.2.2.2 (fun t2 h2 => by have := hR.2.2.1 t2 h2; omega)
            rw [List.length_cons]; omega
      have h2 := this ts _ hR.1 hR.2
      have h3 : (enc (trimR rs)).length ≤ (enc rs).length := by
        conv => rhs; rw [← trim_split rs, enc_append, List.length_append]
        omega
      omega
    refine ⟨2 * ts.length + 1, ?_⟩
    rw [hsc, Option.bind_some, if_pos (show (ts.map (tkS s.size), (0 : Int), (0 : Int)).2.1 = 0 from rfl)]
    exact places_l0 s hz2 rs hs ts hR.1 (by omega) ts.length 0 _ (by omega) (Nat.le_refl _) (Nat.zero_le _)
end Go.Proofs.YtinefoocajnhmaaDoor.Pure
