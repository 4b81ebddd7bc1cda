/- The tokens of a text, one behind the other, with the blanks between them. -/
import Derived.Test.YtinefoocajnhmaaDoorPrintxplexscan
import Derived.Test.YtinefoocajnhmaaDoorPrintf21
import Derived.Test.YtinefoocajnhmaaDoorScanF
set_option linter.unusedSimpArgs false
namespace Go.Proofs.YtinefoocajnhmaaDoor.Scan
open Go.RowKit Go.Proofs.YtinefoocajnhmaaDoorW.PrintWords Go.Proofs.YtinefoocajnhmaaDoor.Plain Go.Proofs.YtinefoocajnhmaaDoor.Print Go.Proofs.YtinefoocajnhmaaDoor.Enc Go.Lib
theorem nm_mem (l : List Int) : ∀ x ∈ nameR l, goesOnS x = true := by
  by_cases h : nameR l = []
  · rw [h]; simp
  · obtain ⟨_, _, _, _, h⟩ := name_nm l h; exact h
theorem go_bl {x : Int} (h : goesOnS x = true) : bl x = false := by
  rcases hb : bl x with _ | _
  · rfl
  · have := (bl_not hb).1
    rw [h] at this; cases this
theorem qn_mem (l : List Int) : ∀ x ∈ qnameR l, bl x = false := by
  intro x hx
  rcases qname_cases l with ⟨e, _⟩ | ⟨m2, _, h2, e⟩
  · rw [e] at hx; exact go_bl (nm_mem l x hx)
  · rw [e] at hx
    rcases List.mem_append.1 hx with hx | hx
    · exact go_bl (nm_mem l x hx)
    · rcases List.mem_cons.1 hx with rfl | hx
      · decide
      · obtain ⟨_, _, _, _, h⟩ := h2; exact go_bl (h x hx)
/-- what is read ends with no blank -/
theorem token_end {l : List Int} {n k : Int} {raw txt : List Int} (h : tokenR l n = some (k, raw, txt)) : ∃ r z, raw = r ++ [z] ∧ bl z = false := by
  have fin : (∀ x ∈ raw, bl x = false) → ∃ r z, raw = r ++ [z] ∧ bl z = false := by
    intro hall
    rcases List.eq_nil_or_concat raw with e | ⟨r, z, e⟩
    · exact absurd e (token_raw h).2
    · rw [List.concat_eq_append] at e
      exact ⟨r, z, e, hall z (by rw [e]; simp)⟩
  have hq : ∀ c, bl c = false → quoteR c (l.drop 1) = some (k, raw, txt) → ∃ r z, raw = r ++ [z] ∧ bl z = false := by
    intro c hc h
    unfold quoteR at h
    split at h
    · simp only [Option.some.injEq, Prod.mk.injEq] at h
      obtain ⟨_, rfl, _⟩ := h
      exact ⟨c :: (l.drop 1).takeWhile (· ≠ c), c, by simp, hc⟩
    · cases h
  unfold tokenR at h
  split at h
  · simp only [Option.some.injEq, Prod.mk.injEq] at h
    obtain ⟨_, rfl, _⟩ := h
    refine fin fun x hx => ?_
    have hd : ∀ l : List Int, ∀ x ∈ l.takeWhile dg, bl x = false := fun l x hx => by
      have h1 := mem_tw dg l x hx
      rcases hb : bl x with _ | _
      · rfl
      · rw [(bl_not hb).2.1] at h1; cases h1
    unfold numberR at hx
    split at hx
    · split at hx
      · cases hx
      · rcases List.mem_append.1 hx with hx | hx
        · exact hd _ x hx
        · rcases List.mem_cons.1 hx with rfl | hx
          · decide
          · exact hd _ x hx
    · exact hd _ x hx
  · split at h
    · exact hq 34 (by decide) h
    · split at h
      · exact hq 39 (by decide) h
      · split at h
        · split at h
          · cases h
          · simp only [Option.some.injEq, Prod.mk.injEq] at h
            obtain ⟨_, rfl, _⟩ := h
            refine fin fun x hx => ?_
            rcases List.mem_cons.1 hx with rfl | hx
            · decide
            · exact qn_mem _ x hx
        · split at h
          · simp only [Option.some.injEq, Prod.mk.injEq] at h
            obtain ⟨_, rfl, _⟩ := h
            exact fin (by decide)
          · split at h
            · unfold wordR at h
              split at h
              · split at h
                · simp only [Option.some.injEq, Prod.mk.injEq] at h
                  obtain ⟨_, rfl, _⟩ := h
                  exact fin fun x hx => go_bl (nm_mem l x hx)
                · cases h
              · split at h
                · simp only [Option.some.injEq, Prod.mk.injEq] at h
                  obtain ⟨_, rfl, _⟩ := h
                  exact fin fun x hx => go_bl (nm_mem l x hx)
                · split at h
                  · simp only [Option.some.injEq, Prod.mk.injEq] at h
                    obtain ⟨_, rfl, _⟩ := h
                    exact ⟨nameR l ++ [58], 42, by simp, by decide⟩
                  · simp only [Option.some.injEq, Prod.mk.injEq] at h
                    obtain ⟨_, rfl, _⟩ := h
                    exact fin fun x hx => qn_mem l x hx
            · rw [Option.map_eq_some_iff] at h
              obtain ⟨p, h1, h2⟩ := h
              simp only [Prod.mk.injEq] at h2
              obtain ⟨_, rfl, _⟩ := h2
              have hm := List.mem_of_find?_eq_some h1
              have h3 : ∀ q ∈ sTab, ∀ x ∈ q.2, bl x = false := by decide
              exact fin fun x hx => h3 _ hm x hx
def nextSuf : List Tk → List Int
  | [] => []
  | u :: _ => u.suf
/-- one behind the other, with blanks between -/
def Chain (l0 : List Int) : List Tk → Prop
  | [] => True
  | t :: ts => (∃ p, l0 = p ++ t.suf) ∧ (∃ b, Bl b ∧ t.suf = t.raw ++ (b ++ nextSuf ts)) ∧ (∃ r z, t.raw = r ++ [z] ∧ bl z = false) ∧ Chain l0 ts
theorem tw_bl (l : List Int) : Bl (l.takeWhile bl) := mem_tw bl l
theorem chain_of (l0 : List Int) : ∀ (f : Nat) (l : List Int) (n : Int) (ts : List Tk), scanT f l n = .ok ts → l.length < f → (∃ p, l0 = p ++ l) → Chain l0 ts ∧ (ts = [] ∨ nextSuf ts = l) := by
  intro f
  induction f with
  | zero => intro l n ts _ h; omega
  | succ f ih =>
    intro l n ts h hf hp
    rcases ts with _ | ⟨t, ts⟩
    · exact ⟨trivial, .inl rfl⟩
    · obtain ⟨hsuf, htok, hrest, hne⟩ := scanT_cons h
      have hraw := token_raw htok
      have hl2 : (trimR (l.drop t.raw.length)).length < f := by
        have h1 : (trimR (l.drop t.raw.length)).length ≤ (l.drop t.raw.length).length := (List.dropWhile_sublist _).length_le
        rw [List.length_drop] at h1
        have h2 := List.length_pos_iff.2 hraw.2
        have h3 := List.length_pos_iff.2 hne
        omega
      obtain ⟨p, hp⟩ := hp
      have hsp : (l.drop t.raw.length).takeWhile bl ++ trimR (l.drop t.raw.length) = l.drop t.raw.length := by unfold trimR; rw [List.takeWhile_append_dropWhile]
      obtain ⟨ih1, ih2⟩ := ih _ _ ts hrest hl2 ⟨p ++ (t.raw ++ (l.drop t.raw.length).takeWhile bl), by rw [List.append_assoc, List.append_assoc, hsp, hraw.1]; exact hp⟩
      refine ⟨⟨⟨p, by rw [hsuf]; exact hp⟩, ⟨(l.drop t.raw.length).takeWhile bl, tw_bl _, ?_⟩, token_end htok, ih1⟩, .inr hsuf⟩
      have hns : nextSuf ts = trimR (l.drop t.raw.length) := by
        rcases ih2 with e | e
        · subst e
          rw [scanT_nil hrest hl2]; rfl
        · exact e
      rw [hns, hsp, hsuf, hraw.1]
theorem chain_len {l0 : List Int} : ∀ (ts : List Tk), Chain l0 ts → ts.length ≤ (nextSuf ts).length := by
  intro ts
  induction ts with
  | nil => intro _; simp [nextSuf]
  | cons t ts ih =>
    intro h
    obtain ⟨_, ⟨b, _, e⟩, ⟨r, z, hr, _⟩, h2⟩ := h
    have := ih h2
    show ts.length + 1 ≤ t.suf.length
    rw [e, hr]
    simp only [List.length_append, List.length_cons, List.length_nil]
    omega
theorem chain_at {l0 : List Int} : ∀ (ts : List Tk), Chain l0 ts → ∀ (j : Nat) (t : Tk), ts[j]? = some t →
    (∃ p, l0 = p ++ t.suf) ∧ (∃ b, Bl b ∧ t.suf = t.raw ++ (b ++ nextSuf (ts.drop (j + 1)))) ∧ (∃ r z, t.raw = r ++ [z] ∧ bl z = false) := by
  intro ts
  induction ts with
  | nil => intro _ j t h; simp at h
  | cons a ts ih =>
    intro hR j t h
    obtain ⟨h1, h2, h3, h4⟩ := hR
    cases j with
    | zero =>
      simp only [List.getElem?_cons_zero, Option.some.injEq] at h
      subst h
      exact ⟨h1, h2, h3⟩
    | succ j =>
      simp only [List.getElem?_cons_succ] at h
      exact ih h4 j t h
/-- glued pieces begin with no blank -/
theorem glue_trim {f : Nat} {l : List Int} {n : Int} {ts : List Tk} (h : scanT f l n = .ok ts) (ht : trimR l = l) (pb : List (List Int × List Int)) (hG : Glued ts pb) : trimR (glue pb) = glue pb := by
  rcases pb with _ | ⟨⟨p, b⟩, r⟩
  · rfl
  · rcases ts with _ | ⟨t, ts⟩
    · exact hG.elim
    · cases f with
      | zero => simp [scanT] at h
      | succ f =>
        obtain ⟨_, htok, _, _⟩ := scanT_cons h
        obtain ⟨_, _, a, q, e, hb⟩ := sp_head htok ht (show Sp ⟨t.k, t.raw, t.txt, l⟩ p from hG.1) []
        rw [glue, e]
        unfold trimR
        rw [List.cons_append, List.dropWhile_cons_of_neg (by rw [hb]; decide)]
theorem what_len {us ts : List Tk} (h : us.map what = ts.map what) : us.length = ts.length := by
  have := congrArg List.length h; simpa using this
theorem what_same {us ts : List Tk} (h : us.map what = ts.map what) (N M : Nat) (hz : ts.length ≤ 1000000) (k : Nat) (hk : ts.length + 1 ≤ k) :
    stencillaw05_Same.f k (ts.map (tkS N)) (us.map (tkS M)) false = some true := by
  have hl := what_len h
  refine same_ok _ _ (by rw [List.length_map, List.length_map, hl]) (by rw [List.length_map]; exact hz) ?_ k (by rw [List.length_map]; exact hk)
  intro j x y hx hy
  rw [List.getElem?_map, Option.map_eq_some_iff] at hx hy
  obtain ⟨t, ht, rfl⟩ := hx
  obtain ⟨u, hu, rfl⟩ := hy
  have e := congrArg (fun l => l[j]?) h
  simp only [List.getElem?_map, ht, hu, Option.map_some, Option.some.injEq] at e
  simp only [what, Prod.mk.injEq] at e
  exact ⟨e.1.symm, by show mkB t.txt = mkB u.txt; rw [e.2]⟩
end Go.Proofs.YtinefoocajnhmaaDoor.Scan
