/- All that Scan tells of a text's bytes, by the text's runes. -/
import Derived.Test.YtinefoocajnhmaaDoorPrintxplexscan
import Derived.Test.YtinefoocajnhmaaDoorScanB
set_option linter.unusedSimpArgs false
namespace Go.Proofs.YtinefoocajnhmaaDoor.Scan
open Go.RowKit Go.Proofs.YtinefoocajnhmaaDoorW.PrintWords Go.Proofs.YtinefoocajnhmaaDoor.Plain Go.Proofs.YtinefoocajnhmaaDoor.Print Go.Proofs.YtinefoocajnhmaaDoor.Enc Go.Lib
/-- a token: its kind, what is read, what is told, what is left where it begins -/
structure Tk where
  k : Int
  raw : List Int
  txt : List Int
  suf : List Int
def nextR (k : Int) (t : List Int) : Int := nextOf k (mkB t)
def consT (t : Tk) : Except (List Int) (List Tk) → Except (List Int) (List Tk)
  | .error e => .error e
  | .ok ts => .ok (t :: ts)
def scanT : Nat → List Int → Int → Except (List Int) (List Tk)
  | 0, _, _ => .ok []
  | f + 1, l, n =>
    if l = [] then .ok [] else
    match tokenR l n with
    | none => .error l
    | some (k, raw, txt) => consT ⟨k, raw, txt, l⟩ (scanT f (trimR (l.drop raw.length)) (nextR k txt))
theorem word_raw {l : List Int} {n k : Int} {raw txt : List Int} (hne : nameR l ≠ []) (h : wordR l n = some (k, raw, txt)) : raw ++ l.drop raw.length = l ∧ raw ≠ [] := by
  unfold wordR at h
  split at h
  · split at h
    · simp only [Option.some.injEq, Prod.mk.injEq] at h
      obtain ⟨_, rfl, _⟩ := h
      exact ⟨name_pre l, hne⟩
    · cases h
  · split at h
    · simp only [Option.some.injEq, Prod.mk.injEq] at h
      obtain ⟨_, rfl, _⟩ := h
      exact ⟨name_pre l, hne⟩
    · split at h
      · rename_i h2
        simp only [Option.some.injEq, Prod.mk.injEq] at h
        obtain ⟨_, rfl, _⟩ := h
        refine ⟨?_, by simp⟩
        have h1 := name_pre l
        have h3 := pre_split _ _ h2
        rw [List.length_append, ← List.drop_drop, List.append_assoc, h3, h1]
      · simp only [Option.some.injEq, Prod.mk.injEq] at h
        obtain ⟨_, rfl, _⟩ := h
        refine ⟨qname_pre l, ?_⟩
        unfold qnameR
        split
        · simp
        · exact hne
theorem token_raw {l : List Int} {n k : Int} {raw txt : List Int} (h : tokenR l n = some (k, raw, txt)) : raw ++ l.drop raw.length = l ∧ raw ≠ [] := by
  have hq : ∀ c, preR [c] l = true → quoteR c (l.drop 1) = some (k, raw, txt) → raw ++ l.drop raw.length = l ∧ raw ≠ [] := by
    intro c hc h
    unfold quoteR at h
    split at h
    · rename_i hm
      simp only [Option.some.injEq, Prod.mk.injEq] at h
      obtain ⟨_, rfl, _⟩ := h
      refine ⟨?_, by simp⟩
      have h1 := pre_split _ _ hc
      have h2 := quote_pre c _ hm
      have e : l = (c :: ((l.drop 1).takeWhile (· ≠ c) ++ [c])) ++ (l.drop 1).drop (((l.drop 1).takeWhile (· ≠ c)).length + 1) := by
        rw [List.cons_append, List.append_assoc, List.singleton_append, h2]; exact h1.symm
      have e2 := congrArg (List.drop (c :: ((l.drop 1).takeWhile (· ≠ c) ++ [c])).length) e
      rw [List.drop_left] at e2
      rw [e2]; exact e.symm
    · cases h
  unfold tokenR at h
  split at h
  · rename_i h0
    simp only [Option.some.injEq, Prod.mk.injEq] at h
    obtain ⟨_, rfl, _⟩ := h
    exact ⟨number_pre l, h0⟩
  · split at h
    · rename_i hc; exact hq 34 hc h
    · split at h
      · rename_i hc; exact hq 39 hc h
      · split at h
        · rename_i hc
          split at h
          · cases h
          · simp only [Option.some.injEq, Prod.mk.injEq] at h
            obtain ⟨_, rfl, _⟩ := h
            refine ⟨?_, by simp⟩
            have h1 := pre_split _ _ hc
            have h2 := qname_pre (l.drop 1)
            rw [List.length_cons, Nat.add_comm, ← List.drop_drop, List.cons_append, h2]
            exact h1
        · split at h
          · rename_i hc
            simp only [Option.some.injEq, Prod.mk.injEq] at h
            obtain ⟨_, rfl, _⟩ := h
            exact ⟨pre_split _ _ hc, by simp⟩
          · split at h
            · rename_i hc
              exact word_raw hc h
            · rw [Option.map_eq_some_iff] at h
              obtain ⟨p, h1, h2⟩ := h
              simp only [Prod.mk.injEq] at h2
              obtain ⟨_, rfl, _⟩ := h2
              have hp := List.find?_some h1
              refine ⟨pre_split _ _ hp, ?_⟩
              have hm := List.mem_of_find?_eq_some h1
              have : ∀ q ∈ sTab, q.2 ≠ [] := by decide
              exact this _ hm
def tkS (N : Nat) (t : Tk) : S30 := ⟨t.k, mkB t.txt, ((N - (enc t.suf).length : Nat) : Int)⟩
def resT (N : Nat) (L : List S30) : Except (List Int) (List Tk) → List S30 × Int × Int
  | .error e => ([], 9, ((N - (enc e).length : Nat) : Int))
  | .ok ts => (L ++ ts.map (tkS N), 0, 0)
theorem resT_cons (N : Nat) (L : List S30) (t : Tk) (r : Except (List Int) (List Tk)) : resT N L (consT t r) = resT N (L ++ [tkS N t]) r := by
  cases r with
  | error e => rfl
  | ok ts => simp [consT, resT]
theorem go_enc (s : ByteArray) : ∀ (f : Nat) (l : List Int) (a : Nat) (n : Int) (L : List S30), okRs l → (s.extract a s.size).data.toList = enc l → a ≤ s.size → l.length < f →
    scanGo s f a n L = resT s.size L (scanT f l n) := by
  intro f
  induction f with
  | zero => intro l a n L _ _ _ h; omega
  | succ f ih =>
    intro l a n L hl he ha hf
    have hlen : (enc l).length = s.size - a := by rw [← he, sz, ext_size _ _ ha]
    rw [scanGo, scanT]
    by_cases h0 : l = []
    · subst h0
      rw [if_pos rfl, if_neg (by simp [enc] at hlen; omega)]
      simp [resT]
    · have hpos := (pos_enc l).2 h0
      rw [if_neg h0, if_pos (by omega), token_enc _ l hl he n]
      rcases ht : tokenR l n with _ | ⟨k, raw, txt⟩
      · simp only [Option.map_none]
        rw [resT, hlen]
        congr 3
        omega
      · simp only [Option.map_some]
        rw [resT_cons]
        have hr := token_raw ht
        have hd : (s.extract (a + (enc raw).length) s.size).data.toList = enc (l.drop raw.length) := by
          rw [ext_drop, ← List.drop_drop, ← ext_drop, he, drop_pre hr.1]
        have hlr : (enc raw).length ≤ (enc l).length := by
          conv => rhs; rw [← hr.1, enc_append, List.length_append]
          omega
        have hok := okRs_drop hl raw.length
        have htr := trimB_enc hd hok
        have hlen2 : (enc (l.drop raw.length)).length = s.size - (a + (enc raw).length) := by rw [← hd, sz, ext_size _ _ (by omega)]
        have hlen3 : (enc (trimR (l.drop raw.length))).length ≤ (enc (l.drop raw.length)).length := by
          rw [← trim_enc _ hok]; exact trim_le _ _
        have hsk : skipB s (a + (enc raw).length) = s.size - (enc (trimR (l.drop raw.length))).length := by
          unfold skipB
          rw [← sz (trimB _), htr]
        have hk : tkS s.size ⟨k, raw, txt, l⟩ = ⟨k, mkB txt, (a : Int)⟩ := by
          unfold tkS
          simp only [hlen]
          congr 1
          omega
        have hdrop : (enc (l.drop raw.length)).drop ((enc (l.drop raw.length)).length - (enc (trimR (l.drop raw.length))).length) = enc (trimR (l.drop raw.length)) := by
          have e : enc (l.drop raw.length) = enc ((l.drop raw.length).takeWhile bl) ++ enc (trimR (l.drop raw.length)) := by
            rw [← enc_append]; unfold trimR; rw [List.takeWhile_append_dropWhile]
          rw [e, List.length_append, Nat.add_sub_cancel, List.drop_left]
        rw [hk]
        refine ih _ _ _ _ (okRs_trim hok) ?_ (by omega) ?_
        · rw [hsk, ext_drop, show s.size - (enc (trimR (l.drop raw.length))).length = (a + (enc raw).length) + ((enc (l.drop raw.length)).length - (enc (trimR (l.drop raw.length))).length) by omega, ← List.drop_drop, ← ext_drop, hd, hdrop]
        · have h1 : (trimR (l.drop raw.length)).length ≤ (l.drop raw.length).length := (List.dropWhile_sublist _).length_le
          rw [List.length_drop] at h1
          have h2 := List.length_pos_iff.2 hr.2
          have h3 := congrArg List.length hr.1
          rw [List.length_append, List.length_drop] at h3
          omega
theorem scan_enc (s : ByteArray) (rs : List Int) (h : okRs rs) (hs : s.data.toList = enc rs) (hz : s.size ≤ 512) (f : Nat) (hf : f = s.size + 1) : scanR s = resT s.size [] (scanT f (trimR rs) 0) := by
  subst hf
  have hb := good_of_enc s.size rs 0 h
  have hx : (s.extract 0 s.size).data.toList = enc rs := by rw [ext_drop, List.drop_zero, hs]
  have htr := trimB_enc hx h
  have hle : (enc (trimR rs)).length ≤ (enc rs).length := by rw [← trim_enc _ h]; exact trim_le _ _
  have hn : (enc rs).length = s.size := by rw [← hs, sz]
  have hl := enc_len (trimR rs)
  unfold scanR
  rw [if_neg (by omega), hs, hb, if_neg (by decide)]
  refine go_enc s _ _ _ _ _ (okRs_trim h) ?_ ?_ (by omega)
  · unfold skipB
    rw [ext_drop, ← sz (trimB _), htr, ← hn, hs]
    have e : enc rs = enc (rs.takeWhile bl) ++ enc (trimR rs) := by
      rw [← enc_append]; unfold trimR; rw [List.takeWhile_append_dropWhile]
    conv => lhs; arg 2; rw [e]
    rw [e, List.length_append, Nat.add_sub_cancel, List.drop_left]
  · exact (skip_ge s 0 (Nat.zero_le _)).2
end Go.Proofs.YtinefoocajnhmaaDoor.Scan
