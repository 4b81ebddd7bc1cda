/- XplexBack, without Go and memory. -/
import Derived.Test.YtinefoocajnhmaaDoorPrintf49
import Derived.Test.YtinefoocajnhmaaDoorScanH
set_option linter.unusedSimpArgs false
namespace Go.Proofs.YtinefoocajnhmaaDoor.Pure
open Go.RowKit Go.Proofs.YtinefoocajnhmaaDoorW.PrintWords Go.Proofs.YtinefoocajnhmaaDoor.Plain Go.Proofs.YtinefoocajnhmaaDoor.Print Go.Proofs.YtinefoocajnhmaaDoor.Enc Go.Proofs.YtinefoocajnhmaaDoor.Scan Go.Lib
/-- how a token's text stands in what was read -/
theorem tok_form {l : List Int} {n k : Int} {raw txt : List Int} (h : tokenR l n = some (k, raw, txt)) :
    (k = 7 ∧ raw = 36 :: txt) ∨ (k = 2 ∧ ∃ c, (c = 34 ∨ c = 39) ∧ c ∉ txt ∧ raw = c :: (txt ++ [c])) ∨ (k ≠ 7 ∧ k ≠ 2 ∧ raw = txt) := by
  have hq : ∀ c, (c = 34 ∨ c = 39) → quoteR c (l.drop 1) = some (k, raw, txt) → k = 2 ∧ ∃ c, (c = 34 ∨ c = 39) ∧ c ∉ txt ∧ raw = c :: (txt ++ [c]) := by
    intro c hc h
    unfold quoteR at h
    split at h
    · simp only [Option.some.injEq, Prod.mk.injEq] at h
      obtain ⟨rfl, rfl, rfl⟩ := h
      exact ⟨rfl, c, hc, fun hm => by have := mem_tw (fun x => decide (x ≠ c)) _ c hm; simp at this, rfl⟩
    · cases h
  unfold tokenR at h
  split at h
  · simp only [Option.some.injEq, Prod.mk.injEq] at h
    obtain ⟨rfl, rfl, rfl⟩ := h
    exact .inr (.inr ⟨by decide, by decide, rfl⟩)
  · split at h
    · exact .inr (.inl (hq 34 (.inl rfl) h))
    · split at h
      · exact .inr (.inl (hq 39 (.inr rfl) h))
      · split at h
        · split at h
          · cases h
          · simp only [Option.some.injEq, Prod.mk.injEq] at h
            obtain ⟨rfl, rfl, rfl⟩ := h
            exact .inl ⟨rfl, rfl⟩
        · split at h
          · simp only [Option.some.injEq, Prod.mk.injEq] at h
            obtain ⟨rfl, rfl, rfl⟩ := h
            exact .inr (.inr ⟨by split <;> decide, by split <;> decide, rfl⟩)
          · split at h
            · unfold wordR at h
              split at h
              · split at h
                · simp only [Option.some.injEq, Prod.mk.injEq] at h
                  obtain ⟨rfl, rfl, rfl⟩ := h
                  exact .inr (.inr ⟨by decide, by decide, rfl⟩)
                · cases h
              · split at h
                · simp only [Option.some.injEq, Prod.mk.injEq] at h
                  obtain ⟨rfl, rfl, rfl⟩ := h
                  exact .inr (.inr ⟨by decide, by decide, rfl⟩)
                · split at h
                  · simp only [Option.some.injEq, Prod.mk.injEq] at h
                    obtain ⟨rfl, rfl, rfl⟩ := h
                    exact .inr (.inr ⟨by decide, by decide, rfl⟩)
                  · simp only [Option.some.injEq, Prod.mk.injEq] at h
                    obtain ⟨rfl, rfl, rfl⟩ := h
                    refine .inr (.inr ⟨?_, ?_, rfl⟩) <;> (split; split; all_goals decide)
            · rw [Option.map_eq_some_iff] at h
              obtain ⟨p, h1, h2⟩ := h
              simp only [Prod.mk.injEq] at h2
              obtain ⟨rfl, rfl, rfl⟩ := h2
              have hm := List.mem_of_find?_eq_some h1
              have h3 : ∀ q ∈ sTab, q.1 ≠ 7 ∧ q.1 ≠ 2 := by decide
              exact .inr (.inr ⟨(h3 _ hm).1, (h3 _ hm).2, rfl⟩)
theorem mem_enc (c : UInt8) (hc : c.toNat < 128) (t : List Int) (h : okRs t) : c ∈ enc t ↔ (c.toNat : Int) ∈ t := by
  induction t with
  | nil => simp [enc]
  | cons r t ih =>
    have hr := okRs_cons h
    have hrr := ok_range hr.1
    rw [enc_cons, List.mem_append, List.mem_cons, ih hr.2]
    have : c ∈ encodeRune r ↔ (c.toNat : Int) = r := by
      by_cases hlt : r < 128
      · rw [rune_ascii hrr.1 hlt, List.mem_singleton]
        constructor
        · rintro rfl; rw [byteN r hrr.1 (by omega)]; omega
        · rintro rfl; simp
      · constructor
        · intro hm; have := rune_high hr.1 (by omega) c hm; omega
        · intro e; omega
    rw [this]
/-- a token as a text, in runes -/
def pieceR (t : Tk) : List Int := if t.k = 2 then (if (34 : Int) ∉ t.txt then 34 :: (t.txt ++ [34]) else 39 :: (t.txt ++ [39])) else t.raw
theorem piece_sp {l : List Int} {n : Int} {t : Tk} (h : tokenR l n = some (t.k, t.raw, t.txt)) (hok : okRs l) (N : Nat) : Sp t (pieceR t) ∧ pieceB (tkS N t) = mkB (pieceR t) ∧ okRs (pieceR t) := by
  have hraw := token_raw h
  have hokr : okRs t.raw := by
    rw [← hraw.1] at hok
    exact (okRs_append.1 hok).1
  have h34 : okR 34 := by show inSpans isCharL _ = true; decide
  have h39 : okR 39 := by show inSpans isCharL _ = true; decide
  have hf0 : (tkS N t).f0 = t.k := rfl
  have hf1 : (tkS N t).f1 = mkB t.txt := rfl
  rcases tok_form h with ⟨hk, e⟩ | ⟨hk, c, hc, hn, e⟩ | ⟨h7, h2, e⟩
  · have hp : pieceR t = t.raw := by unfold pieceR; rw [if_neg (by omega)]
    have hb : pieceB (tkS N t) = (⟨#[36]⟩ : ByteArray) ++ mkB t.txt := by unfold pieceB; rw [hf0, hf1, if_pos hk]
    rw [hp, hb]
    refine ⟨.inl rfl, mk_eq ?_, hokr⟩
    rw [ByteArray.data_append, Array.toList_append, Scan.mk_data, e, enc_cons, rune_ascii (by decide) (by decide)]; rfl
  · have hokt : okRs t.txt := fun x hx => hokr x (by rw [e]; simp [hx])
    have hq : ∀ c : UInt8, c.toNat < 128 → okR (c.toNat : Int) → ((⟨#[c]⟩ : ByteArray) ++ mkB t.txt ++ (⟨#[c]⟩ : ByteArray)) = mkB ((c.toNat : Int) :: (t.txt ++ [(c.toNat : Int)])) := by
      intro c hc _
      have e1 : encodeRune ((c.toNat : Nat) : Int) = [c] := by rw [rune_ascii (by omega) (by omega)]; simp
      apply mk_eq
      rw [bytes3, Scan.mk_data, enc_cons, enc_append, enc_cons, enc_nil, e1]; rfl
    have m34 := mem_enc 34 (by decide) t.txt hokt
    have m39 := mem_enc 39 (by decide) t.txt hokt
    have hokq : ∀ x, okR x → okRs (x :: (t.txt ++ [x])) := by
      intro x hx y hy
      rcases List.mem_cons.1 hy with rfl | hy
      · exact hx
      · rcases List.mem_append.1 hy with hy | hy
        · exact hokt y hy
        · rw [List.mem_singleton.1 hy]; exact hx
    have hb : ∀ x : ByteArray, litB (mkB t.txt) = (x, 0) → pieceB (tkS N t) = x := by
      intro x hx
      unfold pieceB
      rw [hf0, hf1, if_neg (by omega), if_pos hk, hx, if_pos rfl]
    by_cases h0 : (34 : Int) ∈ t.txt
    · have hc39 : c = 39 := by rcases hc with rfl | rfl; exact absurd h0 hn; rfl
      subst hc39
      have b34 : (34 : UInt8) ∈ enc t.txt := m34.2 h0
      have b39 : (39 : UInt8) ∉ enc t.txt := fun h => hn (m39.1 h)
      have hp : pieceR t = 39 :: (t.txt ++ [39]) := by unfold pieceR; rw [if_pos hk, if_neg (fun h => h h0)]
      have hl : litB (mkB t.txt) = ((⟨#[39]⟩ : ByteArray) ++ mkB t.txt ++ (⟨#[39]⟩ : ByteArray), 0) := by
        unfold litB; rw [Scan.mk_data]; simp only [b34, b39, not_true, not_false_eq_true, if_true, if_false]
      rw [hp, hb _ hl]
      exact ⟨.inr ⟨hk, 39, .inr rfl, hn, rfl⟩, hq 39 (by decide) h39, hokq 39 h39⟩
    · have b34 : (34 : UInt8) ∉ enc t.txt := fun h => h0 (m34.1 h)
      have hp : pieceR t = 34 :: (t.txt ++ [34]) := by unfold pieceR; rw [if_pos hk, if_pos h0]
      have hl : litB (mkB t.txt) = ((⟨#[34]⟩ : ByteArray) ++ mkB t.txt ++ (⟨#[34]⟩ : ByteArray), 0) := by
        unfold litB; rw [Scan.mk_data]; simp only [b34, not_false_eq_true, if_true]
      rw [hp, hb _ hl]
      exact ⟨.inr ⟨hk, 34, .inl rfl, h0, rfl⟩, hq 34 (by decide) h34, hokq 34 h34⟩
  · have hp : pieceR t = t.raw := by unfold pieceR; rw [if_neg h2]
    have hb : pieceB (tkS N t) = mkB t.txt := by unfold pieceB; rw [hf0, hf1, if_neg h7, if_neg h2]
    rw [hp, hb]
    exact ⟨.inl rfl, by rw [e], hokr⟩
/-- the pieces, with a blank between -/
def withBlanks : List Tk → List (List Int × List Int)
  | [] => []
  | [t] => [(pieceR t, [])]
  | t :: u :: ts => (pieceR t, [32]) :: withBlanks (u :: ts)
theorem blank32 : Bl [32] := show ∀ x ∈ ([32] : List Int), bl x = true by decide
theorem toks_of : ∀ (f : Nat) (l : List Int) (n : Int) (ts : List Tk), scanT f l n = .ok ts → okRs l → ∀ t ∈ ts, ∃ l n, tokenR l n = some (t.k, t.raw, t.txt) ∧ okRs l := by
  intro f
  induction f with
  | zero => intro l n ts h _; simp only [scanT, Except.ok.injEq] at h; subst h; simp
  | succ f ih =>
    intro l n ts h hok t ht
    rcases ts with _ | ⟨u, us⟩
    · cases ht
    · obtain ⟨_, htok, hrest, _⟩ := scanT_cons h
      rcases List.mem_cons.1 ht with rfl | ht
      · exact ⟨l, n, htok, hok⟩
      · exact ih _ _ us hrest (okRs_trim (okRs_drop hok _)) t ht
theorem glued_with : ∀ ts : List Tk, (∀ t ∈ ts, Sp t (pieceR t)) → Glued ts (withBlanks ts)
  | [], _ => trivial
  | [t], h => ⟨h t (by simp), (fun x hx => nomatch hx), (fun h => absurd rfl h), trivial⟩
  | t :: u :: ts, h => ⟨h t (by simp), blank32, fun _ => by simp, glued_with (u :: ts) fun v hv => h v (by simp [List.mem_cons.1 hv])⟩
theorem join_with (N : Nat) : ∀ ts : List Tk, (∀ t ∈ ts, pieceB (tkS N t) = mkB (pieceR t)) → Lib.join (((ts.map (tkS N)).map pieceB).map (·.data.toList)) [32] = enc (glue (withBlanks ts))
  | [], _ => rfl
  | [t], h => by
    rw [List.map_cons, List.map_cons, List.map_cons, h t (by simp), List.map_nil, List.map_nil, List.map_nil, Lib.join_one, withBlanks, glue, glue, List.append_nil, List.append_nil]; rfl
  | t :: u :: ts, h => by
    have ih := join_with N (u :: ts) fun v hv => h v (by simp [List.mem_cons.1 hv])
    rw [withBlanks, glue, enc_append, enc_append, ← ih]
    rw [List.map_cons, List.map_cons, List.map_cons, h t (by simp)]
    rw [List.map_cons, List.map_cons, List.map_cons, Lib.join_cons, Lib.join_cons, Lib.joinTail, Lib.joinTail]
    simp only [List.map_cons, List.flatten_cons, List.append_assoc]
    rfl
theorem okRs_glue : ∀ ts : List Tk, (∀ t ∈ ts, okRs (pieceR t)) → okRs (glue (withBlanks ts))
  | [], _ => fun x hx => by cases hx
  | [t], h => by
    rw [withBlanks, glue, glue, List.append_nil, List.append_nil]; exact h t (by simp)
  | t :: u :: ts, h => by
    have ih := okRs_glue (u :: ts) fun v hv => h v (by simp [List.mem_cons.1 hv])
    rw [withBlanks, glue]
    refine okRs_append.2 ⟨h t (by simp), okRs_append.2 ⟨fun x hx => ?_, ih⟩⟩
    rw [List.mem_singleton.1 hx]
    show inSpans isCharL _ = true; decide
theorem XplexBack (s : ByteArray) (hz : s.size ≤ 1048576) : ∃ k, stencillaw05_XplexBack.f k s = some true := by
  unfold stencillaw05_XplexBack.f xplex_Scan.f
  rcases scan_cases s with ⟨e, at_, hs, he⟩ | ⟨rs, ts, hok, hs, hz2, hts, hsc⟩
  · refine ⟨1, ?_⟩
    rw [hs]
    simp only [Option.bind_some]
    rw [if_neg he, live_ok]; rfl
  · have hn : (enc rs).length = s.size := by rw [← hs, sz]
    have hl1 := enc_len (trimR rs)
    have hl2 : (enc (trimR rs)).length ≤ (enc rs).length := by rw [← trim_enc _ hok]; exact trim_le _ _
    have hsp : rs = rs.takeWhile bl ++ trimR rs := by unfold trimR; rw [List.takeWhile_append_dropWhile]
    have hC := chain_of rs _ _ _ ts hts (by omega) ⟨_, hsp⟩
    have hlen : ts.length ≤ 512 := by
      have h1 := chain_len ts hC.1
      rcases hC.2 with h | h
      · subst h; simp
      · rw [h] at h1; omega
    have hall : ∀ t ∈ ts, Sp t (pieceR t) ∧ pieceB (tkS s.size t) = mkB (pieceR t) ∧ okRs (pieceR t) := fun t ht => by
      obtain ⟨l, n, h1, h2⟩ := toks_of _ _ _ ts hts (okRs_trim hok) t ht
      exact piece_sp h1 h2 s.size
    have hG := glued_with ts fun t ht => (hall t ht).1
    have hJ := join_with s.size ts fun t ht => (hall t ht).2.1
    have hO := okRs_glue ts fun t ht => (hall t ht).2.2
    have htr := glue_trim hts (trim_idem _) _ hG
    have hsmall : ∀ t ∈ ts, (enc t.raw).length ≤ 512 ∧ (enc t.txt).length ≤ 512 := by
      intro t ht
      obtain ⟨i, hi⟩ := List.getElem?_of_mem ht
      obtain ⟨⟨p, hp⟩, ⟨b, _, e⟩, _⟩ := chain_at ts hC.1 i t hi
      have h1 : (enc t.raw).length ≤ (enc rs).length := by
        rw [hp, e, enc_append, enc_append, List.length_append, List.length_append]; omega
      obtain ⟨l, n, h2, _⟩ := toks_of _ _ _ ts hts (okRs_trim hok) t ht
      have h3 : (enc t.txt).length ≤ (enc t.raw).length := by
        rcases tok_form h2 with ⟨_, e⟩ | ⟨_, c, _, _, e⟩ | ⟨_, _, e⟩
        · rw [e, enc_cons, List.length_append]; omega
        · rw [e, enc_cons, enc_append, List.length_append, List.length_append]; omega
        · rw [e]; exact Nat.le_refl _
      omega
    have hpz : ∀ t ∈ ts, (enc (pieceR t)).length ≤ 600 := by
      intro t ht
      have h1 := hsmall t ht
      unfold pieceR
      split
      · split
        · rw [enc_cons, enc_append, enc_cons, enc_nil, rune_ascii (by decide) (by decide)]
          simp only [List.length_append, List.length_cons, List.length_nil]; omega
        · rw [enc_cons, enc_append, enc_cons, enc_nil, rune_ascii (by decide) (by decide)]
          simp only [List.length_append, List.length_cons, List.length_nil]; omega
      · omega
    have hgz : ∀ us : List Tk, (∀ t ∈ us, (enc (pieceR t)).length ≤ 600) → (enc (glue (withBlanks us))).length ≤ 601 * us.length := by
      intro us
      induction us with
      | nil => intro _; simp [withBlanks, glue, enc]
      | cons t us ih =>
        intro h
        have h1 := h t (by simp)
        have h2 := ih fun u hu => h u (by simp [hu])
        rcases us with _ | ⟨u, us⟩
        · rw [withBlanks, glue, glue, List.append_nil, List.append_nil]
          simp only [List.length_cons, List.length_nil]; omega
        · rw [withBlanks, glue, enc_append, enc_append, List.length_append, List.length_append, show (enc [32]).length = 1 by decide]
          rw [List.length_cons]; omega
    have hjz := hgz ts hpz
    refine ⟨520, ?_⟩
    have hjoin := join_f (ts.map (tkS s.size)) (by rw [List.length_map]; omega) (fun x hx => by
      obtain ⟨t, ht, rfl⟩ := List.mem_map.1 hx
      have := hsmall t ht
      show (mkB t.txt).size ≤ _
      rw [← sz, Scan.mk_data]; omega) (by rw [hJ]; omega) 520 (by rw [List.length_map]; omega)
    obtain ⟨tt, htt⟩ : ∃ tt, joinB ((ts.map (tkS s.size)).map pieceB) = tt := ⟨_, rfl⟩
    have hdata : tt.data.toList = enc (glue (withBlanks ts)) := by rw [← htt]; exact hJ
    rw [htt] at hjoin
    rw [hsc]
    simp only [Option.bind_some]
    rw [if_pos trivial, hjoin]
    simp only [Option.bind_some, live_ok, if_true]
    by_cases hbig : 512 < tt.size
    · rw [if_pos (by omega), scan_big tt hbig, if_pos rfl]
    · rw [if_neg (by omega)]
      have hl3 := enc_len (glue (withBlanks ts))
      have hl4 : (enc (glue (withBlanks ts))).length = tt.size := by rw [← hdata, sz]
      obtain ⟨us, hus, hwt⟩ := glue_scan _ _ _ ts hts (by omega) (trim_idem _) _ hG (tt.size + 1) (by omega)
      rw [scan_enc tt _ hO hdata (by omega) _ rfl, htr, hus]
      simp only [resT, List.nil_append]
      rw [if_pos trivial, what_same hwt _ _ (by omega) 520 (by omega)]
      rfl
end Go.Proofs.YtinefoocajnhmaaDoor.Pure
