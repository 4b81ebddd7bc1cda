/- XplexBlanks, without Go and memory. -/
import Derived.Test.YtinefoocajnhmaaDoorPrintf3
import Derived.Test.YtinefoocajnhmaaDoorPrintf19
import Derived.Test.YtinefoocajnhmaaDoorScanG
set_option linter.unusedSimpArgs false
namespace Go.Proofs.YtinefoocajnhmaaDoor.Pure
open Go.RowKit Go.Proofs.YtinefoocajnhmaaDoorW.PrintWords Go.Proofs.YtinefoocajnhmaaDoor.Plain Go.Proofs.YtinefoocajnhmaaDoor.Print Go.Proofs.YtinefoocajnhmaaDoor.Enc Go.Proofs.YtinefoocajnhmaaDoor.Scan Go.Lib
theorem isBlank_r (r : Int) : stencilref01_IsBlank.f r = some (bl r) := by
  unfold stencilref01_IsBlank.f bl
  repeat' split
  all_goals (rw [Option.some.injEq, Bool.eq_iff_iff]; simp; omega)
theorem bt_last (s : ByteArray) (l : List UInt8) (c : UInt8) (h : s.data.toList = l ++ [c]) : s.size = l.length + 1 ∧ bt s (l.length : Int) = (c.toNat : Int) := by
  have hs : s.size = l.length + 1 := by rw [← sz, h, List.length_append]; rfl
  refine ⟨hs, ?_⟩
  have hl : l.length < s.size := by omega
  have h3 : s[l.length]'hl = c := by
    have e : s[l.length]'hl = s.data.toList[l.length]'(by rw [sz]; exact hl) := by rw [Array.getElem_toList]; rfl
    rw [e]
    simp only [h]
    simp
  have h4 := bt_at s l.length hl
  rw [← h3]
  exact h4.symm
theorem last_byte (z : Int) (hz : okR z) (hb : bl z = false) : ∃ l c, encodeRune z = l ++ [c] ∧ bl (c.toNat : Int) = false := by
  have hr := ok_range hz
  by_cases h : z < 128
  · refine ⟨[], z.toNat.toUInt8, by rw [rune_ascii hr.1 h]; rfl, ?_⟩
    rw [byteN z hr.1 (by omega), show ((z.toNat : Nat) : Int) = z by omega]; exact hb
  · rcases List.eq_nil_or_concat (encodeRune z) with e | ⟨l, c, e⟩
    · exact absurd e (rune_ne z)
    · rw [List.concat_eq_append] at e
      refine ⟨l, c, e, ?_⟩
      have := rune_high hz (by omega) c (by rw [e]; simp)
      unfold bl
      simp only [Bool.or_eq_false_iff, decide_eq_false_iff_not]
      omega
theorem trimmed_l0 (raw : List Int) (hok : okRs raw) (hend : ∃ r z, raw = r ++ [z] ∧ bl z = false) : ∀ (d : Nat) (b : List Int), b.length = d → Bl b → (enc (raw ++ b)).length ≤ 1000000 → ∀ k, d + 1 ≤ k →
    stencillaw05_trimmed.l0 k (mkB (raw ++ b)) = some (mkB raw) := by
  intro d
  induction d with
  | zero =>
    intro b hb _ hbig k hk
    obtain ⟨k, rfl⟩ : ∃ m, k = m + 1 := ⟨k - 1, by omega⟩
    have : b = [] := List.eq_nil_of_length_eq_zero hb
    subst this
    obtain ⟨r, z, e, hbl⟩ := hend
    have hz : okR z := hok z (by rw [e]; simp)
    obtain ⟨l, c, hc, hcb⟩ := last_byte z hz hbl
    have hd : (mkB (raw ++ [])).data.toList = (enc r ++ l) ++ [c] := by
      rw [Scan.mk_data, List.append_nil, e, enc_append, enc_cons, enc_nil, hc, List.append_nil, List.append_assoc]
    obtain ⟨h1, h2⟩ := bt_last _ _ _ hd
    have hszl : (mkB (raw ++ [])).size ≤ 1000000 := by rw [← sz, Scan.mk_data]; exact hbig
    have hw : wrap64 (((mkB (raw ++ [])).size : Int) - 1) = ((enc r ++ l).length : Int) := by unfold wrap64; omega
    have hw2 : wrap32 (c.toNat : Int) = (c.toNat : Int) := by have := c.toNat_lt; unfold wrap32; omega
    rw [stencillaw05_trimmed.l0, hw, if_pos (by omega), if_pos (by omega), if_pos (by omega), h2, hw2, isBlank_r, Option.bind_some, hcb, if_neg (by decide), List.append_nil]
  | succ d ih =>
    intro b hb hB hbig k hk
    obtain ⟨k, rfl⟩ : ∃ m, k = m + 1 := ⟨k - 1, by omega⟩
    rcases List.eq_nil_or_concat b with e | ⟨b', x, e⟩
    · subst e; simp at hb
    · rw [List.concat_eq_append] at e
      subst e
      have hx : bl x = true := hB x (by simp)
      have hxr := bl_cases hx
      have he : encodeRune x = [x.toNat.toUInt8] := rune_ascii (by omega) (by omega)
      have hd : (mkB (raw ++ (b' ++ [x]))).data.toList = enc (raw ++ b') ++ [x.toNat.toUInt8] := by
        rw [Scan.mk_data, ← List.append_assoc, enc_append, enc_cons, enc_nil, he, List.append_nil]
      obtain ⟨h1, h2⟩ := bt_last _ _ _ hd
      have hszl : (mkB (raw ++ (b' ++ [x]))).size ≤ 1000000 := by rw [← sz, Scan.mk_data]; exact hbig
      have hw : wrap64 (((mkB (raw ++ (b' ++ [x]))).size : Int) - 1) = ((enc (raw ++ b')).length : Int) := by unfold wrap64; omega
      have hw2 : wrap32 ((x.toNat.toUInt8).toNat : Int) = x := by rw [byteN x (by omega) (by omega)]; unfold wrap32; omega
      have hcut : (mkB (raw ++ (b' ++ [x]))).extract 0 (enc (raw ++ b')).length = mkB (raw ++ b') := by
        apply mk_eq
        rw [Lib.extract_data, List.drop_zero, Nat.sub_zero, hd, List.take_left]
      rw [stencillaw05_trimmed.l0, hw, if_pos (by omega), if_pos (by omega), if_pos (by omega), h2, hw2, isBlank_r, Option.bind_some, hx, if_pos rfl, if_pos (by omega), Int.toNat_natCast, hcut]
      refine ih b' (by simpa using hb) (fun y hy => hB y (by simp [hy])) ?_ k (by omega)
      have : (enc (raw ++ (b' ++ [x]))).length = (enc (raw ++ b')).length + 1 := by
        rw [← Scan.mk_data, hd, List.length_append]; rfl
      omega
/-- the pieces behind blanks -/
def U (b : List Int) (ts : List Tk) : List Int := (ts.map fun t => b ++ t.raw).flatten
theorem U_glue (b : List Int) : ∀ ts : List Tk, U b ts ++ b = b ++ glue (ts.map fun t => (t.raw, b)) := by
  intro ts
  induction ts with
  | nil => simp [U, glue]
  | cons t ts ih =>
    have : U b (t :: ts) = b ++ t.raw ++ U b ts := by simp [U]
    rw [this, List.append_assoc, ih, List.map_cons, glue]
    simp
theorem U_snoc (b : List Int) (ts : List Tk) (t : Tk) : U b (ts ++ [t]) = U b ts ++ (b ++ t.raw) := by simp [U]
theorem glued_raw (b : List Int) (hb : Bl b) (hne : b ≠ []) : ∀ ts : List Tk, Glued ts (ts.map fun t => (t.raw, b)) := by
  intro ts
  induction ts with
  | nil => trivial
  | cons t ts ih => exact ⟨.inl rfl, hb, fun _ => hne, ih⟩
theorem blanks_step (k : Nat) (s : ByteArray) (L : List S30) (t b piece : ByteArray) (j a e : Nat) (hj : j < L.length) (hz : L.length ≤ 1000) (ha : (rd_T30 L (j : Int)).f2 = (a : Int))
    (he : j + 1 < L.length → (rd_T30 L ((j + 1 : Nat) : Int)).f2 = (e : Int)) (he2 : ¬ j + 1 < L.length → s.size = e) (h1 : a ≤ e) (h2 : e ≤ s.size) (ht : stencillaw05_trimmed.f k (s.extract a e) = some piece)
    (hb : b.size ≤ 1000000) (hp : piece.size ≤ 1000000) (htz : t.size ≤ 1000000) (R : Option Bool) (hR : stencillaw05_XplexBlanks.l0 k s L (t ++ (b ++ piece)) b ((j + 1 : Nat) : Int) = R) :
    stencillaw05_XplexBlanks.l0 (k + 1) s L t b (j : Int) = R := by
  have hw1 : wrap64 ((j : Int) + 1) = ((j + 1 : Nat) : Int) := by unfold wrap64; omega
  have c1 : (j : Int) < (L.length : Int) := by omega
  have c2 : (0 : Int) ≤ ((j + 1 : Nat) : Int) := by omega
  have c3 : (0 : Int) ≤ (j : Int) := by omega
  have c4 : (0 : Int) ≤ (a : Int) := by omega
  have c5 : (a : Int) ≤ (e : Int) := by omega
  have c6 : (e : Int) ≤ (s.size : Int) := by omega
  have c7 : (a : Int) ≤ (s.size : Int) := by omega
  have c8 : b.size + piece.size ≤ 9223372036854775807 := by omega
  have c9 : t.size + b.size + piece.size ≤ 9223372036854775807 := by omega
  rw [stencillaw05_XplexBlanks.l0, if_pos c1, hw1, ha]
  by_cases hl : j + 1 < L.length
  · have c10 : ((j + 1 : Nat) : Int) < (L.length : Int) := by omega
    rw [if_pos c10, if_pos c2, if_pos c3, if_pos c4, he hl, if_pos c5, if_pos c6, Int.toNat_natCast, Int.toNat_natCast, ht, Option.bind_some, if_pos c8, if_pos c9]
    exact hR
  · have c10 : ¬ ((j + 1 : Nat) : Int) < (L.length : Int) := by omega
    rw [if_neg c10, if_pos c3, if_pos c4, if_pos c7, if_pos (Int.le_refl _), he2 hl, Int.toNat_natCast, Int.toNat_natCast, ht, Option.bind_some, if_pos c8, if_pos c9]
    exact hR
theorem blanks_l0 (s : ByteArray) (hz : s.size ≤ 512) (rs : List Int) (hok : okRs rs) (hs : s.data.toList = enc rs) (ts : List Tk) (hts : scanT (s.size + 1) (trimR rs) 0 = .ok ts) (hC : Chain rs ts) (hlen : ts.length ≤ 512)
    (b : List Int) (hb : Bl b) (hbne : b ≠ []) (hb2 : (enc b).length ≤ 2) :
    ∀ (d j k : Nat), ts.length - j ≤ d → d + 1 + 600 ≤ k → j ≤ ts.length → ∀ t : ByteArray, t.data.toList = enc (U b (ts.take j)) → t.size ≤ 514 * j →
      stencillaw05_XplexBlanks.l0 k s (ts.map (tkS s.size)) t (mkB b) (j : Int) = some true := by
  have hbsz : (mkB b).size = (enc b).length := by rw [← sz]; rfl
  have hbok : okRs b := fun x hx => by
    show inSpans isCharL x = true
    rcases bl_cases (hb x hx) with rfl | rfl | rfl | rfl <;> decide
  have hn : (enc rs).length = s.size := by rw [← hs, sz]
  intro d
  induction d with
  | zero =>
    intro j k hd hk hj t ht htz
    obtain ⟨k, rfl⟩ : ∃ m, k = m + 1 := ⟨k - 1, by omega⟩
    have hj2 : j = ts.length := by omega
    subst hj2
    rw [List.take_length] at ht
    have hfull : (t ++ mkB b).data.toList = enc (b ++ glue (ts.map fun t => (t.raw, b))) := by
      rw [ByteArray.data_append, Array.toList_append, ht, Scan.mk_data, ← enc_append, U_glue]
    have hfz : (t ++ mkB b).size = t.size + (mkB b).size := ByteArray.size_append
    have hw : wrap64 ((t.size : Int) + ((mkB b).size : Int)) = ((t.size + (mkB b).size : Nat) : Int) := by unfold wrap64; omega
    rw [stencillaw05_XplexBlanks.l0, List.length_map, if_neg (by omega), if_pos (by omega), hw, live_ok]
    unfold xplex_Scan.f
    simp only [Option.bind_some, if_true]
    by_cases hbig : 512 < t.size + (mkB b).size
    · rw [if_pos (by omega)]
    · rw [if_neg (by omega)]
      have hrawok : ∀ u ∈ ts, okRs u.raw := by
        intro u hu
        obtain ⟨i, hi⟩ := List.getElem?_of_mem hu
        obtain ⟨⟨p, hp⟩, ⟨b2, _, e⟩, _⟩ := chain_at ts hC i u hi
        rw [hp, e] at hok
        exact (okRs_append.1 (okRs_append.1 hok).2).1
      have hgok : ∀ us : List Tk, (∀ u ∈ us, okRs u.raw) → okRs (glue (us.map fun t => (t.raw, b))) := by
        intro us
        induction us with
        | nil => intro _ x hx; simp [glue] at hx
        | cons u us ih =>
          intro h
          rw [List.map_cons, glue]
          exact okRs_append.2 ⟨h u (by simp), okRs_append.2 ⟨hbok, ih fun v hv => h v (by simp [hv])⟩⟩
      have hG := glued_raw b hb hbne ts
      have htr := glue_trim hts (trim_idem _) _ hG
      have hl1 := enc_len (trimR rs)
      have hl2 : (enc (trimR rs)).length ≤ (enc rs).length := by rw [← trim_enc _ hok]; exact trim_le _ _
      have hl3 := enc_len (glue (ts.map fun t => (t.raw, b)))
      have hl4 : (enc (b ++ glue (ts.map fun t => (t.raw, b)))).length = (t ++ mkB b).size := by rw [← hfull, sz]
      rw [enc_append, List.length_append] at hl4
      obtain ⟨us, hus, hwt⟩ := glue_scan _ _ _ ts hts (by omega) (trim_idem _) _ hG ((t ++ mkB b).size + 1) (by omega)
      rw [scan_enc _ _ (okRs_append.2 ⟨hbok, hgok ts hrawok⟩) hfull (by omega) _ rfl, trim_bl b _ hb, htr, hus]
      simp only [resT, List.nil_append]
      rw [if_pos trivial, what_same hwt _ _ (by omega) k (by omega)]
      rfl
  | succ d ih =>
    intro j k hd hk hj t ht htz
    by_cases hlt : j < ts.length
    · obtain ⟨k, rfl⟩ : ∃ m, k = m + 1 := ⟨k - 1, by omega⟩
      obtain ⟨u, hu⟩ : ∃ u, ts[j]? = some u := ⟨_, List.getElem?_eq_getElem hlt⟩
      have hm : (ts.map (tkS s.size))[j]? = some (tkS s.size u) := by rw [List.getElem?_map, hu]; rfl
      obtain ⟨⟨p, hp⟩, ⟨b2, hB2, e⟩, hend⟩ := chain_at ts hC j u hu
      have hsuf : (enc p).length + (enc u.suf).length = s.size := by rw [← hn, hp, enc_append, List.length_append]
      have hle : (enc u.suf).length = (enc u.raw).length + ((enc b2).length + (enc (nextSuf (ts.drop (j + 1)))).length) := by
        rw [e, enc_append, enc_append, List.length_append, List.length_append]
      have hrok : okRs u.raw ∧ okRs b2 := by
        rw [hp, e] at hok
        have := okRs_append.1 (okRs_append.1 hok).2
        exact ⟨this.1, (okRs_append.1 this.2).1⟩
      have hf2 : (tkS s.size u).f2 = ((enc p).length : Int) := by
        show ((s.size - (enc u.suf).length : Nat) : Int) = _
        omega
      have hpiece : s.extract (enc p).length ((enc p).length + (enc u.raw).length + (enc b2).length) = mkB (u.raw ++ b2) := by
        apply mk_eq
        rw [Lib.extract_data, hs, hp, enc_append, List.drop_left, e, enc_append, enc_append, enc_append, show (enc p).length + (enc u.raw).length + (enc b2).length - (enc p).length = (enc u.raw ++ enc b2).length by rw [List.length_append]; omega, ← List.append_assoc, List.take_left]
      have htrim : stencillaw05_trimmed.f k (mkB (u.raw ++ b2)) = some (mkB u.raw) := by
        have h1 := enc_len b2
        exact trimmed_l0 u.raw hrok.1 hend b2.length b2 rfl hB2 (by rw [enc_append, List.length_append]; omega) k (by omega)
      have hrsz : (mkB u.raw).size = (enc u.raw).length := by rw [← sz]; rfl
      have htk : ts.take (j + 1) = ts.take j ++ [u] := by
        rw [List.take_add_one, hu]; rfl
      have hnext := ih (j + 1) k (by omega) (by omega) (by omega) (t ++ (mkB b ++ mkB u.raw)) (by
        rw [ByteArray.data_append, Array.toList_append, ByteArray.data_append, Array.toList_append, ht, Scan.mk_data, Scan.mk_data, htk, U_snoc, enc_append, enc_append]) (by
        rw [ByteArray.size_append, ByteArray.size_append]; omega)
      refine blanks_step k s _ t (mkB b) (mkB u.raw) j (enc p).length ((enc p).length + (enc u.raw).length + (enc b2).length) (by rw [List.length_map]; exact hlt) (by rw [List.length_map]; omega) (by rw [rd_get hm, hf2]) ?_ ?_ (by omega) (by omega) (by rw [hpiece]; exact htrim) (by omega) (by omega) (by omega) _ hnext
      · intro hlast
        rw [List.length_map] at hlast
        obtain ⟨v, hv⟩ : ∃ v, ts[j + 1]? = some v := ⟨_, List.getElem?_eq_getElem hlast⟩
        have hmv : (ts.map (tkS s.size))[j + 1]? = some (tkS s.size v) := by rw [List.getElem?_map, hv]; rfl
        have hns : nextSuf (ts.drop (j + 1)) = v.suf := by
          rw [List.drop_eq_getElem_cons hlast]
          have := (List.getElem?_eq_some_iff.1 hv).2
          rw [this]; rfl
        rw [hns] at hle
        rw [rd_get hmv]
        show ((s.size - (enc v.suf).length : Nat) : Int) = _
        omega
      · intro hlast
        rw [List.length_map] at hlast
        have hns : nextSuf (ts.drop (j + 1)) = [] := by rw [List.drop_of_length_le (by omega)]; rfl
        rw [hns, enc_nil, List.length_nil] at hle
        omega
    · exact ih j k (by omega) (by omega) hj t ht htz
theorem XplexBlanks (s : ByteArray) (a : Int) (hz : s.size ≤ 1048576) (ha : (Lit.int .u8 a).wf = true) : ∃ k, stencillaw05_XplexBlanks.f k s a = some true := by
  unfold stencillaw05_XplexBlanks.f xplex_Scan.f
  rcases scan_cases s with ⟨e, at_, hs, he⟩ | ⟨rs, ts, hok, hs, hz2, hts, hsc⟩
  · refine ⟨1, ?_⟩
    rw [hs]
    simp only [Option.bind_some]
    rw [if_neg he, live_ok]; rfl
  · have hn : (enc rs).length = s.size := by rw [← hs, sz]
    have hl1 := enc_len (trimR rs)
    have hl2 : (enc (trimR rs)).length ≤ (enc rs).length := by rw [← trim_enc _ hok]; exact trim_le _ _
    have hsp : rs = rs.takeWhile bl ++ trimR rs := by unfold trimR; rw [List.takeWhile_append_dropWhile]
    have hC := chain_of rs _ _ _ ts hts (by omega) ⟨_, hsp⟩
    have hlen : ts.length ≤ 512 := by
      have h1 := chain_len ts hC.1
      rcases hC.2 with h | h
      · subst h; simp
      · rw [h] at h1; omega
    have ha2 : 0 ≤ a ∧ a ≤ 255 := by
      simp [Lit.wf, IntKind.min, IntKind.max, IntKind.signed, IntKind.bits] at ha
      omega
    obtain ⟨i, hi, hi4⟩ : ∃ i : Nat, Int.tmod a 4 = (i : Int) ∧ i < 4 := ⟨(a % 4).toNat, by rw [Int.tmod_eq_emod_of_nonneg ha2.1]; omega, by omega⟩
    refine ⟨512 + 1 + 600, ?_⟩
    rw [hsc]
    simp only [Option.bind_some]
    rw [if_pos trivial, hi, if_pos (by omega), if_pos (by simp; omega)]
    have main : ∀ b : List Int, Bl b → b ≠ [] → (enc b).length ≤ 2 → stencillaw05_XplexBlanks.l0 (512 + 1 + 600) s (ts.map (tkS s.size)) (⟨#[]⟩ : ByteArray) (mkB b) 0 = some true := by
      intro b h1 h2 h3
      exact blanks_l0 s hz2 rs hok hs ts hts hC.1 hlen b h1 h2 h3 512 0 _ (by omega) (Nat.le_refl _) (Nat.zero_le _) _ rfl (by decide)
    obtain rfl | rfl | rfl | rfl : i = 0 ∨ i = 1 ∨ i = 2 ∨ i = 3 := by omega
    · exact main [32] (show ∀ x ∈ ([32] : List Int), bl x = true by decide) (by decide) (by decide)
    · exact main [9] (show ∀ x ∈ ([9] : List Int), bl x = true by decide) (by decide) (by decide)
    · exact main [10, 32] (show ∀ x ∈ ([10, 32] : List Int), bl x = true by decide) (by decide) (by decide)
    · exact main [32, 13] (show ∀ x ∈ ([32, 13] : List Int), bl x = true by decide) (by decide) (by decide)
end Go.Proofs.YtinefoocajnhmaaDoor.Pure
