/- A text that is encoded is decoded as it was, in both ways: without Go and memory. -/
import Derived.Test.YthedigbdkjcpfaaGreatDoorPrintf9
import Derived.Test.YthedigbdkjcpfaaGreatDoorPrintxcharencode
import Derived.Test.YthedigbdkjcpfaaGreatDoorFactsX
set_option linter.unusedSimpArgs false
namespace Go.Proofs.YthedigbdkjcpfaaGreatDoor.BackT
open Go.RowKit Go.Proofs.YthedigbdkjcpfaaGreatDoorW.PrintWords Go.Proofs.YthedigbdkjcpfaaGreatDoor.Plain Go.Proofs.YthedigbdkjcpfaaGreatDoor.Print Go.Proofs.YthedigbdkjcpfaaGreatDoor.FactsV Go.Proofs.YthedigbdkjcpfaaGreatDoor.FactsX Go.Proofs.YthedigbdkjcpfaaGreatDoor.Enc Go.Proofs.YthedigbdkjcpfaaGreatDoor.Lines

theorem units_bytes {r : Int} (h : okR r) : ∀ x ∈ units16 r, 0 ≤ x ∧ x < 256 := by
  have hr := ok_range h
  intro x hx
  unfold units16 at hx
  split at hx
  · simp only [List.mem_cons, List.not_mem_nil, or_false] at hx
    rcases hx with rfl | rfl <;> omega
  · simp only [List.mem_cons, List.not_mem_nil, or_false] at hx
    rcases hx with rfl | rfl | rfl | rfl <;> omega
theorem wideL_enc : ∀ (rs : List Int) (f : Nat), okRs rs → rs.length ≤ f → wideL f (enc rs) = rs.flatMap units16 := by
  intro rs
  induction rs with
  | nil => intro f _ _; exact wideL_nil f
  | cons r rs ih =>
    intro f h hf
    have hr := okRs_cons h
    have hb := ok_range hr.1
    obtain ⟨f, rfl⟩ : ∃ m, f = m + 1 := ⟨f - 1, by simp only [List.length_cons] at hf; omega⟩
    rw [wideL, enc_cons, if_neg (by simp [rune_ne]), dec_enc hr.1]
    simp only
    rw [List.drop_left, ih f hr.2 (by simp only [List.length_cons] at hf; omega), show ((r.toNat : Nat) : Int) = r by omega, List.flatMap_cons]
theorem unit_here (pre : List Int) (x y : Int) (t : List Int) : unitV (pre ++ x :: y :: t) 0 pre.length = some (x * 256 + y) := by
  unfold unitV
  rw [if_pos (by simp only [List.length_append, List.length_cons]; omega)]
  simp only [Nat.add_zero, Nat.sub_zero, List.getD_eq_getElem?_getD]
  rw [List.getElem?_append_right (Nat.le_refl _), List.getElem?_append_right (by omega)]
  simp
theorem wideGo_units : ∀ (rs pre acc : List Int) (f : Nat), okRs rs → rs.length + 1 ≤ f → wideGo (pre ++ rs.flatMap units16) 0 f pre.length acc = .ok (acc ++ rs) := by
  intro rs
  induction rs with
  | nil =>
    intro pre acc f _ hf
    obtain ⟨f, rfl⟩ : ∃ m, f = m + 1 := ⟨f - 1, by omega⟩
    rw [wideGo, if_pos (by simp)]
    simp
  | cons r rs ih =>
    intro pre acc f h hf
    have hr := okRs_cons h
    have hb := ok_range hr.1
    obtain ⟨f, rfl⟩ : ∃ m, f = m + 1 := ⟨f - 1, by omega⟩
    simp only [List.length_cons] at hf
    rw [List.flatMap_cons]
    by_cases hlo : r < 65536
    · have hu : units16 r = [r / 256, r % 256] := by unfold units16; rw [if_pos hlo]
      have hlen : ¬ (pre ++ (units16 r ++ rs.flatMap units16)).length ≤ pre.length := by
        rw [hu]; simp only [List.length_append, List.length_cons]; omega
      have hv : unitV (pre ++ (units16 r ++ rs.flatMap units16)) 0 pre.length = some r := by
        rw [hu]
        show unitV (pre ++ r / 256 :: r % 256 :: rs.flatMap units16) 0 pre.length = _
        rw [unit_here]
        congr 1
        omega
      rw [wideGo, if_neg hlen, hv]
      simp only
      rw [if_neg (by omega), if_pos (show inSpans isCharL r = true from hr.1)]
      have e : pre ++ (units16 r ++ rs.flatMap units16) = (pre ++ units16 r) ++ rs.flatMap units16 := by rw [List.append_assoc]
      have hl2 : (pre ++ units16 r).length = pre.length + 2 := by rw [hu]; simp
      rw [e, ← hl2, ih (pre ++ units16 r) (acc ++ [r]) f hr.2 (by omega), List.append_assoc]
      rfl
    · obtain ⟨q, hq⟩ : ∃ q, r - 65536 = q := ⟨_, rfl⟩
      obtain ⟨u1, hu1⟩ : ∃ a, 55296 + q / 1024 = a := ⟨_, rfl⟩
      obtain ⟨u2, hu2⟩ : ∃ a, 56320 + q % 1024 = a := ⟨_, rfl⟩
      have hu : units16 r = [u1 / 256, u1 % 256, u2 / 256, u2 % 256] := by unfold units16; rw [if_neg hlo, hq, hu1, hu2]
      have hlen : ¬ (pre ++ (units16 r ++ rs.flatMap units16)).length ≤ pre.length := by
        rw [hu]; simp only [List.length_append, List.length_cons]; omega
      have hv : unitV (pre ++ (units16 r ++ rs.flatMap units16)) 0 pre.length = some u1 := by
        rw [hu]
        show unitV (pre ++ u1 / 256 :: u1 % 256 :: ([u2 / 256, u2 % 256] ++ rs.flatMap units16)) 0 pre.length = _
        rw [unit_here]
        congr 1
        omega
      have hv2 : unitV (pre ++ (units16 r ++ rs.flatMap units16)) 0 (pre.length + 2) = some u2 := by
        have e : pre ++ (units16 r ++ rs.flatMap units16) = (pre ++ [u1 / 256, u1 % 256]) ++ u2 / 256 :: u2 % 256 :: rs.flatMap units16 := by rw [hu]; simp
        have hl : (pre ++ [u1 / 256, u1 % 256]).length = pre.length + 2 := by simp
        rw [e, ← hl, unit_here]
        congr 1
        omega
      rw [wideGo, if_neg hlen, hv]
      simp only
      rw [if_pos (by omega), hv2]
      simp only [Option.getD_some]
      have hval : 65536 + u1 % 1024 * 1024 + u2 % 1024 = r := by omega
      rw [if_pos ⟨by omega, by omega⟩, hval, if_pos (show inSpans isCharL r = true from hr.1)]
      have e : pre ++ (units16 r ++ rs.flatMap units16) = (pre ++ units16 r) ++ rs.flatMap units16 := by rw [List.append_assoc]
      have hl2 : (pre ++ units16 r).length = pre.length + 4 := by rw [hu]; simp
      rw [e, ← hl2, ih (pre ++ units16 r) (acc ++ [r]) f hr.2 (by omega), List.append_assoc]
      rfl
theorem valid_enc : ∀ (f : Nat) (rs : List Int), okRs rs → Lib.validGoD f (enc rs) = true := by
  intro f
  induction f with
  | zero => intro rs _; rfl
  | succ f ih =>
    intro rs h
    rcases rs with _ | ⟨r, rs⟩
    · rw [enc_nil, Lib.validGoD, if_pos rfl]
    · have hr := okRs_cons h
      rw [Lib.validGoD, enc_cons, if_neg (by simp [rune_ne]), dec_enc hr.1]
      simp only
      rw [if_neg (rune_valid hr.1), List.drop_left]
      exact ih rs hr.2
theorem back_text (rs : List Int) (a1 : Bool) (ok : okRs rs) (hz : (enc rs).length ≤ 1000) (h13 : ¬ 13 ∈ enc rs) (hm' : ¬ (enc rs).take 3 = [239, 187, 191]) :
    ∃ l, xchar_Encode.f ⟨(enc rs).toArray⟩ a1 = some (l, 0) ∧ xchar_Decode.f l = some (⟨(enc rs).toArray⟩, 0, 0) := by
  obtain ⟨a0, e⟩ : ∃ a0 : ByteArray, a0.data.toList = enc rs := ⟨⟨(enc rs).toArray⟩, mk_list _⟩
  have hA : (⟨(enc rs).toArray⟩ : ByteArray) = a0 := by apply ba_ext; rw [mk_list, e]
  have hsl := size_len a0
  have hv : Lib.validD a0.data.toList = true := by rw [e]; exact valid_enc _ rs ok
  rw [hA]
  unfold xchar_Encode.f
  rw [if_pos (by rw [← hsl, e]; omega), if_neg (by rw [hv]; simp), if_neg (by rw [← hsl, e]; omega)]
  cases a1
  · rw [if_pos rfl]
    refine ⟨_, rfl, ?_⟩
    have hb : bytesOf a0 = asInts (enc rs) := by rw [← hA]; rfl
    rw [hb, decode_x, dec_text ok (by omega) h13, if_neg hm', hA]
  · rw [if_neg (by simp)]
    refine ⟨_, rfl, ?_⟩
    have hw : wideL a0.size a0.data.toList = rs.flatMap units16 := by
      rw [e]
      exact wideL_enc rs _ ok (by have := enc_len rs; rw [← hsl, e]; omega)
    rw [hw]
    obtain ⟨b, hb⟩ := of_bytes ([254, 255] ++ rs.flatMap units16) (by
      intro x hx
      rcases List.mem_append.1 hx with h | h
      · simp only [List.mem_cons, List.not_mem_nil, or_false] at h
        rcases h with rfl | rfl <;> omega
      · obtain ⟨r, hr, h2⟩ := List.mem_flatMap.1 h
        exact units_bytes (ok r hr) x h2)
    have hul : ∀ rs : List Int, rs.length ≤ (rs.flatMap units16).length ∧ (rs.flatMap units16).length ≤ 4 * rs.length := by
      intro rs
      induction rs with
      | nil => simp
      | cons r rs ih =>
        rw [List.flatMap_cons, List.length_append, List.length_cons]
        have : 1 ≤ (units16 r).length ∧ (units16 r).length ≤ 4 := by unfold units16; split <;> simp
        omega
    have hu := hul rs
    have hlen : rs.length ≤ (enc rs).length := enc_len rs
    have hbl : b.length = ([254, 255] ++ rs.flatMap units16).length := by rw [hb, asInts_length]
    have ht2 : b.take 2 = [254, 255] := by
      apply asInts_inj
      have : asInts (b.take 2) = (asInts b).take 2 := by simp [asInts, List.map_take]
      rw [this, ← hb]
      rfl
    have hl2 : ([254, 255] : List Int).length = 2 := rfl
    rw [List.length_append, hl2] at hbl
    rw [hb, decode_x]
    unfold decD
    rw [if_neg (by omega), if_pos ht2, ← hb]
    have hg := wideGo_units rs [254, 255] [] (b.length + 4) ok (by rw [hbl]; omega)
    rw [hl2] at hg
    rw [hg]
    show some ((⟨(endsL (Print.encR ([] ++ rs))).toArray⟩ : ByteArray), (0 : Int), (0 : Int)) = _
    rw [List.nil_append, encR_enc, ends_id _ h13, hA]
end Go.Proofs.YthedigbdkjcpfaaGreatDoor.BackT
