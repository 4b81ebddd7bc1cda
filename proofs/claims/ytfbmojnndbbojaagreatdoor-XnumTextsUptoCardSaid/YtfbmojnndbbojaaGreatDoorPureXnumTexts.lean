/- XnumTexts, without Go and memory. -/
import Derived.Test.YtfbmojnndbbojaaGreatDoorPrintf9
import Derived.Test.YtfbmojnndbbojaaGreatDoorPrintf23
import Derived.Test.YtfbmojnndbbojaaGreatDoorPrintf50
import Derived.Test.YtfbmojnndbbojaaGreatDoorPrintxnumparse
import Derived.Test.YtfbmojnndbbojaaGreatDoorPrintf81
import Derived.Test.YtfbmojnndbbojaaGreatDoorPrintf45
import Derived.Test.YtfbmojnndbbojaaGreatDoorNumV
import Derived.Test.YtfbmojnndbbojaaGreatDoorNumLive
namespace Go.Proofs.YtfbmojnndbbojaaGreatDoor.Pure
open Go.RowKit Go.Proofs.YtfbmojnndbbojaaGreatDoorW.PrintWords Go.Proofs.YtfbmojnndbbojaaGreatDoor.Plain Go.Proofs.YtfbmojnndbbojaaGreatDoor.Print Go.Proofs.YtfbmojnndbbojaaGreatDoor.NumO Go.Proofs.YtfbmojnndbbojaaGreatDoor.NumA Go.Proofs.YtfbmojnndbbojaaGreatDoor.NumD Go.Proofs.YtfbmojnndbbojaaGreatDoor.NumT Go.Proofs.YtfbmojnndbbojaaGreatDoor.NumU Go.Proofs.YtfbmojnndbbojaaGreatDoor.NumV Go.Proofs.YtfbmojnndbbojaaGreatDoor.NumLive
open Go.Lib (decDigits trimRightS trimS)
set_option linter.unusedSimpArgs false
theorem up_f {α : Type} {f : Nat → Option α} (hm : ∀ k, LeO (f k) (f (k + 1))) {k : Nat} {r : α} (h : f k = some r) : ∀ m, f (k + m) = some r
  | 0 => h
  | m + 1 => hm (k + m) r (up_f hm h m)
theorem size_t {v : Int} (h : -1000000000000000000 ≤ v ∧ v ≤ 1000000000000000000) : stencilref02_size.f 0 v = some (v.natAbs : Int) := by
  unfold stencilref02_size.f
  by_cases h1 : v < 0
  · rw [if_pos h1, w64 (x := v + 1) (by omega) (by omega), w64 (by omega) (by omega), wu, wu]
    congr 1
    omega
  · rw [if_neg h1, wu]
    congr 1
    omega
theorem format_t (u : Int) (h : 0 ≤ u) (h2 : u < 18446744073709551616) : ∃ l, strconv_FormatUint.f u 10 = some (B l) ∧ l.length ≤ 20 ∧ 1 ≤ l.length := by
  obtain ⟨n, rfl⟩ : ∃ n : Nat, u = n := ⟨u.toNat, by omega⟩
  obtain ⟨c, l, hc⟩ := dec_ne n
  exact ⟨decDigits n, format_f n (by omega), dec_len 19 n (by omega), by rw [hc]; simp⟩
theorem wr (x : Int) : 0 ≤ IntKind.u64.wrap x ∧ IntKind.u64.wrap x < 18446744073709551616 := by rw [wu]; omega
theorem text_t (a v : Int) : ∃ x, xnum_Text.f a v = some x := by
  unfold xnum_Text.f
  by_cases a2 : a = 2
  · rw [if_pos a2]; exact ⟨_, rfl⟩
  · rw [if_neg a2]
    by_cases a3 : a = 3
    · rw [if_pos a3]; exact ⟨_, rfl⟩
    · rw [if_neg a3]
      by_cases a0 : a = 0
      · rw [if_pos a0]
        obtain ⟨n, b, hp⟩ : ∃ n b, xnum_parts.f a v = some (n, b) := by unfold xnum_parts.f; split <;> exact ⟨_, _, rfl⟩
        obtain ⟨l, hl, l1, l2⟩ := format_t (IntKind.u64.wrap (Int.tdiv n 1000000)) (wr _).1 (wr _).2
        obtain ⟨m, hm, m1, m2⟩ := format_t (IntKind.u64.wrap (1000000 + Int.tmod n 1000000)) (wr _).1 (wr _).2
        have h6 : xnum_six.f n = some (B ((m.drop 1).take (m.length - 1))) := by
          unfold xnum_six.f
          rw [hm, obind, size_B, if_pos (by omega), ext_B]
        have ht := trimr_f ((m.drop 1).take (m.length - 1)) (by simp; omega)
        have hf : (trimRightS ((m.drop 1).take (m.length - 1)) [48]).length ≤ 20 := by
          obtain ⟨q, hq⟩ := trim_back ((m.drop 1).take (m.length - 1))
          have := congrArg List.length hq
          rw [List.length_append] at this
          simp at this ⊢
          omega
        rw [hp, obind]
        simp only
        rw [hl, obind, h6, obind, ht, obind]
        generalize trimRightS ((m.drop 1).take (m.length - 1)) [48] = fr at *
        rw [size_mk, size_B]
        split
        · split
          · rw [if_pos (by omega)]; exact ⟨_, rfl⟩
          · exact ⟨_, rfl⟩
        · rw [if_pos (by omega), if_pos (by omega)]
          split
          · rw [if_pos (by omega)]; exact ⟨_, rfl⟩
          · exact ⟨_, rfl⟩
      · rw [if_neg a0]; exact ⟨_, rfl⟩
theorem XnumTexts (s : ByteArray) (a v : Int) (hs : s.size ≤ 1048576) (_ : (Lit.int .i64 a).wf = true) (_ : (Lit.int .i64 v).wf = true) :
    ∃ k, stencillaw02_XnumTexts.f k s a v = some true := by
  have es : s = B s.data.toList := bytes_eq rfl
  have hl : s.data.toList.length ≤ 1073741824 := by
    have : s.data.toList.length = s.size := by rw [Array.length_toList]; rfl
    omega
  obtain ⟨kp, hk⟩ := ref_says s.data.toList hl
  have hp := prog_says s.data.toList hl
  rw [← es] at hk hp
  refine ⟨kp + 100, ?_⟩
  have lv : stencillaw02_live.f (kp + 100) = some true := by
    have := up_f (fun k => stencillaw02_live.mono k) live_f (kp + 36)
    rw [show kp + 100 = liveK + (kp + 36) by unfold liveK; omega]
    exact this
  have hr := up_f (fun k => stencilref02_Parse.mono s k) hk 100
  obtain ⟨x, hx⟩ := text_t a v
  unfold stencillaw02_XnumTexts.f
  rw [hx, obind, lv, obind, if_pos rfl, hp, obind, hr, obind, Right_f, obind]
  simp only [beq_self_eq_true, Bool.and_self, if_true]
  by_cases h : RightP a v
  · rw [if_pos (decide_eq_true h)]
    have hv := right_v h
    have hq : stencilref02_Text.f (kp + 100) a v = some x := by
      by_cases ha : a = 0
      · subst ha
        rw [rtext_f hv (kp + 100) (by omega) (size_t hv), ← hx, text_f hv]
      · have hv0 := right_0 h ha
        subst hv0
        have ha2 : a = 1 ∨ a = 2 ∨ a = 3 := by have := right_a h; omega
        rcases ha2 with rfl | rfl | rfl
        · rw [← hx]; unfold stencilref02_Text.f xnum_Text.f; rfl
        · rw [← hx]; unfold stencilref02_Text.f xnum_Text.f; rfl
        · rw [← hx]; unfold stencilref02_Text.f xnum_Text.f; rfl
    rw [hq, obind]
    simp
  · rw [if_neg (by simpa using h)]
end Go.Proofs.YtfbmojnndbbojaaGreatDoor.Pure
