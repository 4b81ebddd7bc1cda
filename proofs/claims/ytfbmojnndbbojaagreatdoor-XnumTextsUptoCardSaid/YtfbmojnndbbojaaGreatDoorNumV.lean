/- The document's reading of numbers, without Go and memory. -/
import Derived.Test.YtfbmojnndbbojaaGreatDoorPrintf45
import Derived.Test.YtfbmojnndbbojaaGreatDoorPrintf23
import Derived.Test.YtfbmojnndbbojaaGreatDoorPrintxnumparse
import Derived.Test.YtfbmojnndbbojaaGreatDoorPrintf62
import Derived.Test.YtfbmojnndbbojaaGreatDoorNumU
namespace Go.Proofs.YtfbmojnndbbojaaGreatDoor.NumV
open Go.RowKit Go.Proofs.YtfbmojnndbbojaaGreatDoorW.PrintWords Go.Proofs.YtfbmojnndbbojaaGreatDoor.Plain Go.Proofs.YtfbmojnndbbojaaGreatDoor.Print Go.Proofs.YtfbmojnndbbojaaGreatDoor.NumO Go.Proofs.YtfbmojnndbbojaaGreatDoor.NumA Go.Proofs.YtfbmojnndbbojaaGreatDoor.NumD Go.Proofs.YtfbmojnndbbojaaGreatDoor.NumT Go.Proofs.YtfbmojnndbbojaaGreatDoor.NumU
open Go.Lib (decDigits trimRightS trimS)
set_option linter.unusedVariables false
/-- by size and sign -/
def finS (n : Int) (b : Bool) : Int × Int := if n > 1000000000000000000 then (if b then (3, 0) else (2, 0)) else (0, if b then -n else n)
theorem finS_big {n : Nat} (h : n > 1000000000000000000) (b : Bool) : finS (n : Int) b = if b then (3, 0) else (2, 0) := by
  unfold finS
  rw [if_pos (by omega)]
theorem made_f (k : Nat) {n : Int} (b : Bool) (h : 0 ≤ n) : stencilref02_made.f (k + 1) n b false = some (finS n b) := by
  unfold stencilref02_made.f finS
  rw [if_neg (by decide)]
  by_cases h1 : n > 1000000000000000000
  · rw [decide_eq_true h1, if_pos h1]
    cases b <;> rfl
  · rw [decide_eq_false h1, if_neg h1]
    have e : wrap64 n = n := w64 (by omega) (by omega)
    have e2 : wrap64 (-n) = -n := w64 (by omega) (by omega)
    cases b
    · simp [stencilref02_made.j0, stencilref02_Fin.f, e]
    · simp [stencilref02_made.j0, stencilref02_Fin.f, e, e2]
theorem inf_big {n : Nat} (h : n > 1000000000000000000) (b : Bool) : ((stencilref02_Inf.f b).bind fun bt => some (bt.1, bt.2)) = some (finS (n : Int) b) := by
  rw [finS_big h]
  cases b <;> rfl
abbrev noughts : List UInt8 := [48, 48, 48, 48, 48, 48]
theorem pad_f (s : Bool) : ∀ (t pl n : Nat), pl + t = 6 → n ≤ 1000000000000000000 → ∃ k, stencilref02_Parse.l3 k s n pl = some (finS (valD n (List.replicate t 48) : Nat) s)
  | 0, pl, n, hp, hn => by
    refine ⟨2, ?_⟩
    rw [stencilref02_Parse.l3, if_neg (by omega), made_f 0 s (Int.natCast_nonneg n)]
    rfl
  | t + 1, pl, n, hp, hn => by
    have hv : valD n (List.replicate (t + 1) 48) = valD (n * 10) (List.replicate t 48) := by
      rw [List.replicate_succ, valD_cons]
      rfl
    by_cases h : n > 100000000000000000
    · refine ⟨1, ?_⟩
      have hb : valD n (List.replicate (t + 1) 48) > 1000000000000000000 := by
        have := valD_ge (List.replicate t 48) (n * 10)
        omega
      rw [stencilref02_Parse.l3, if_pos (by omega), if_pos (by omega), inf_big hb]
    · obtain ⟨k, hk⟩ := pad_f s t (pl + 1) (n * 10) (by omega) (by omega)
      refine ⟨k + 1, ?_⟩
      have e1 : IntKind.u64.wrap ((n : Int) * 10) = ((n * 10 : Nat) : Int) := by rw [wu]; omega
      have e2 : wrap64 ((pl : Int) + 1) = ((pl + 1 : Nat) : Int) := by rw [w64 (by omega) (by omega)]; omega
      rw [stencilref02_Parse.l3, if_pos (by omega), if_neg (by omega), e1, e2, hk, hv]
/-- what the loop knows of the number so far -/
def Inv (V n : Nat) (g : Bool) : Prop := (g = false → n = V ∧ V ≤ 1000000000000000000) ∧ (g = true → V > 1000000000000000000)
theorem Inv.step {V n d : Nat} (h : Inv V n false) (hd : d < 10) : Inv (V * 10 + d) (n * 10 + d) (decide (((n * 10 + d : Nat) : Int) > 1000000000000000000)) ∧ n * 10 + d < 18446744073709551616 := by
  obtain ⟨h1, h2⟩ := h.1 rfl
  subst h1
  refine ⟨⟨fun hf => ?_, fun ht => ?_⟩, by omega⟩
  · have := of_decide_eq_false hf
    exact ⟨rfl, by omega⟩
  · have := of_decide_eq_true ht
    omega
theorem Inv.great {V n d : Nat} (h : Inv V n true) : Inv (V * 10 + d) n true := ⟨fun hf => (by cases hf), fun _ => (by have := h.2 rfl; omega)⟩
theorem take_noughts (m : Nat) (h : m ≤ 6) : noughts.take m = List.replicate m 48 := by
  have hm : m = 0 ∨ m = 1 ∨ m = 2 ∨ m = 3 ∨ m = 4 ∨ m = 5 ∨ m = 6 := by omega
  rcases hm with rfl | rfl | rfl | rfl | rfl | rfl | rfl <;> rfl
theorem pad_all (s : Bool) (n pl : Nat) (hn : n ≤ 1000000000000000000) : ∃ k, stencilref02_Parse.l3 k s n pl = some (finS (valD n (noughts.take (6 - pl)) : Nat) s) := by
  by_cases h : pl ≤ 6
  · obtain ⟨k, hk⟩ := pad_f s (6 - pl) pl n (by omega) hn
    exact ⟨k, by rw [hk, take_noughts _ (by omega)]⟩
  · refine ⟨2, ?_⟩
    rw [stencilref02_Parse.l3, if_neg (by omega), made_f 0 s (Int.natCast_nonneg n), show 6 - pl = 0 by omega]
    rfl
theorem digit_b {c : UInt8} (h : isD c) : ∃ d, d < 10 ∧ c.toNat - 48 = d ∧ ((c.toNat : Int) - 48) % 256 = (d : Int) ∧ ¬ (c.toNat : Int) = 46 ∧ ¬ (c.toNat : Int) < 48 ∧ ¬ (c.toNat : Int) > 57 := by
  unfold isD at h
  exact ⟨c.toNat - 48, by omega, rfl, by omega, by omega, by omega, by omega⟩
theorem next_n {n d : Nat} (h : n * 10 + d < 18446744073709551616) : IntKind.u64.wrap (IntKind.u64.wrap ((n : Int) * 10) + (d : Int)) = ((n * 10 + d : Nat) : Int) := by rw [wu, wu]; omega
theorem phaseB (s : Bool) (u : List UInt8) (hu : u.length ≤ 1073741824) : ∀ (p : List UInt8) (i : Nat), u.drop i = p → i + p.length = u.length → ∀ (V n pl : Nat) (sm g : Bool), Inv V n g → pl ≤ i →
    ((∀ c ∈ p, isD c) → (sm = true ∨ p ≠ []) → ∃ k, stencilref02_Parse.l2 k (B u) s n pl true sm g i = some (finS (valD V ((p ++ noughts).take (6 - pl)) : Nat) s))
    ∧ ((¬ ∀ c ∈ p, isD c) ∨ (sm = false ∧ p = []) → ∃ k, stencilref02_Parse.l2 k (B u) s n pl true sm g i = some (1, 0))
  | [], i, hd, hi, V, n, pl, sm, g, hI, hpl => by
    have hi2 : i = u.length := by simpa using hi
    refine ⟨fun _ hs => ?_, fun hs => ?_⟩
    · have hsm : sm = true := by rcases hs with h | h; exact h; exact absurd rfl h
      subst hsm
      cases g with
      | true =>
        refine ⟨1, ?_⟩
        have hb : valD V (([] ++ noughts).take (6 - pl)) > 1000000000000000000 := Nat.lt_of_lt_of_le (hI.2 rfl) (valD_ge _ _)
        rw [stencilref02_Parse.l2, size_B, if_neg (by omega), if_pos rfl, if_pos rfl, inf_big hb]
      | false =>
        obtain ⟨h1, h2⟩ := hI.1 rfl
        subst h1
        obtain ⟨k, hk⟩ := pad_all s n pl h2
        refine ⟨k + 1, ?_⟩
        rw [stencilref02_Parse.l2, size_B, if_neg (by omega), if_pos rfl, if_neg (by decide), hk]
        rfl
    · have hsm : sm = false := by rcases hs with h | h; exact absurd (fun c hc => by cases hc) h; exact h.1
      subst hsm
      refine ⟨1, ?_⟩
      rw [stencilref02_Parse.l2, size_B, if_neg (by omega), if_neg (by decide)]
      rfl
  | c :: p, i, hd, hi, V, n, pl, sm, g, hI, hpl => by
    have hlt : i < u.length := by simp at hi; omega
    have hc : u[i] = c := by
      have := List.drop_eq_getElem_cons hlt
      rw [hd] at this
      exact (List.cons.inj this).1.symm
    have hd2 : u.drop (i + 1) = p := by
      have := List.drop_eq_getElem_cons hlt
      rw [hd] at this
      exact (List.cons.inj this).2.symm
    have hi2 : i + 1 + p.length = u.length := by simp at hi; omega
    have eb : bt (B u) (i : Int) = (c.toNat : Int) := by rw [bt_B u i hlt, hc]
    have e1 : wrap64 ((i : Int) + 1) = ((i + 1 : Nat) : Int) := by rw [w64 (by omega) (by omega)]; omega
    have e2 : wrap64 ((pl : Int) + 1) = ((pl + 1 : Nat) : Int) := by rw [w64 (by omega) (by omega)]; omega
    have c1 : (i : Int) < (u.length : Int) := by omega
    have c2 : (0 : Int) ≤ (i : Int) := Int.natCast_nonneg i
    have ent : ∀ k, stencilref02_Parse.l2 (k + 2) (B u) s n pl true sm g i = stencilref02_Parse.j7 (k + 1) (B u) s n pl true sm g i false := by
      intro k
      rw [stencilref02_Parse.l2, size_B, if_pos c1, if_pos c2, eb]
      split <;> rfl
    by_cases hD : isD c
    · obtain ⟨d, d1, d2, d3, d4, d5, d6⟩ := digit_b hD
      have st : ∀ k, stencilref02_Parse.j7 (k + 1) (B u) s n pl true sm g i false = if (((pl + 1 : Nat) : Int)) ≤ 6 then (if g = true then stencilref02_Parse.l2 k (B u) s n ((pl + 1 : Nat) : Int) true true g ((i + 1 : Nat) : Int) else stencilref02_Parse.l2 k (B u) s (IntKind.u64.wrap (IntKind.u64.wrap ((n : Int) * 10) + (d : Int))) ((pl + 1 : Nat) : Int) true true (decide (IntKind.u64.wrap (IntKind.u64.wrap ((n : Int) * 10) + (d : Int)) > 1000000000000000000)) ((i + 1 : Nat) : Int)) else stencilref02_Parse.l2 k (B u) s n ((pl + 1 : Nat) : Int) true true g ((i + 1 : Nat) : Int) := by
        intro k
        rw [stencilref02_Parse.j7, if_neg (by decide), if_pos c2, size_B, if_pos c1, eb, if_neg d5, if_neg d6, if_pos rfl, e2, e1, d3]
      by_cases h6 : pl + 1 ≤ 6
      · have tk : ((c :: p) ++ noughts).take (6 - pl) = c :: (p ++ noughts).take (6 - (pl + 1)) := by
          rw [show 6 - pl = (6 - (pl + 1)) + 1 by omega]
          rfl
        have hv : valD V (((c :: p) ++ noughts).take (6 - pl)) = valD (V * 10 + d) ((p ++ noughts).take (6 - (pl + 1))) := by rw [tk, valD_cons, d2]
        cases g with
        | true =>
          obtain ⟨A, C⟩ := phaseB s u hu p (i + 1) hd2 hi2 (V * 10 + d) n (pl + 1) true true hI.great (by omega)
          refine ⟨fun hall _ => ?_, fun hs => ?_⟩
          · obtain ⟨k, hk⟩ := A (fun x hx => hall x (by simp [hx])) (Or.inl rfl)
            exact ⟨k + 2, by rw [ent, st, if_pos (by omega), if_pos rfl, hk, hv]⟩
          · obtain ⟨k, hk⟩ := C (Or.inl fun hall => by
              rcases hs with h | h
              · exact h fun x hx => by rcases List.mem_cons.1 hx with rfl | h2; exact hD; exact hall x h2
              · cases h.2)
            exact ⟨k + 2, by rw [ent, st, if_pos (by omega), if_pos rfl, hk]⟩
        | false =>
          obtain ⟨I2, I3⟩ := hI.step d1
          obtain ⟨A, C⟩ := phaseB s u hu p (i + 1) hd2 hi2 (V * 10 + d) (n * 10 + d) (pl + 1) true _ I2 (by omega)
          refine ⟨fun hall _ => ?_, fun hs => ?_⟩
          · obtain ⟨k, hk⟩ := A (fun x hx => hall x (by simp [hx])) (Or.inl rfl)
            exact ⟨k + 2, by rw [ent, st, if_pos (by omega), if_neg (by decide), next_n I3, hk, hv]⟩
          · obtain ⟨k, hk⟩ := C (Or.inl fun hall => by
              rcases hs with h | h
              · exact h fun x hx => by rcases List.mem_cons.1 hx with rfl | h2; exact hD; exact hall x h2
              · cases h.2)
            exact ⟨k + 2, by rw [ent, st, if_pos (by omega), if_neg (by decide), next_n I3, hk]⟩
      · have hv : valD V (((c :: p) ++ noughts).take (6 - pl)) = valD V ((p ++ noughts).take (6 - (pl + 1))) := by
          rw [show 6 - pl = 0 by omega, show 6 - (pl + 1) = 0 by omega]
          rfl
        obtain ⟨A, C⟩ := phaseB s u hu p (i + 1) hd2 hi2 V n (pl + 1) true g hI (by omega)
        refine ⟨fun hall _ => ?_, fun hs => ?_⟩
        · obtain ⟨k, hk⟩ := A (fun x hx => hall x (by simp [hx])) (Or.inl rfl)
          exact ⟨k + 2, by rw [ent, st, if_neg (by omega), hk, hv]⟩
        · obtain ⟨k, hk⟩ := C (Or.inl fun hall => by
            rcases hs with h | h
            · exact h fun x hx => by rcases List.mem_cons.1 hx with rfl | h2; exact hD; exact hall x h2
            · cases h.2)
          exact ⟨k + 2, by rw [ent, st, if_neg (by omega), hk]⟩
    · refine ⟨fun hall _ => absurd (hall c (by simp)) hD, fun _ => ⟨2, ?_⟩⟩
      rw [ent, stencilref02_Parse.j7, if_neg (by decide), if_pos c2, size_B, if_pos c1, eb]
      unfold isD at hD
      by_cases h48 : (c.toNat : Int) < 48
      · rw [if_pos h48]; rfl
      · rw [if_neg h48, if_pos (by omega)]; rfl
theorem point_or : ∀ l : List UInt8, (∀ c ∈ l, c ≠ 46) ∨ ∃ a b, l = a ++ 46 :: b ∧ ∀ c ∈ a, c ≠ 46
  | [] => Or.inl (by simp)
  | c :: l => by
    by_cases h : c = 46
    · exact Or.inr ⟨[], l, by rw [h]; rfl, by simp⟩
    · rcases point_or l with h1 | ⟨a, b, h1, h2⟩
      · exact Or.inl fun x hx => by rcases List.mem_cons.1 hx with rfl | hx2; exact h; exact h1 x hx2
      · exact Or.inr ⟨c :: a, b, by rw [h1]; rfl, fun x hx => by rcases List.mem_cons.1 hx with rfl | hx2; exact h; exact h2 x hx2⟩
theorem cut_cons {c : UInt8} (h : c ≠ 46) (l : List UInt8) : (Lib.cut (c :: l) [46]).1 = c :: (Lib.cut l [46]).1 ∧ (Lib.cut (c :: l) [46]).2.1 = (Lib.cut l [46]).2.1 := by
  rcases point_or l with h1 | ⟨a, b, h1, h2⟩
  · rw [cut_none h1, cut_none (l := c :: l) (fun x hx => by rcases List.mem_cons.1 hx with rfl | hx2; exact h; exact h1 x hx2)]
    exact ⟨rfl, rfl⟩
  · rw [h1, cut_at b h2, show c :: (a ++ 46 :: b) = (c :: a) ++ 46 :: b from rfl, cut_at b (fun x hx => by rcases List.mem_cons.1 hx with rfl | hx2; exact h; exact h2 x hx2)]
    exact ⟨rfl, rfl⟩
theorem cut_point (l : List UInt8) : Lib.cut (46 :: l) [46] = ([], l, true) := cut_at (l := []) l (by simp)
theorem phaseA (s : Bool) (u : List UInt8) (hu : u.length ≤ 1073741824) : ∀ (p : List UInt8) (i : Nat), u.drop i = p → i + p.length = u.length → ∀ (V n : Nat) (sm g : Bool), Inv V n g →
    ((∀ c ∈ (Lib.cut p [46]).1 ++ (Lib.cut p [46]).2.1, isD c) → (sm = true ∨ (Lib.cut p [46]).1 ++ (Lib.cut p [46]).2.1 ≠ []) → ∃ k, stencilref02_Parse.l2 k (B u) s n (0 : Nat) false sm g i = some (finS (valD (valD V (Lib.cut p [46]).1) (((Lib.cut p [46]).2.1 ++ noughts).take 6) : Nat) s))
    ∧ ((¬ ∀ c ∈ (Lib.cut p [46]).1 ++ (Lib.cut p [46]).2.1, isD c) ∨ (sm = false ∧ (Lib.cut p [46]).1 ++ (Lib.cut p [46]).2.1 = []) → ∃ k, stencilref02_Parse.l2 k (B u) s n (0 : Nat) false sm g i = some (1, 0))
  | [], i, hd, hi, V, n, sm, g, hI => by
    have hi2 : i = u.length := by simpa using hi
    have ec : Lib.cut [] [46] = ([], [], false) := cut_none (by simp)
    rw [ec]
    refine ⟨fun _ hs => ?_, fun hs => ?_⟩
    · have hsm : sm = true := by rcases hs with h | h; exact h; exact absurd rfl h
      subst hsm
      cases g with
      | true =>
        refine ⟨1, ?_⟩
        have hb : valD (valD V []) (([] ++ noughts).take 6) > 1000000000000000000 := Nat.lt_of_lt_of_le (hI.2 rfl) (valD_ge _ _)
        rw [stencilref02_Parse.l2, size_B, if_neg (by omega), if_pos rfl, if_pos rfl, inf_big hb]
      | false =>
        obtain ⟨h1, h2⟩ := hI.1 rfl
        subst h1
        obtain ⟨k, hk⟩ := pad_all s n 0 h2
        refine ⟨k + 1, ?_⟩
        rw [stencilref02_Parse.l2, size_B, if_neg (by omega), if_pos rfl, if_neg (by decide), hk]
        rfl
    · have hsm : sm = false := by rcases hs with h | h; exact absurd (fun c hc => by cases hc) h; exact h.1
      subst hsm
      refine ⟨1, ?_⟩
      rw [stencilref02_Parse.l2, size_B, if_neg (by omega), if_neg (by decide)]
      rfl
  | c :: p, i, hd, hi, V, n, sm, g, hI => by
    have hlt : i < u.length := by simp at hi; omega
    have hc : u[i] = c := by
      have := List.drop_eq_getElem_cons hlt
      rw [hd] at this
      exact (List.cons.inj this).1.symm
    have hd2 : u.drop (i + 1) = p := by
      have := List.drop_eq_getElem_cons hlt
      rw [hd] at this
      exact (List.cons.inj this).2.symm
    have hi2 : i + 1 + p.length = u.length := by simp at hi; omega
    have eb : bt (B u) (i : Int) = (c.toNat : Int) := by rw [bt_B u i hlt, hc]
    have e1 : wrap64 ((i : Int) + 1) = ((i + 1 : Nat) : Int) := by rw [w64 (by omega) (by omega)]; omega
    have c1 : (i : Int) < (u.length : Int) := by omega
    have c2 : (0 : Int) ≤ (i : Int) := Int.natCast_nonneg i
    by_cases h46 : c = 46
    · subst h46
      have n46 : (((46 : UInt8).toNat : Nat) : Int) = 46 := rfl
      have ent : ∀ k, stencilref02_Parse.l2 (k + 2) (B u) s n (0 : Nat) false sm g i = stencilref02_Parse.l2 k (B u) s n (0 : Nat) true sm g ((i + 1 : Nat) : Int) := by
        intro k
        rw [stencilref02_Parse.l2, size_B, if_pos c1, if_pos c2, eb, if_pos n46, stencilref02_Parse.j7, if_pos (show (!false) = true from rfl), e1]
      rw [cut_point p]
      obtain ⟨A, C⟩ := phaseB s u hu p (i + 1) hd2 hi2 V n 0 sm g hI (by omega)
      refine ⟨fun hall hs => ?_, fun hs => ?_⟩
      · obtain ⟨k, hk⟩ := A (by simpa using hall) (by simpa using hs)
        exact ⟨k + 2, by rw [ent, hk]; rfl⟩
      · obtain ⟨k, hk⟩ := C (by simpa using hs)
        exact ⟨k + 2, by rw [ent, hk]⟩
    · obtain ⟨k1, k2⟩ := cut_cons h46 p
      rw [k1, k2]
      have ne46 : ¬ (c.toNat : Int) = 46 := by
        intro h
        have n46 : (46 : UInt8).toNat = 46 := rfl
        exact h46 (UInt8.toNat_inj.1 (by rw [n46]; omega))
      have ent : ∀ k, stencilref02_Parse.l2 (k + 2) (B u) s n (0 : Nat) false sm g i = stencilref02_Parse.j7 (k + 1) (B u) s n (0 : Nat) false sm g i false := by
        intro k
        rw [stencilref02_Parse.l2, size_B, if_pos c1, if_pos c2, eb, if_neg ne46]
      have z6 : (((0 : Nat) : Int)) ≤ 6 := by decide
      by_cases hD : isD c
      · obtain ⟨d, d1, d2, d3, d4, d5, d6⟩ := digit_b hD
        have st : ∀ k, stencilref02_Parse.j7 (k + 1) (B u) s n (0 : Nat) false sm g i false = if g = true then stencilref02_Parse.l2 k (B u) s n (0 : Nat) false true g ((i + 1 : Nat) : Int) else stencilref02_Parse.l2 k (B u) s (IntKind.u64.wrap (IntKind.u64.wrap ((n : Int) * 10) + (d : Int))) (0 : Nat) false true (decide (IntKind.u64.wrap (IntKind.u64.wrap ((n : Int) * 10) + (d : Int)) > 1000000000000000000)) ((i + 1 : Nat) : Int) := by
          intro k
          rw [stencilref02_Parse.j7, if_neg (by decide), if_pos c2, size_B, if_pos c1, eb, if_neg d5, if_neg d6, if_neg (by decide), if_pos z6, e1, d3]
        have hv : valD V (c :: (Lib.cut p [46]).1) = valD (V * 10 + d) (Lib.cut p [46]).1 := by rw [valD_cons, d2]
        rw [hv]
        cases g with
        | true =>
          obtain ⟨A, C⟩ := phaseA s u hu p (i + 1) hd2 hi2 (V * 10 + d) n true true hI.great
          refine ⟨fun hall _ => ?_, fun hs => ?_⟩
          · obtain ⟨k, hk⟩ := A (fun x hx => hall x (by rw [List.cons_append]; exact List.mem_cons_of_mem _ hx)) (Or.inl rfl)
            exact ⟨k + 2, by rw [ent, st, if_pos rfl, hk]⟩
          · obtain ⟨k, hk⟩ := C (Or.inl fun hall => by
              rcases hs with h | h
              · exact h fun x hx => by rw [List.cons_append] at hx; rcases List.mem_cons.1 hx with rfl | h2; exact hD; exact hall x h2
              · cases h.2)
            exact ⟨k + 2, by rw [ent, st, if_pos rfl, hk]⟩
        | false =>
          obtain ⟨I2, I3⟩ := hI.step d1
          obtain ⟨A, C⟩ := phaseA s u hu p (i + 1) hd2 hi2 (V * 10 + d) (n * 10 + d) true _ I2
          refine ⟨fun hall _ => ?_, fun hs => ?_⟩
          · obtain ⟨k, hk⟩ := A (fun x hx => hall x (by rw [List.cons_append]; exact List.mem_cons_of_mem _ hx)) (Or.inl rfl)
            exact ⟨k + 2, by rw [ent, st, if_neg (by decide), next_n I3, hk]⟩
          · obtain ⟨k, hk⟩ := C (Or.inl fun hall => by
              rcases hs with h | h
              · exact h fun x hx => by rw [List.cons_append] at hx; rcases List.mem_cons.1 hx with rfl | h2; exact hD; exact hall x h2
              · cases h.2)
            exact ⟨k + 2, by rw [ent, st, if_neg (by decide), next_n I3, hk]⟩
      · refine ⟨fun hall _ => absurd (hall c (by simp)) hD, fun _ => ⟨2, ?_⟩⟩
        rw [ent, stencilref02_Parse.j7, if_neg (by decide), if_pos c2, size_B, if_pos c1, eb]
        unfold isD at hD
        by_cases h48 : (c.toNat : Int) < 48
        · rw [if_pos h48]; rfl
        · rw [if_neg h48, if_pos (by omega)]; rfl
abbrev blanks : List UInt8 := [9, 10, 13, 32]
theorem blank_f (c : UInt8) : stencilref02_blank.f (c.toNat : Int) = some (blanks.contains c) := by
  have key : ∀ n : Fin 256, stencilref02_blank.f (((UInt8.ofNat n.val).toNat : Nat) : Int) = some (blanks.contains (UInt8.ofNat n.val)) := by decide +kernel
  have := key ⟨c.toNat, c.toNat_lt⟩
  simpa using this
theorem j3_f (k : Nat) (t : List UInt8) : stencilref02_Parse.j3 (k + 3) (B t) = stencilref02_Parse.l2 k (B (Lib.trimPrefix t [45])) (Lib.hasPrefix t [45]) (0 : Nat) (0 : Nat) false false false (0 : Nat) := by
  cases t with
  | nil =>
    rw [stencilref02_Parse.j3, size_B, if_neg (by simp), stencilref02_Parse.j4, if_neg (by decide), stencilref02_Parse.j5]
    rfl
  | cons c t =>
    have eb : bt (B (c :: t)) 0 = (c.toNat : Int) := bt_B (c :: t) 0 (by simp)
    have c1 : (((c :: t).length : Nat) : Int) > 0 := by rw [List.length_cons]; omega
    have c2 : (0 : Int) < (((c :: t).length : Nat) : Int) := c1
    rw [stencilref02_Parse.j3, size_B, if_pos c1, if_pos c2, eb]
    by_cases h : c = 45
    · subst h
      have p1 : Lib.hasPrefix (45 :: t) [45] = true := by simp [Lib.hasPrefix, List.isPrefixOf]
      have p2 : Lib.trimPrefix (45 :: t) [45] = t := by unfold Lib.trimPrefix; rw [if_pos p1]; rfl
      have b1 : ((((45 : UInt8).toNat : Nat) : Int) == 45) = true := rfl
      rw [p1, p2, b1, stencilref02_Parse.j4, if_pos rfl, size_B, if_pos (by rw [List.length_cons]; omega), ext_B, stencilref02_Parse.j5]
      have e : ((45 :: t).drop 1).take ((45 :: t).length - 1) = t := by simp
      rw [e]
      rfl
    · have p1 : Lib.hasPrefix (c :: t) [45] = false := by simpa [Lib.hasPrefix, List.isPrefixOf] using Ne.symm h
      have p2 : Lib.trimPrefix (c :: t) [45] = c :: t := by unfold Lib.trimPrefix; rw [p1]; rfl
      have b1 : ((c.toNat : Int) == 45) = false := by
        have n45 : (45 : UInt8).toNat = 45 := rfl
        exact beq_eq_false_iff_ne.2 fun e => h (UInt8.toNat_inj.1 (by rw [n45]; omega))
      rw [p1, p2, b1, stencilref02_Parse.j4, if_neg (by decide), stencilref02_Parse.j5]
      rfl
theorem trimr_snoc2 (m : List UInt8) (c : UInt8) : trimRightS (m ++ [c]) blanks = if blanks.contains c = true then trimRightS m blanks else m ++ [c] := by
  unfold trimRightS
  rw [List.reverse_append, List.reverse_singleton, List.singleton_append, List.dropWhile_cons]
  by_cases h : blanks.contains c = true
  · rw [if_pos h, if_pos h]
  · rw [if_neg h, if_neg h]
    simp
theorem trail_f {r : Int × Int} : ∀ (n : Nat) (l : List UInt8), l.length = n → n ≤ 1073741824 → (∃ k, stencilref02_Parse.j3 k (B (trimRightS l blanks)) = some r) → ∃ k, stencilref02_Parse.l1 k (B l) = some r
  | 0, l, hl, h1, ⟨k, hk⟩ => by
    obtain rfl : l = [] := List.length_eq_zero_iff.1 hl
    refine ⟨k + 1, ?_⟩
    rw [stencilref02_Parse.l1, size_B, if_neg (by simp)]
    exact hk
  | n + 1, l, hl, h1, ⟨k, hk⟩ => by
    obtain ⟨m, c, rfl⟩ : ∃ m c, l = m ++ [c] := by
      have hne : l ≠ [] := by intro h; rw [h] at hl; simp at hl
      exact ⟨l.dropLast, l.getLast hne, (List.dropLast_concat_getLast hne).symm⟩
    have hm : m.length = n := by simpa using hl
    have e1 : wrap64 (((m ++ [c]).length : Int) - 1) = (m.length : Int) := by rw [hl, w64 (by omega) (by omega)]; omega
    have eb : bt (B (m ++ [c])) (m.length : Int) = (c.toNat : Int) := by
      rw [bt_B _ _ (by simp)]
      simp
    have ent : ∀ k, stencilref02_Parse.l1 (k + 1) (B (m ++ [c])) = if blanks.contains c = true then stencilref02_Parse.l1 k (B m) else stencilref02_Parse.j3 k (B (m ++ [c])) := by
      intro k
      rw [stencilref02_Parse.l1, size_B, e1, if_pos (by omega), if_pos (Int.natCast_nonneg _), if_pos (by omega), eb, blank_f, obind, if_pos (show (m.length : Int) ≤ ((m ++ [c]).length : Int) by omega), Int.toNat_natCast, ext_B]
      have e2 : ((m ++ [c]).drop 0).take (m.length - 0) = m := by simp
      rw [e2]
    rw [trimr_snoc2] at hk
    by_cases hc : blanks.contains c = true
    · rw [if_pos hc] at hk
      obtain ⟨k2, hk2⟩ := trail_f n m hm (by omega) ⟨k, hk⟩
      exact ⟨k2 + 1, by rw [ent, if_pos hc, hk2]⟩
    · rw [if_neg hc] at hk
      exact ⟨k + 1, by rw [ent, if_neg hc, hk]⟩
theorem lead_f {r : Int × Int} : ∀ (l : List UInt8), l.length ≤ 1073741824 → (∃ k, stencilref02_Parse.l1 k (B (l.dropWhile (fun c => blanks.contains c))) = some r) → ∃ k, stencilref02_Parse.l0 k (B l) = some r
  | [], _, ⟨k, hk⟩ => by
    refine ⟨k + 2, ?_⟩
    rw [stencilref02_Parse.l0, size_B, if_neg (by simp), stencilref02_Parse.j1]
    exact hk
  | c :: l, h1, ⟨k, hk⟩ => by
    have eb : bt (B (c :: l)) 0 = (c.toNat : Int) := bt_B (c :: l) 0 (by simp)
    have c1 : (((c :: l).length : Nat) : Int) > 0 := by rw [List.length_cons]; omega
    have ent : ∀ k, stencilref02_Parse.l0 (k + 1) (B (c :: l)) = if blanks.contains c = true then stencilref02_Parse.l0 k (B l) else stencilref02_Parse.j1 k (B (c :: l)) := by
      intro k
      rw [stencilref02_Parse.l0, size_B, if_pos c1, if_pos c1, eb, blank_f, obind, if_pos (show (1 : Int) ≤ (((c :: l).length : Nat) : Int) from c1), ext_B]
      have e2 : ((c :: l).drop 1).take ((c :: l).length - 1) = l := by simp
      rw [e2]
    rw [List.dropWhile_cons] at hk
    by_cases hc : blanks.contains c = true
    · rw [if_pos hc] at hk
      obtain ⟨k2, hk2⟩ := lead_f l (by simp at h1; omega) ⟨k, hk⟩
      exact ⟨k2 + 1, by rw [ent, if_pos hc, hk2]⟩
    · rw [if_neg hc] at hk
      refine ⟨k + 2, ?_⟩
      rw [ent, if_neg hc, stencilref02_Parse.j1]
      exact hk
theorem trimr_cons (c : UInt8) (l : List UInt8) : trimRightS (c :: l) blanks = if trimRightS l blanks = [] ∧ blanks.contains c = true then [] else c :: trimRightS l blanks := by
  unfold trimRightS
  rw [List.reverse_cons, List.dropWhile_append]
  by_cases h : l.reverse.dropWhile (fun c => blanks.contains c) = []
  · rw [h, if_pos (show ([] : List UInt8).isEmpty = true from rfl), List.dropWhile_cons, List.reverse_nil]
    by_cases hc : blanks.contains c = true
    · rw [if_pos hc, if_pos ⟨rfl, hc⟩]
      rfl
    · rw [if_neg hc, if_neg (fun e => hc e.2)]
      rfl
  · have h2 : ¬ (l.reverse.dropWhile (fun c => blanks.contains c)).isEmpty = true := by
      cases hh : l.reverse.dropWhile (fun c => blanks.contains c) with
      | nil => exact absurd hh h
      | cons a b => exact Bool.false_ne_true
    rw [if_neg h2, List.reverse_append, if_neg (fun e => h (List.reverse_eq_nil_iff.1 e.1))]
    rfl
theorem trims_swap : ∀ l : List UInt8, trimRightS (l.dropWhile (fun c => blanks.contains c)) blanks = trimS l blanks
  | [] => rfl
  | c :: l => by
    have ih := trims_swap l
    unfold trimS Lib.trimLeftS at ih ⊢
    rw [List.dropWhile_cons, trimr_cons]
    by_cases hc : blanks.contains c = true
    · rw [if_pos hc, ih]
      by_cases h : trimRightS l blanks = []
      · rw [if_pos ⟨h, hc⟩, h]
      · rw [if_neg (fun e => h e.1), List.dropWhile_cons, if_pos hc]
    · rw [if_neg hc, if_neg (fun e => hc e.2), List.dropWhile_cons, if_neg hc, trimr_cons, if_neg (fun e => hc e.2)]
open Classical in
/-- what a text says -/
noncomputable def saysL (a : List UInt8) : Int × Int :=
  if (∀ c ∈ (Lib.cut (Lib.trimPrefix (trimS a blanks) [45]) [46]).1 ++ (Lib.cut (Lib.trimPrefix (trimS a blanks) [45]) [46]).2.1, isD c) ∧ (Lib.cut (Lib.trimPrefix (trimS a blanks) [45]) [46]).1 ++ (Lib.cut (Lib.trimPrefix (trimS a blanks) [45]) [46]).2.1 ≠ []
  then finS (valD (valD 0 (Lib.cut (Lib.trimPrefix (trimS a blanks) [45]) [46]).1) (((Lib.cut (Lib.trimPrefix (trimS a blanks) [45]) [46]).2.1 ++ noughts).take 6) : Nat) (Lib.hasPrefix (trimS a blanks) [45]) else (1, 0)
theorem ref_says (a : List UInt8) (h : a.length ≤ 1073741824) : ∃ k, stencilref02_Parse.f k (B a) = some (saysL a) := by
  have hl1 : (a.dropWhile (fun c => blanks.contains c)).length ≤ 1073741824 := Nat.le_trans (List.dropWhile_sublist _).length_le h
  have hl2 : (Lib.trimPrefix (trimS a blanks) [45]).length ≤ 1073741824 := Nat.le_trans (Lib.trimPrefix_le _ _) (Nat.le_trans (trimS_le a blanks) h)
  have I0 : Inv 0 0 false := ⟨fun _ => ⟨rfl, by decide⟩, fun e => (by cases e)⟩
  obtain ⟨A, C⟩ := phaseA (Lib.hasPrefix (trimS a blanks) [45]) (Lib.trimPrefix (trimS a blanks) [45]) hl2 (Lib.trimPrefix (trimS a blanks) [45]) 0 (List.drop_zero) (by omega) 0 0 false false I0
  have fin : (∃ k, stencilref02_Parse.l2 k (B (Lib.trimPrefix (trimS a blanks) [45])) (Lib.hasPrefix (trimS a blanks) [45]) (0 : Nat) (0 : Nat) false false false (0 : Nat) = some (saysL a)) := by
    unfold saysL
    by_cases hc : (∀ c ∈ (Lib.cut (Lib.trimPrefix (trimS a blanks) [45]) [46]).1 ++ (Lib.cut (Lib.trimPrefix (trimS a blanks) [45]) [46]).2.1, isD c) ∧ (Lib.cut (Lib.trimPrefix (trimS a blanks) [45]) [46]).1 ++ (Lib.cut (Lib.trimPrefix (trimS a blanks) [45]) [46]).2.1 ≠ []
    · rw [if_pos hc]
      exact A hc.1 (Or.inr hc.2)
    · rw [if_neg hc]
      refine C ?_
      by_cases h1 : ∀ c ∈ (Lib.cut (Lib.trimPrefix (trimS a blanks) [45]) [46]).1 ++ (Lib.cut (Lib.trimPrefix (trimS a blanks) [45]) [46]).2.1, isD c
      · exact Or.inr ⟨rfl, Classical.byContradiction fun h2 => hc ⟨h1, h2⟩⟩
      · exact Or.inl h1
  obtain ⟨k, hk⟩ := fin
  have hj : ∃ k, stencilref02_Parse.j3 k (B (trimS a blanks)) = some (saysL a) := ⟨k + 3, by rw [j3_f]; exact hk⟩
  rw [← trims_swap] at hj
  obtain ⟨k2, hk2⟩ := lead_f a h (trail_f _ _ rfl hl1 hj)
  exact ⟨k2, by unfold stencilref02_Parse.f; exact hk2⟩
theorem parse_or : ∀ (l : List UInt8) (a : Nat), (∀ c ∈ l, isD c) → Lib.parseUint10 a l = .ok (valD a l) ∨ (Lib.parseUint10 a l = .range ∧ valD a l > 1000000000000000000)
  | [], a, _ => Or.inl rfl
  | c :: l, a, hd => by
    have h1 := hd c (by simp)
    have h2 := valD_ge l (a * 10 + (c.toNat - 48))
    rw [valD_cons, Lib.parseUint10, if_pos (show 48 ≤ c.toNat ∧ c.toNat ≤ 57 from h1)]
    by_cases g1 : 1844674407370955162 ≤ a
    · rw [if_pos g1]
      exact Or.inr ⟨rfl, by omega⟩
    · rw [if_neg g1]
      by_cases g2 : 18446744073709551616 ≤ a * 10 + (c.toNat - 48)
      · rw [if_pos g2]
        exact Or.inr ⟨rfl, by omega⟩
      · rw [if_neg g2]
        exact parse_or l _ (fun x hx => hd x (by simp [hx]))
theorem fin_g (n : Nat) (b : Bool) : xnum_fin.f (n : Int) b = some (finS (n : Int) b) := by
  unfold xnum_fin.f finS
  by_cases h1 : (n : Int) > 1000000000000000000
  · rw [if_pos h1, if_pos h1]
    cases b <;> rfl
  · rw [if_neg h1, if_neg h1]
    have e : wrap64 (n : Int) = n := w64 (by omega) (by omega)
    have e2 : wrap64 (-(n : Int)) = -n := w64 (by omega) (by omega)
    cases b
    · simp [e]
    · simp [e, e2]
theorem drop_nil {p : UInt8 → Bool} : ∀ {l : List UInt8}, l.dropWhile p = [] → ∀ c ∈ l, p c = true
  | [], _, c, hc => by cases hc
  | x :: l, h, c, hc => by
    rw [List.dropWhile_cons] at h
    by_cases hx : p x = true
    · rw [if_pos hx] at h
      rcases List.mem_cons.1 hc with rfl | h2
      · exact hx
      · exact drop_nil h c h2
    · rw [if_neg hx] at h
      cases h
theorem take_all {p : UInt8 → Bool} : ∀ {l : List UInt8}, ∀ c ∈ l.takeWhile p, p c = true
  | [], c, hc => by cases hc
  | x :: l, c, hc => by
    rw [List.takeWhile_cons] at hc
    by_cases hx : p x = true
    · rw [if_pos hx] at hc
      rcases List.mem_cons.1 hc with rfl | h2
      · exact hx
      · exact take_all c h2
    · rw [if_neg hx] at hc
      cases hc
theorem trim_nil {l cs : List UInt8} (h : trimS l cs = []) : ∀ c ∈ l, cs.contains c = true := by
  intro c hc
  unfold trimS Lib.trimLeftS at h
  have h1 := drop_nil h
  have hr : c ∈ l.reverse := by simpa using hc
  rw [← List.takeWhile_append_dropWhile (p := fun c => cs.contains c) (l := l.reverse)] at hr
  rcases List.mem_append.1 hr with h2 | h2
  · exact take_all (p := fun c => cs.contains c) c h2
  · exact h1 c (by unfold trimRightS; simpa using h2)
theorem digit_of {c : UInt8} (h : ([48, 49, 50, 51, 52, 53, 54, 55, 56, 57] : List UInt8).contains c = true) : isD c := by
  have hm : c ∈ ([48, 49, 50, 51, 52, 53, 54, 55, 56, 57] : List UInt8) := List.contains_iff_mem.1 h
  simp only [List.mem_cons, List.mem_nil_iff, or_false] at hm
  unfold isD
  rcases hm with rfl | rfl | rfl | rfl | rfl | rfl | rfl | rfl | rfl | rfl <;> decide
theorem prog_says (a : List UInt8) (h : a.length ≤ 1073741824) : xnum_Parse.f (B a) = some (saysL a) := by
  unfold xnum_Parse.f saysL
  have ed : (B a).data.toList = a := rfl
  rw [if_pos (by rw [size_B]; exact h), ed]
  unfold parseC
  generalize Lib.hasPrefix (trimS a blanks) [45] = b
  generalize (Lib.cut (Lib.trimPrefix (trimS a blanks) [45]) [46]).1 = w
  generalize (Lib.cut (Lib.trimPrefix (trimS a blanks) [45]) [46]).2.1 = q
  by_cases hz : w ++ q = []
  · rw [if_pos hz, if_neg (fun e => e.2 hz)]
  · rw [if_neg hz]
    by_cases ht : trimS (w ++ q) [48, 49, 50, 51, 52, 53, 54, 55, 56, 57] = []
    · have hall : ∀ c ∈ w ++ q, isD c := fun c hc => digit_of (trim_nil ht c hc)
      rw [if_pos ht, if_pos ⟨hall, hz⟩, Lib.parseUintB_64]
      have hall2 : ∀ c ∈ w ++ (q ++ noughts).take 6, isD c := by
        intro c hc
        rcases List.mem_append.1 hc with h1 | h1
        · exact hall c (List.mem_append.2 (Or.inl h1))
        · rcases List.mem_append.1 (List.mem_of_mem_take h1) with h2 | h2
          · exact hall c (List.mem_append.2 (Or.inr h2))
          · exact digit_of (by simp only [noughts, List.mem_cons, List.mem_nil_iff, or_false, or_self] at h2; subst h2; decide)
      have hne : ¬ w ++ (q ++ noughts).take 6 = [] := by
        intro e
        have := congrArg List.length e
        rw [List.length_append, List.length_take, List.length_append] at this
        simp at this
      unfold Lib.parseMag
      rw [if_neg hne, ← valD_append]
      rcases parse_or _ 0 hall2 with h1 | ⟨h1, h2⟩
      · rw [h1]
        exact fin_g _ b
      · rw [h1, finS_big h2]
        cases b <;> rfl
    · rw [if_neg ht, if_neg (fun e => ht (trim_all fun c hc => (d_digit (e.1 c hc)).1))]
end Go.Proofs.YtfbmojnndbbojaaGreatDoor.NumV
