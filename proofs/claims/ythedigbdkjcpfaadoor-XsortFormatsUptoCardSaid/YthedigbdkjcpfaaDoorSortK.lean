/- Roman numbers read back: all of them reckoned. -/
import Derived.Test.YthedigbdkjcpfaaDoorPrintxsortroman
import Derived.Test.YthedigbdkjcpfaaDoorPrintxsortguess
import Derived.Test.YthedigbdkjcpfaaDoorSortB
namespace Go.Proofs.YthedigbdkjcpfaaDoor.SortL
open Go.RowKit Go.Proofs.YthedigbdkjcpfaaDoorW.PrintWords Go.Proofs.YthedigbdkjcpfaaDoor.Plain Go.Proofs.YthedigbdkjcpfaaDoor.Print Go.Proofs.YthedigbdkjcpfaaDoor.NumD
theorem trim_keep {l : List UInt8} {c : UInt8} (hc : c ∈ l) (h : digs.contains c = false) : Lib.trimS l digs ≠ [] := by
  intro he
  have : ∀ (m : List UInt8), m.dropWhile (fun c => digs.contains c) = [] → ∀ x ∈ m, digs.contains x = true := by
    intro m
    induction m with
    | nil => intro _ x hx; cases hx
    | cons y m ih =>
      intro hm x hx
      rw [List.dropWhile_cons] at hm
      split at hm
      · rename_i hy
        rcases List.mem_cons.1 hx with rfl | hx
        · exact hy
        · exact ih hm x hx
      · cases hm
  unfold Lib.trimS Lib.trimLeftS Lib.trimRightS at he
  have h1 := this _ he
  have h2 : l.reverse.dropWhile (fun c => digs.contains c) = [] := by
    cases hd : l.reverse.dropWhile (fun c => digs.contains c) with
    | nil => rfl
    | cons y ys =>
      exfalso
      have hy : digs.contains y = false := by
        have : ∀ (m : List UInt8), m.dropWhile (fun c => digs.contains c) = y :: ys → digs.contains y = false := by
          intro m
          induction m with
          | nil => intro h; cases h
          | cons z m ih =>
            intro hm
            rw [List.dropWhile_cons] at hm
            split at hm
            · exact ih hm
            · rename_i hz
              have := (List.cons.inj hm).1
              subst this
              exact Bool.eq_false_iff.2 hz
        exact this _ hd
      have := h1 y (by rw [hd]; simp)
      rw [hy] at this
      cases this
  have h3 := this _ h2 c (by simpa using hc)
  rw [h] at h3
  cases h3
def signs7 : List UInt8 := [73, 86, 88, 76, 67, 68, 77]
def rvU (c : UInt8) : Int := if c = 73 then 1 else if c = 86 then 5 else if c = 88 then 10 else if c = 76 then 50 else if c = 67 then 100 else if c = 68 then 500 else 1000
def gR : List UInt8 → Int → Int → Int
  | [], n, _ => n
  | c :: t, n, last => if (if rvU c > last then n + rvU c - 2 * last else n + rvU c) > 10000 then 0 else gR t (if rvU c > last then n + rvU c - 2 * last else n + rvU c) (rvU c)
def romC (n : Nat) : Bool := match xsort_Roman.f (n : Int) with | some r => r.data.toList.all (fun c => signs7.contains c) && decide (r.data.toList.length ≤ 100) && !r.data.toList.isEmpty && decide (gR r.data.toList 0 0 = (n : Int)) | none => false
set_option maxRecDepth 100000 in
theorem rom_c0 : (List.range 500).all (fun i => romC (0 + i + 1)) = true := by kernel_rfl
set_option maxRecDepth 100000 in
theorem rom_c1 : (List.range 500).all (fun i => romC (500 + i + 1)) = true := by kernel_rfl
set_option maxRecDepth 100000 in
theorem rom_c2 : (List.range 500).all (fun i => romC (1000 + i + 1)) = true := by kernel_rfl
set_option maxRecDepth 100000 in
theorem rom_c3 : (List.range 500).all (fun i => romC (1500 + i + 1)) = true := by kernel_rfl
set_option maxRecDepth 100000 in
theorem rom_c4 : (List.range 500).all (fun i => romC (2000 + i + 1)) = true := by kernel_rfl
set_option maxRecDepth 100000 in
theorem rom_c5 : (List.range 500).all (fun i => romC (2500 + i + 1)) = true := by kernel_rfl
set_option maxRecDepth 100000 in
theorem rom_c6 : (List.range 500).all (fun i => romC (3000 + i + 1)) = true := by kernel_rfl
set_option maxRecDepth 100000 in
theorem rom_c7 : (List.range 499).all (fun i => romC (3500 + i + 1)) = true := by kernel_rfl
theorem rom_all (n : Nat) (h1 : 1 ≤ n) (h2 : n ≤ 3999) : romC n = true := by
  have go : ∀ (m b : Nat), (List.range m).all (fun i => romC (b + i + 1)) = true → b < n → n ≤ b + m → romC n = true := by
    intro m b h hb hm
    have := List.all_eq_true.1 h (n - b - 1) (List.mem_range.2 (by omega))
    rwa [show b + (n - b - 1) + 1 = n by omega] at this
  by_cases q0 : n ≤ 500
  · exact go 500 0 rom_c0 (by omega) (by omega)
  by_cases q1 : n ≤ 1000
  · exact go 500 500 rom_c1 (by omega) (by omega)
  by_cases q2 : n ≤ 1500
  · exact go 500 1000 rom_c2 (by omega) (by omega)
  by_cases q3 : n ≤ 2000
  · exact go 500 1500 rom_c3 (by omega) (by omega)
  by_cases q4 : n ≤ 2500
  · exact go 500 2000 rom_c4 (by omega) (by omega)
  by_cases q5 : n ≤ 3000
  · exact go 500 2500 rom_c5 (by omega) (by omega)
  by_cases q6 : n ≤ 3500
  · exact go 500 3000 rom_c6 (by omega) (by omega)
  by_cases q7 : n ≤ 3999
  · exact go 499 3500 rom_c7 (by omega) (by omega)
  · omega
theorem sign_fact : signs7.all (fun c => decide ((Lib.lowerB c).toNat < 128) && decide (c.toNat < 128) && decide (Lib.lowerB (Lib.lowerB c) = Lib.lowerB c) && decide (Lib.lowerB (Lib.upperB (Lib.lowerB c)) = Lib.lowerB c) && decide ((Lib.upperB (Lib.lowerB c)).toNat < 128) && !(digs.contains (Lib.lowerB c)) && !(digs.contains (Lib.upperB (Lib.lowerB c))) && decide (rval (Lib.lowerB c).toNat = rvU c)) = true := by kernel_rfl
theorem sign_of {c : UInt8} (h : signs7.contains c = true) : (Lib.lowerB c).toNat < 128 ∧ c.toNat < 128 ∧ Lib.lowerB (Lib.lowerB c) = Lib.lowerB c ∧ Lib.lowerB (Lib.upperB (Lib.lowerB c)) = Lib.lowerB c ∧ (Lib.upperB (Lib.lowerB c)).toNat < 128 ∧ digs.contains (Lib.lowerB c) = false ∧ digs.contains (Lib.upperB (Lib.lowerB c)) = false ∧ rval (Lib.lowerB c).toNat = rvU c := by
  have := List.all_eq_true.1 sign_fact c (List.contains_iff_mem.1 h)
  simp only [Bool.and_eq_true, decide_eq_true_eq, Bool.not_eq_true'] at this
  obtain ⟨⟨⟨⟨⟨⟨⟨a, b⟩, c1⟩, d⟩, e⟩, f⟩, g⟩, i⟩ := this
  exact ⟨a, b, c1, d, e, f, g, i⟩
theorem guessR_g : ∀ (l : List UInt8) (f : Nat) (n last : Int), (∀ c ∈ l, signs7.contains c = true) → l.length ≤ f → guessR f (Lib.toLowerA l) n last = gR l n last
  | [], f, n, last, _, _ => by show guessR f [] n last = n; exact guessR_nil f n last
  | c :: t, f, n, last, h, hf => by
    obtain ⟨f, rfl⟩ : ∃ j, f = j + 1 := ⟨f - 1, by simp only [List.length_cons] at hf; omega⟩
    simp only [List.length_cons] at hf
    have hs := sign_of (h c (by simp))
    have e : Lib.toLowerA (c :: t) = Lib.lowerB c :: Lib.toLowerA t := rfl
    rw [e, guessR, if_neg (by simp), Lib.decodeL_ascii _ _ hs.1]
    simp only [List.drop_succ_cons, List.drop_zero]
    rw [hs.2.2.2.2.2.2.2, guessR_g t f _ _ (fun x hx => h x (by simp [hx])) (by omega), gR]
structure RomOk (n : Nat) (lo : List UInt8) : Prop where
  o1 : lo ≠ []
  o2 : ∀ c ∈ lo, c.toNat < 128
  o3 : lo.length ≤ 100
  o4 : guessR lo.length lo 0 0 = (n : Int)
  o5 : Lib.toLowerA lo = lo
  o6 : Lib.toLowerA (Lib.toUpperA lo) = lo
  o7 : ∀ c ∈ Lib.toUpperA lo, c.toNat < 128
  o8 : Lib.trimS lo digs ≠ []
  o9 : Lib.trimS (Lib.toUpperA lo) digs ≠ []
theorem map_same (f : UInt8 → UInt8) (l : List UInt8) (h : ∀ c ∈ l, f c = c) : l.map f = l := by
  conv => rhs; rw [← List.map_id l]
  exact List.map_congr_left fun c hc => h c hc
theorem rom_small (n : Nat) (h1 : 1 ≤ n) (h2 : n ≤ 3999) : ∃ r, xsort_Roman.f (n : Int) = some (B r) ∧ (∀ c ∈ r, c.toNat < 128) ∧ r.length ≤ 100 ∧ RomOk n (Lib.toLowerA r) := by
  have := rom_all n h1 h2
  unfold romC at this
  revert this
  cases hr : xsort_Roman.f (n : Int) with
  | none => intro h; cases h
  | some a =>
    intro h
    simp only [Bool.and_eq_true, decide_eq_true_eq, Bool.not_eq_true', List.isEmpty_eq_false_iff] at h
    obtain ⟨⟨⟨hs, hl⟩, hne⟩, hg⟩ := h
    have hs := List.all_eq_true.1 hs
    obtain ⟨x, xs, hx⟩ : ∃ x xs, a.data.toList = x :: xs := by cases e : a.data.toList with | nil => exact absurd e hne | cons x xs => exact ⟨x, xs, rfl⟩
    have hlen : (Lib.toLowerA a.data.toList).length = a.data.toList.length := by unfold Lib.toLowerA; rw [List.length_map]
    have hlo : ∀ c ∈ Lib.toLowerA a.data.toList, ∃ d, signs7.contains d = true ∧ c = Lib.lowerB d := by
      intro c hc
      unfold Lib.toLowerA at hc
      obtain ⟨d, hd, rfl⟩ := List.mem_map.1 hc
      exact ⟨d, hs d hd, rfl⟩
    have hx1 : Lib.lowerB x ∈ Lib.toLowerA a.data.toList := by rw [hx]; exact List.mem_cons_self
    have hxs : signs7.contains x = true := hs x (by rw [hx]; exact List.mem_cons_self)
    refine ⟨a.data.toList, by rw [show B a.data.toList = a from bytes_eq rfl], fun c hc => (sign_of (hs c hc)).2.1, hl, ⟨?_, ?_, ?_, ?_, ?_, ?_, ?_, ?_, ?_⟩⟩
    · rw [hx]; simp [Lib.toLowerA]
    · intro c hc
      obtain ⟨d, hd, rfl⟩ := hlo c hc
      exact (sign_of hd).1
    · omega
    · rw [guessR_g _ _ _ _ hs (by omega), hg]
    · refine map_same _ _ fun c hc => ?_
      obtain ⟨d, hd, rfl⟩ := hlo c hc
      exact (sign_of hd).2.2.1
    · unfold Lib.toUpperA
      show (List.map Lib.upperB (Lib.toLowerA a.data.toList)).map Lib.lowerB = _
      rw [List.map_map]
      refine map_same _ _ fun c hc => ?_
      obtain ⟨d, hd, rfl⟩ := hlo c hc
      exact (sign_of hd).2.2.2.1
    · intro c hc
      unfold Lib.toUpperA at hc
      obtain ⟨e, he, rfl⟩ := List.mem_map.1 hc
      obtain ⟨d, hd, rfl⟩ := hlo e he
      exact (sign_of hd).2.2.2.2.1
    · exact trim_keep hx1 (sign_of hxs).2.2.2.2.2.1
    · refine trim_keep (c := Lib.upperB (Lib.lowerB x)) ?_ (sign_of hxs).2.2.2.2.2.2.1
      unfold Lib.toUpperA
      exact List.mem_map.2 ⟨_, hx1, rfl⟩
end Go.Proofs.YthedigbdkjcpfaaDoor.SortL
