/- A stable sort on arrays: the plain laws. -/
import Derived.Sort.Lot0
import Derived.Sort.LotA
/- A stable sort on arrays: exchanges of ranges, rotations, the symmetric merge, the blocks. Plain laws; no Go, no memory. -/
set_option linter.unusedVariables false
set_option linter.unusedSimpArgs false
namespace Go.Proofs.YthedigbdkjcpfaaDoor.Sta
open Go.Sort
variable {α : Type} [Inhabited α]
theorem arr_ext {d d' : Array α} (hs : d'.size = d.size) (h : ∀ k : Nat, k < d.size → d'[k]! = d[k]!) : d' = d := by
  apply Array.ext hs
  intro k h1 h2
  have := h k h2
  rwa [getElem!_pos d' k h1, getElem!_pos d k h2] at this
theorem at_cong (d : Array α) {i j : Nat} (h : i = j) : d[i]! = d[j]! := by rw [h]
/-- n exchanges of the places a.. with the places b.. -/
def swaps (d : Array α) (a b : Nat) : Nat → Array α
  | 0 => d
  | n + 1 => swp (swaps d a b n) (a + n) (b + n)
theorem size_swaps (d : Array α) (a b n : Nat) : (swaps d a b n).size = d.size := by
  induction n with
  | zero => rfl
  | succ n ih => rw [swaps, size_swp, ih]
theorem swaps_at (d : Array α) (a b : Nat) : ∀ n, a + n ≤ b → b + n ≤ d.size → ∀ k : Nat, (swaps d a b n)[k]! = if a ≤ k ∧ k < a + n then d[k + (b - a)]! else if b ≤ k ∧ k < b + n then d[k - (b - a)]! else d[k]!
  | 0, _, _, k => by
    rw [if_neg (by omega), if_neg (by omega)]
    rfl
  | n + 1, h1, h2, k => by
    have ih := swaps_at d a b n (by omega) (by omega)
    rw [swaps]
    by_cases e1 : k = a + n
    · subst e1
      rw [swp_left _ _ _ (by rw [size_swaps]; omega) (by omega), ih, if_neg (by omega), if_neg (by omega), if_pos (by omega)]
      exact at_cong d (by omega)
    · by_cases e2 : k = b + n
      · subst e2
        rw [swp_right _ _ _ (by rw [size_swaps]; omega), ih, if_neg (by omega), if_neg (by omega), if_neg (by omega), if_pos (by omega)]
        exact at_cong d (by omega)
      · rw [swp_other _ _ _ _ e1 e2, ih]
        repeat' split
        all_goals first | (exfalso; omega) | rfl
theorem swaps_perm (d : Array α) (a b lo hi : Nat) : ∀ n, lo ≤ a → a + n ≤ b → b + n ≤ hi → hi ≤ d.size → PermIn lo hi d (swaps d a b n)
  | 0, _, _, _, _ => permIn_refl _ _ _
  | n + 1, h0, h1, h2, h3 => permIn_trans _ _ _ _ _ (swaps_perm d a b lo hi n h0 (by omega) (by omega) h3) (swp_permIn _ _ _ _ _ (by omega) (by omega) (by omega) (by omega) (by rw [size_swaps]; exact h3))
/-- the places a .. m and m .. b turned about -/
def rot (d : Array α) (a m b : Nat) : Array α := Array.ofFn (n := d.size) fun k => if a ≤ k.val ∧ k.val < a + (b - m) then d[k.val + (m - a)]! else if a + (b - m) ≤ k.val ∧ k.val < b then d[k.val - (b - m)]! else d[k.val]!
theorem size_rot (d : Array α) (a m b : Nat) : (rot d a m b).size = d.size := by simp [rot]
theorem rot_at (d : Array α) (a m b : Nat) (h1 : a ≤ m) (h2 : m ≤ b) (h3 : b ≤ d.size) (k : Nat) : (rot d a m b)[k]! = if a ≤ k ∧ k < a + (b - m) then d[k + (m - a)]! else if a + (b - m) ≤ k ∧ k < b then d[k - (b - m)]! else d[k]! := by
  by_cases hk : k < d.size
  · rw [getElem!_pos _ k (by rw [size_rot]; exact hk)]
    simp only [rot, Array.getElem_ofFn]
  · rw [getElem!_neg _ k (by rw [size_rot]; exact hk), if_neg (by omega), if_neg (by omega), getElem!_neg d k hk]
theorem rot_eq (d : Array α) (m i : Nat) (h1 : i ≤ m) (h2 : m + i ≤ d.size) : swaps d (m - i) m i = rot d (m - i) m (m + i) := by
  refine arr_ext (by rw [size_swaps, size_rot]) fun k hk => ?_
  rw [swaps_at d _ _ _ (by omega) (by omega), rot_at d _ _ _ (by omega) (by omega) h2]
  repeat' split
  all_goals first | (exfalso; omega) | exact at_cong d (by omega)
theorem rot_step1 (d : Array α) (m i j : Nat) (h1 : i ≤ m) (h2 : m + j ≤ d.size) (hij : j < i) : rot (swaps d (m - i) m j) (m - (i - j)) m (m + j) = rot d (m - i) m (m + j) := by
  refine arr_ext (by rw [size_rot, size_rot, size_swaps]) fun k hk => ?_
  have sw := swaps_at d (m - i) m j (by omega) (by omega)
  rw [rot_at _ _ _ _ (by omega) (by omega) (by rw [size_swaps]; omega), rot_at d _ _ _ (by omega) (by omega) h2]
  simp only [sw]
  repeat' split
  all_goals first | (exfalso; omega) | exact at_cong d (by omega)
theorem rot_step2 (d : Array α) (m i j : Nat) (h1 : i ≤ m) (h2 : m + j ≤ d.size) (hij : i < j) : rot (swaps d (m - i) (m + j - i) i) (m - i) m (m + (j - i)) = rot d (m - i) m (m + j) := by
  refine arr_ext (by rw [size_rot, size_rot, size_swaps]) fun k hk => ?_
  have sw := swaps_at d (m - i) (m + j - i) i (by omega) (by omega)
  rw [rot_at _ _ _ _ (by omega) (by omega) (by rw [size_swaps]; omega), rot_at d _ _ _ (by omega) (by omega) h2]
  simp only [sw]
  repeat' split
  all_goals first | (exfalso; omega) | exact at_cong d (by omega)
theorem rot_perm : ∀ (f : Nat) (d : Array α) (m i j : Nat), i + j ≤ f → 0 < i → 0 < j → i ≤ m → m + j ≤ d.size → PermIn (m - i) (m + j) d (rot d (m - i) m (m + j))
  | 0, d, m, i, j, hf, hi, _, _, _ => by omega
  | f + 1, d, m, i, j, hf, hi, hj, h1, h2 => by
    by_cases e : i = j
    · subst e
      rw [← rot_eq d m i h1 h2]
      exact swaps_perm d _ _ _ _ i (Nat.le_refl _) (by omega) (by omega) h2
    · by_cases c : j < i
      · rw [← rot_step1 d m i j h1 h2 c]
        refine permIn_trans _ _ _ _ _ (swaps_perm d (m - i) m (m - i) (m + j) j (Nat.le_refl _) (by omega) (by omega) h2) ?_
        refine permIn_mono _ _ _ _ _ _ (by omega) (Nat.le_refl _) (by rw [size_swaps]; exact h2) (rot_perm f _ m (i - j) j (by omega) (by omega) hj (by omega) (by rw [size_swaps]; exact h2))
      · rw [← rot_step2 d m i j h1 h2 (by omega)]
        refine permIn_trans _ _ _ _ _ (swaps_perm d (m - i) (m + j - i) (m - i) (m + j) i (Nat.le_refl _) (by omega) (by omega) h2) ?_
        refine permIn_mono _ _ _ _ _ _ (Nat.le_refl _) (by omega) (by rw [size_swaps]; exact h2) (rot_perm f _ m i (j - i) (by omega) hi (by omega) h1 (by rw [size_swaps]; omega))
theorem rot_permIn (d : Array α) (a m b : Nat) (h1 : a < m) (h2 : m < b) (h3 : b ≤ d.size) : PermIn a b d (rot d a m b) := by
  have := rot_perm (b - a) d m (m - a) (b - m) (by omega) (by omega) (by omega) (by omega) (by omega)
  rwa [show m - (m - a) = a by omega, show m + (b - m) = b by omega] at this
theorem rot_left (d : Array α) (a m : Nat) (h1 : a ≤ m) (h3 : m ≤ d.size) : rot d a m m = d := by
  refine arr_ext (size_rot _ _ _ _) fun k hk => ?_
  rw [rot_at d _ _ _ h1 (Nat.le_refl _) h3, if_neg (by omega)]
  split
  · exact at_cong d (by omega)
  · rfl
theorem rot_right (d : Array α) (m b : Nat) (h1 : m ≤ b) (h3 : b ≤ d.size) : rot d m m b = d := by
  refine arr_ext (size_rot _ _ _ _) fun k hk => ?_
  rw [rot_at d _ _ _ (Nat.le_refl _) h1 h3]
  split
  · exact at_cong d (by omega)
  · rw [if_neg (by omega)]
/-- n exchanges upwards, downwards -/
def up (d : Array α) (a : Nat) : Nat → Array α
  | 0 => d
  | n + 1 => swp (up d a n) (a + n) (a + n + 1)
def down (d : Array α) (m : Nat) : Nat → Array α
  | 0 => d
  | n + 1 => swp (down d m n) (m - n) (m - n - 1)
theorem size_up (d : Array α) (a n : Nat) : (up d a n).size = d.size := by
  induction n with
  | zero => rfl
  | succ n ih => rw [up, size_swp, ih]
theorem size_down (d : Array α) (a n : Nat) : (down d a n).size = d.size := by
  induction n with
  | zero => rfl
  | succ n ih => rw [down, size_swp, ih]
theorem up_at (d : Array α) (a : Nat) : ∀ n, a + n < d.size → ∀ k : Nat, (up d a n)[k]! = if a ≤ k ∧ k < a + n then d[k + 1]! else if k = a + n then d[a]! else d[k]!
  | 0, _, k => by
    rw [if_neg (by omega)]
    split
    · rename_i h; exact at_cong d (by omega)
    · rfl
  | n + 1, h, k => by
    have ih := up_at d a n (by omega)
    rw [up]
    by_cases e1 : k = a + n
    · subst e1
      rw [swp_left _ _ _ (by rw [size_up]; omega) (by omega), ih, if_neg (by omega), if_neg (by omega), if_pos (by omega)]
    · by_cases e2 : k = a + n + 1
      · subst e2
        rw [swp_right _ _ _ (by rw [size_up]; omega), ih, if_neg (by omega), if_pos rfl, if_neg (by omega), if_pos (by omega)]
      · rw [swp_other _ _ _ _ e1 e2, ih]
        repeat' split
        all_goals first | (exfalso; omega) | rfl
theorem down_at (d : Array α) (m : Nat) : ∀ n, n ≤ m → m < d.size → ∀ k : Nat, (down d m n)[k]! = if m - n < k ∧ k ≤ m then d[k - 1]! else if k = m - n then d[m]! else d[k]!
  | 0, _, _, k => by
    rw [if_neg (by omega)]
    split
    · rename_i h; exact at_cong d (by omega)
    · rfl
  | n + 1, h, hm, k => by
    have ih := down_at d m n (by omega) hm
    rw [down]
    by_cases e1 : k = m - n
    · subst e1
      rw [swp_left _ _ _ (by rw [size_down]; omega) (by omega), ih, if_neg (by omega), if_neg (by omega), if_pos (by omega)]
    · by_cases e2 : k = m - n - 1
      · subst e2
        rw [swp_right _ _ _ (by rw [size_down]; omega), ih, if_neg (by omega), if_pos rfl, if_neg (by omega), if_pos (by omega)]
      · rw [swp_other _ _ _ _ e1 e2, ih]
        repeat' split
        all_goals first | (exfalso; omega) | rfl
theorem up_perm (d : Array α) (a lo hi : Nat) : ∀ n, lo ≤ a → a + n < hi → hi ≤ d.size → PermIn lo hi d (up d a n)
  | 0, _, _, _ => permIn_refl _ _ _
  | n + 1, h0, h1, h2 => permIn_trans _ _ _ _ _ (up_perm d a lo hi n h0 (by omega) h2) (swp_permIn _ _ _ _ _ (by omega) (by omega) (by omega) (by omega) (by rw [size_up]; exact h2))
theorem down_perm (d : Array α) (m lo hi : Nat) : ∀ n, lo + n ≤ m → m < hi → hi ≤ d.size → PermIn lo hi d (down d m n)
  | 0, _, _, _ => permIn_refl _ _ _
  | n + 1, h0, h1, h2 => permIn_trans _ _ _ _ _ (down_perm d m lo hi n (by omega) h1 h2) (swp_permIn _ _ _ _ _ (by omega) (by omega) (by omega) (by omega) (by rw [size_down]; exact h2))
/-- the symmetric merge of one place with a row -/
theorem sym_one {ah : α → α → Bool} (hS : SWO ah) (d : Array α) (a b i : Nat) (hi : a + 1 ≤ i) (hib : i ≤ b) (hb : b ≤ d.size) (sR : SortedIn ah (a + 1) b d)
    (hlo : ∀ k, a + 1 ≤ k → k < i → ah d[k]! d[a]! = true) (hhi : ∀ k, i ≤ k → k < b → ah d[k]! d[a]! = false) :
    PermIn a b d (up d a (i - 1 - a)) ∧ SortedIn ah a b (up d a (i - 1 - a)) := by
  refine ⟨up_perm d a a b _ (Nat.le_refl _) (by omega) hb, fun x y hx hxy hy => ?_⟩
  have at_ := up_at d a (i - 1 - a) (by omega)
  rw [at_ y, at_ x]
  by_cases cx : x < i - 1
  · rw [if_pos (show a ≤ x ∧ x < a + (i - 1 - a) by omega)]
    by_cases cy : y < i - 1
    · rw [if_pos (show a ≤ y ∧ y < a + (i - 1 - a) by omega)]
      exact sR _ _ (by omega) (by omega) (by omega)
    · rw [if_neg (show ¬ (a ≤ y ∧ y < a + (i - 1 - a)) by omega)]
      by_cases ey : y = i - 1
      · rw [if_pos (by omega)]
        exact hS.asymmA (hlo _ (by omega) (by omega))
      · rw [if_neg (by omega)]
        exact sR _ _ (by omega) (by omega) (by omega)
  · rw [if_neg (show ¬ (a ≤ x ∧ x < a + (i - 1 - a)) by omega), if_neg (show ¬ (a ≤ y ∧ y < a + (i - 1 - a)) by omega), if_neg (show ¬ (y = a + (i - 1 - a)) by omega)]
    by_cases ex : x = i - 1
    · rw [if_pos (by omega)]
      exact hhi _ (by omega) (by omega)
    · rw [if_neg (by omega)]
      exact sR _ _ (by omega) (by omega) (by omega)
/-- .. of a row with one place -/
theorem sym_last {ah : α → α → Bool} (hS : SWO ah) (d : Array α) (a m i : Nat) (hi : a ≤ i) (him : i ≤ m) (hb : m + 1 ≤ d.size) (sL : SortedIn ah a m d)
    (hlo : ∀ k, a ≤ k → k < i → ah d[m]! d[k]! = false) (hhi : ∀ k, i ≤ k → k < m → ah d[m]! d[k]! = true) :
    PermIn a (m + 1) d (down d m (m - i)) ∧ SortedIn ah a (m + 1) (down d m (m - i)) := by
  refine ⟨down_perm d m a (m + 1) _ (by omega) (by omega) hb, fun x y hx hxy hy => ?_⟩
  have at_ := down_at d m (m - i) (by omega) (by omega)
  rw [at_ y, at_ x]
  by_cases cy : i < y
  · rw [if_pos (show m - (m - i) < y ∧ y ≤ m by omega)]
    by_cases cx : i < x
    · rw [if_pos (show m - (m - i) < x ∧ x ≤ m by omega)]
      exact sL _ _ (by omega) (by omega) (by omega)
    · rw [if_neg (show ¬ (m - (m - i) < x ∧ x ≤ m) by omega)]
      by_cases ex : x = i
      · rw [if_pos (by omega)]
        exact hS.asymmA (hhi _ (by omega) (by omega))
      · rw [if_neg (by omega)]
        exact sL _ _ (by omega) (by omega) (by omega)
  · rw [if_neg (show ¬ (m - (m - i) < y ∧ y ≤ m) by omega), if_neg (show ¬ (m - (m - i) < x ∧ x ≤ m) by omega), if_neg (show ¬ (x = m - (m - i)) by omega)]
    by_cases ey : y = i
    · rw [if_pos (by omega)]
      exact hlo _ (by omega) (by omega)
    · rw [if_neg (by omega)]
      exact sL _ _ (by omega) (by omega) (by omega)
/-- the two ends of the search -/
def lo0 (a m b : Nat) : Nat := if m > (a + b) / 2 then (a + b) / 2 + m - b else a
def hi0 (a m b : Nat) : Nat := if m > (a + b) / 2 then (a + b) / 2 else m
omit [Inhabited α] in
theorem swo_nt {ah : α → α → Bool} (hS : SWO ah) {x y z : α} (h1 : ah x y = true) (h2 : ah z y = false) : ah x z = true := by
  cases h : ah x z with
  | true => rfl
  | false => rw [hS.ntrans _ _ _ h h2] at h1; cases h1
omit [Inhabited α] in
theorem swo_tn {ah : α → α → Bool} (hS : SWO ah) {x y z : α} (h1 : ah x y = true) (h2 : ah x z = false) : ah z y = true := by
  cases h : ah z y with
  | true => rfl
  | false => rw [hS.ntrans _ _ _ h2 h] at h1; cases h1
/-- the test of the search is monotone -/
theorem sym_mono {ah : α → α → Bool} (hS : SWO ah) (d : Array α) (a m b : Nat) (h1 : a < m) (h2 : m < b) (sL : SortedIn ah a m d) (sR : SortedIn ah m b d) (c c' : Nat) (hc : lo0 a m b ≤ c) (hcc : c ≤ c') (hc' : c' < hi0 a m b)
    (h : ah d[(a + b) / 2 + m - 1 - c]! d[c]! = true) : ah d[(a + b) / 2 + m - 1 - c']! d[c']! = true := by
  by_cases e : c = c'
  · subst e; exact h
  · unfold lo0 at hc
    unfold hi0 at hc'
    have e1 := sL c c' (by split at hc <;> omega) (by omega) (by split at hc' <;> omega)
    have e2 := sR ((a + b) / 2 + m - 1 - c') ((a + b) / 2 + m - 1 - c) (by split at hc' <;> omega) (by split at hc' <;> omega) (by split at hc <;> omega)
    exact swo_tn hS (swo_nt hS h e1) e2
structure Split (ah lt : α → α → Bool) (d d1 : Array α) (a m b mid s e : Nat) : Prop where
  has : a ≤ s
  hsm : s ≤ mid
  hme : mid ≤ e
  heb : e ≤ b
  hsM : s ≤ m
  hMe : m ≤ e
  all : ∀ i j, a ≤ i → i < mid → mid ≤ j → j < b → ah d1[j]! d1[i]! = false
  s1 : SortedIn ah a s d1
  s2 : SortedIn ah s mid d1
  s3 : SortedIn ah mid e d1
  s4 : SortedIn ah e b d1
  c1 : ∀ i j, a ≤ i → i < s → s ≤ j → j < mid → lt d1[j]! d1[i]! = ah d1[j]! d1[i]!
  c2 : ∀ i j, mid ≤ i → i < e → e ≤ j → j < b → lt d1[j]! d1[i]! = ah d1[j]! d1[i]!
theorem sym_split {ah lt : α → α → Bool} (hS : SWO ah) (d : Array α) (a m b s : Nat) (h1 : a < m) (h2 : m < b) (hb : b ≤ d.size) (sL : SortedIn ah a m d) (sR : SortedIn ah m b d)
    (hC : ∀ i j, a ≤ i → i < m → m ≤ j → j < b → lt d[j]! d[i]! = ah d[j]! d[i]!) (hs1 : lo0 a m b ≤ s) (hs2 : s ≤ hi0 a m b)
    (hlo : lo0 a m b < s → ah d[(a + b) / 2 + m - 1 - (s - 1)]! d[s - 1]! = false) (hhi : s < hi0 a m b → ah d[(a + b) / 2 + m - 1 - s]! d[s]! = true) :
    Split ah lt d (rot d s m ((a + b) / 2 + m - s)) a m b ((a + b) / 2) s ((a + b) / 2 + m - s) := by
  have b1 : a ≤ s := by unfold lo0 at hs1; split at hs1 <;> omega
  have b2 : s ≤ (a + b) / 2 := by unfold hi0 at hs2; split at hs2 <;> omega
  have b3 : s ≤ m := by unfold hi0 at hs2; split at hs2 <;> omega
  have b4 : (a + b) / 2 + m - s ≤ b := by unfold lo0 at hs1; split at hs1 <;> omega
  have hmid : a ≤ (a + b) / 2 ∧ (a + b) / 2 < b := by omega
  have at_ := rot_at d s m ((a + b) / 2 + m - s) b3 (by omega) (by omega)
  -- ahead of the cut
  have q1 : ∀ x y, a ≤ x → x < s → (a + b) / 2 + m - s ≤ y → y < b → ah d[y]! d[x]! = false := by
    intro x y hx hxs hy hyb
    have h3 : lo0 a m b < s := by unfold lo0 at hs1 ⊢; split <;> rename_i c <;> simp only [c, if_true, if_false] at hs1 <;> omega
    have h4 := hlo h3
    have h5 : ah d[(a + b) / 2 + m - 1 - (s - 1)]! d[x]! = false := by
      cases h : ah d[(a + b) / 2 + m - 1 - (s - 1)]! d[x]! with
      | false => rfl
      | true =>
        by_cases e : x = s - 1
        · rw [e] at h; rw [h4] at h; cases h
        · rw [swo_nt hS h (sL x (s - 1) (by omega) (by omega) (by omega))] at h4; cases h4
    cases h : ah d[y]! d[x]! with
    | false => rfl
    | true =>
      by_cases e : (a + b) / 2 + m - 1 - (s - 1) = y
      · rw [e] at h5; rw [h5] at h; cases h
      · rw [swo_tn hS h (sR ((a + b) / 2 + m - 1 - (s - 1)) y (by omega) (by omega) (by omega))] at h5; cases h5
  have q2 : ∀ x y, s ≤ x → x < m → m ≤ y → y < (a + b) / 2 + m - s → ah d[y]! d[x]! = true := by
    intro x y hx hxm hy hye
    have h3 : s < hi0 a m b := by unfold hi0 at hs2 ⊢; split <;> rename_i c <;> simp only [c, if_true, if_false] at hs2 <;> omega
    have h4 := hhi h3
    have h5 : ah d[y]! d[s]! = true := by
      by_cases e : y = (a + b) / 2 + m - 1 - s
      · rw [e]; exact h4
      · exact swo_tn hS h4 (sR y ((a + b) / 2 + m - 1 - s) (by omega) (by omega) (by omega))
    by_cases e : x = s
    · rw [e]; exact h5
    · exact swo_nt hS h5 (sL s x (by omega) (by omega) (by omega))
  have atL : ∀ x, x < s → (rot d s m ((a + b) / 2 + m - s))[x]! = d[x]! := fun x hx => by rw [at_, if_neg (by omega), if_neg (by omega)]
  have atR : ∀ x, s ≤ x → x < (a + b) / 2 → (rot d s m ((a + b) / 2 + m - s))[x]! = d[x + (m - s)]! := fun x h1 h2 => by rw [at_, if_pos (by omega)]
  have atM : ∀ x, (a + b) / 2 ≤ x → x < (a + b) / 2 + m - s → (rot d s m ((a + b) / 2 + m - s))[x]! = d[x - ((a + b) / 2 - s)]! := fun x h1 h2 => by
    rw [at_, if_neg (by omega), if_pos (by omega)]; exact at_cong d (by omega)
  have atZ : ∀ x, (a + b) / 2 + m - s ≤ x → (rot d s m ((a + b) / 2 + m - s))[x]! = d[x]! := fun x hx => by rw [at_, if_neg (by omega), if_neg (by omega)]
  refine ⟨b1, b2, by omega, b4, b3, by omega, ?_, ?_, ?_, ?_, ?_, ?_, ?_⟩
  · intro i j hi hi2 hj hj2
    by_cases ci : i < s
    · rw [atL i ci]
      by_cases cj : j < (a + b) / 2 + m - s
      · rw [atM j hj cj]; exact sL _ _ hi (by omega) (by omega)
      · rw [atZ j (by omega)]; exact q1 _ _ hi ci (by omega) hj2
    · rw [atR i (by omega) hi2]
      by_cases cj : j < (a + b) / 2 + m - s
      · rw [atM j hj cj]; exact hS.asymmA (q2 _ _ (by omega) (by omega) (by omega) (by omega))
      · rw [atZ j (by omega)]; exact sR _ _ (by omega) (by omega) hj2
  · intro i j hi hij hj; rw [atL i (by omega), atL j hj]; exact sL _ _ hi hij (by omega)
  · intro i j hi hij hj; rw [atR i hi (by omega), atR j (by omega) hj]; exact sR _ _ (by omega) (by omega) (by omega)
  · intro i j hi hij hj; rw [atM i hi (by omega), atM j (by omega) hj]; exact sL _ _ (by omega) (by omega) (by omega)
  · intro i j hi hij hj; rw [atZ i hi, atZ j (by omega)]; exact sR _ _ (by omega) hij hj
  · intro i j hi hi2 hj hj2; rw [atL i hi2, atR j hj hj2]; exact hC _ _ hi (by omega) (by omega) (by omega)
  · intro i j hi hi2 hj hj2; rw [atM i hi hi2, atZ j hj]; exact hC _ _ (by omega) (by omega) (by omega) hj2
/-- two halves, each sorted anew -/
theorem sym_join {ah : α → α → Bool} {d d1 d2 d3 : Array α} {a mid b : Nat} (h1 : a ≤ mid) (h2 : mid ≤ b) (hb : b ≤ d.size) (hP : PermIn a b d d1) (hall : ∀ i j, a ≤ i → i < mid → mid ≤ j → j < b → ah d1[j]! d1[i]! = false)
    (p2 : PermIn a mid d1 d2) (s2 : SortedIn ah a mid d2) (p3 : PermIn mid b d2 d3) (s3 : SortedIn ah mid b d3) : PermIn a b d d3 ∧ SortedIn ah a b d3 := by
  have z1 := hP.1
  have z2 := p2.1
  have z3 := p3.1
  refine ⟨permIn_trans _ _ _ _ _ hP (permIn_trans _ _ _ _ _ (permIn_mono _ _ _ _ _ _ (Nat.le_refl _) h2 (by omega) p2) (permIn_mono _ _ _ _ _ _ h1 (Nat.le_refl _) (by omega) p3)), fun i j hi hij hj => ?_⟩
  have o2 : ∀ k, mid ≤ k → d2[k]! = d1[k]! := fun k hk => p2.2.1 k (Or.inr hk)
  have o3 : ∀ k, k < mid → d3[k]! = d2[k]! := fun k hk => p3.2.1 k (Or.inl hk)
  by_cases cj : j < mid
  · rw [o3 j cj, o3 i (by omega)]; exact s2 i j hi hij cj
  · by_cases ci : i < mid
    · rw [o3 i ci]
      refine permIn_all d2 d3 mid b (fun y => ah y d2[i]! = false) (by omega) p3 (fun y hy hyb => ?_) j (by omega) hj
      show ah d2[y]! d2[i]! = false
      rw [o2 y hy]
      exact permIn_all d1 d2 a mid (fun x => ah d1[y]! x = false) (by omega) p2 (fun x hx hxm => hall x y hx hxm hy hyb) i hi ci
    · exact s3 i j (by omega) hij hj
end Go.Proofs.YthedigbdkjcpfaaDoor.Sta
/- A stable sort on arrays, part two: the insertion by a test that agrees with the order, and blocks of doubled length. Plain laws. -/
set_option linter.unusedVariables false
set_option linter.unusedSimpArgs false
namespace Go.Proofs.YthedigbdkjcpfaaDoor.Sta
open Go.Sort
variable {α : Type} [Inhabited α]
theorem insInner_eq {ah lt : α → α → Bool} (key : α → Nat) (hP : ∀ x y, key x < key y → lt y x = ah y x) (a : Nat) : ∀ (i : Nat) (d : Array α), i < d.size → (∀ k, a ≤ k → k < i → key d[k]! < key d[i]!) → insInner lt a i d = insInner ah a i d
  | 0, d, _, _ => by rw [insInner, insInner]
  | j + 1, d, hs, hk => by
    rw [insInner, insInner]
    by_cases h : j + 1 > a
    · have e := hP d[j]! d[j + 1]! (hk j (by omega) (by omega))
      have ih := insInner_eq key hP a j (swp d (j + 1) j) (by rw [size_swp]; omega) (fun k h1 h2 => by
        rw [swp_right _ _ _ (by omega), swp_other _ _ _ _ (by omega) (by omega)]; exact hk k h1 (by omega))
      rw [e, ih]
    · have e : decide (j + 1 > a) = false := decide_eq_false h
      rw [e, Bool.false_and, Bool.false_and]
      rfl
theorem insInner_perm (lt : α → α → Bool) (a : Nat) : ∀ (i : Nat) (d : Array α), a ≤ i → i < d.size → PermIn a (i + 1) d (insInner lt a i d)
  | 0, d, _, _ => by rw [insInner]; exact permIn_refl _ _ _
  | j + 1, d, ha, hs => by
    rw [insInner]
    split
    · rename_i h
      have h2 : a < j + 1 := by
        have := (Bool.and_eq_true_iff.1 h).1
        exact of_decide_eq_true this
      exact permIn_trans _ _ _ _ _ (swp_permIn d a (j + 1 + 1) (j + 1) j (by omega) (by omega) (by omega) (by omega) (by omega)) (permIn_mono _ _ _ _ _ _ (Nat.le_refl _) (by omega) (by rw [size_swp]; omega) (insInner_perm lt a j (swp d (j + 1) j) (by omega) (by rw [size_swp]; omega)))
    · exact permIn_refl _ _ _
theorem insOuter_eq {ah lt : α → α → Bool} (key : α → Nat) (hP : ∀ x y, key x < key y → lt y x = ah y x) (a b : Nat) : ∀ (n i : Nat) (d : Array α), b - i ≤ n → a ≤ i → b ≤ d.size → (∀ k k', a ≤ k → k < k' → i ≤ k' → k' < b → key d[k]! < key d[k']!) → insOuter lt a b i d = insOuter ah a b i d
  | 0, i, d, hn, _, _, _ => by
    rw [insOuter.eq_def lt, if_neg (by omega), insOuter.eq_def ah, if_neg (by omega)]
  | n + 1, i, d, hn, ha, hs, hk => by
    rw [insOuter.eq_def lt, insOuter.eq_def ah]
    by_cases h : i < b
    · rw [if_pos h, if_pos h, insInner_eq key hP a i d (by omega) (fun k h1 h2 => hk k i h1 h2 (Nat.le_refl _) h)]
      have hp := insInner_perm ah a i d ha (by omega)
      refine insOuter_eq key hP a b n (i + 1) _ (by omega) (by omega) (by rw [hp.1]; exact hs) (fun k k' h1 h2 h3 h4 => ?_)
      rw [hp.2.1 k' (Or.inr h3)]
      by_cases c : k < i + 1
      · exact permIn_all d _ a (i + 1) (fun x => key x < key d[k']!) (by omega) hp (fun z hz hz2 => hk z k' hz (by omega) (by omega) h4) k h1 c
      · rw [hp.2.1 k (Or.inr (by omega))]; exact hk k k' h1 h2 (by omega) h4
    · rw [if_neg h, if_neg h]
theorem insertion_sorted {ah lt : α → α → Bool} (hS : SWO ah) (key : α → Nat) (hP : ∀ x y, key x < key y → lt y x = ah y x) (d : Array α) (a b : Nat) (hab : a ≤ b) (hb : b ≤ d.size)
    (hk : ∀ k k', a ≤ k → k < k' → k' < b → key d[k]! < key d[k']!) : PermIn a b d (insertionSort lt d a b) ∧ SortedIn ah a b (insertionSort lt d a b) := by
  have e : insertionSort lt d a b = insertionSort ah d a b := by
    unfold insertionSort
    exact insOuter_eq key hP a b (b - (a + 1)) (a + 1) d (Nat.le_refl _) (by omega) hb (fun k k' h1 h2 _ h4 => hk k k' h1 h2 h4)
  rw [e]
  exact insertionSort_holds hS d a b hab hb
/-- blocks of bs places: each holds its own keys, and is sorted -/
structure Blk (ah : α → α → Bool) (key : α → Nat) (n bs : Nat) (d0 d : Array α) : Prop where
  size : d.size = n
  perm : PermIn 0 n d0 d
  keyed : ∀ k, k < n → key d[k]! / bs = k / bs
  srt : ∀ i j, i < j → j < n → i / bs = j / bs → ah d[j]! d[i]! = false
/-- .. up to A blocks of twice as many, from there on such blocks -/
structure Mix (ah : α → α → Bool) (key : α → Nat) (n bs A : Nat) (d0 d : Array α) : Prop where
  size : d.size = n
  perm : PermIn 0 n d0 d
  kA : ∀ k, k < n → k < A → key d[k]! / (2 * bs) = k / (2 * bs)
  kB : ∀ k, k < n → A ≤ k → key d[k]! / bs = k / bs
  sA : ∀ i j, i < j → j < n → j < A → i / (2 * bs) = j / (2 * bs) → ah d[j]! d[i]! = false
  sB : ∀ i j, i < j → j < n → A ≤ i → i / bs = j / bs → ah d[j]! d[i]! = false
/-- .. up to A sorted blocks, from there on as it was -/
structure Ins (ah : α → α → Bool) (key : α → Nat) (n bs A : Nat) (d0 d : Array α) : Prop where
  size : d.size = n
  perm : PermIn 0 n d0 d
  keyed : ∀ k, k < n → key d[k]! / bs = k / bs
  srt : ∀ i j, i < j → j < n → j < A → i / bs = j / bs → ah d[j]! d[i]! = false
  rest : ∀ k, A ≤ k → d[k]! = d0[k]!
theorem div_in {bs q k : Nat} (h1 : bs * q ≤ k) (h2 : k < bs * q + bs) : k / bs = q := by
  have hb : 0 < bs := by omega
  have e1 : q ≤ k / bs := (Nat.le_div_iff_mul_le hb).2 (by rw [Nat.mul_comm]; exact h1)
  have e2 : k / bs < q + 1 := (Nat.div_lt_iff_lt_mul hb).2 (by rw [Nat.mul_comm, Nat.mul_add, Nat.mul_one]; exact h2)
  omega
theorem div_ne {bs q i j : Nat} (hb : 0 < bs) (h1 : i < bs * q) (h2 : bs * q ≤ j) : i / bs < j / bs := by
  have e1 : q ≤ j / bs := (Nat.le_div_iff_mul_le hb).2 (by rw [Nat.mul_comm]; exact h2)
  have e2 : i / bs < q := (Nat.div_lt_iff_lt_mul hb).2 (by rw [Nat.mul_comm]; exact h1)
  omega
theorem key_lt {bs x y i j : Nat} (h1 : x / bs = i / bs) (h2 : y / bs = j / bs) (h : i / bs < j / bs) : x < y := by
  rcases Nat.lt_or_ge x y with h3 | h3
  · exact h3
  · have := Nat.div_le_div_right (c := bs) h3
    omega
theorem half {bs x k : Nat} (h : x / bs = k / bs) : x / (2 * bs) = k / (2 * bs) := by
  rw [Nat.mul_comm 2 bs, ← Nat.div_div_eq_div_mul, ← Nat.div_div_eq_div_mul, h]
theorem Ins.start {ah : α → α → Bool} {key : α → Nat} {n bs : Nat} {d0 : Array α} (hs : d0.size = n) (hk : ∀ k, k < n → key d0[k]! = k) : Ins ah key n bs 0 d0 d0 :=
  ⟨hs, permIn_refl _ _ _, fun k h => by rw [hk k h], fun _ j _ _ h _ => absurd h (Nat.not_lt_zero _), fun _ _ => rfl⟩
/-- one block more -/
theorem Ins.next {ah lt : α → α → Bool} (hS : SWO ah) {key : α → Nat} (hP : ∀ x y, key x < key y → lt y x = ah y x) {n bs q hi : Nat} {d0 d : Array α} (hk : ∀ k, k < n → key d0[k]! = k) (I : Ins ah key n bs (bs * q) d0 d)
    (h1 : bs * q ≤ hi) (h2 : hi ≤ n) (h3 : hi ≤ bs * q + bs) : Ins ah key n bs hi d0 (insertionSort lt d (bs * q) hi) := by
  have hs := I.size
  have hh := insertion_sorted hS key hP d (bs * q) hi h1 (by omega) (fun k k' a1 a2 a3 => by rw [I.rest k a1, I.rest k' (by omega), hk k (by omega), hk k' (by omega)]; exact a2)
  have hp := hh.1
  refine ⟨hp.1.trans hs, permIn_trans _ _ _ _ _ I.perm (permIn_mono _ _ _ _ _ _ (Nat.zero_le _) h2 (by omega) hp), fun k hk => ?_, fun i j hij hj hjh he => ?_, fun k hk => ?_⟩
  · by_cases c : bs * q ≤ k ∧ k < hi
    · rw [div_in c.1 (by omega)]
      exact permIn_all d _ _ _ (fun x => key x / bs = q) (by omega) hp (fun z z1 z2 => by rw [I.keyed z (by omega)]; exact div_in z1 (by omega)) k c.1 c.2
    · rw [hp.2.1 k (by omega)]; exact I.keyed k hk
  · by_cases c : bs * q ≤ i
    · exact hh.2 i j c hij hjh
    · have hb : 0 < bs := by
        rcases Nat.eq_zero_or_pos bs with h | h
        · rw [h, Nat.zero_mul] at c; omega
        · exact h
      have cj : j < bs * q := by
        rcases Nat.lt_or_ge j (bs * q) with h | h
        · exact h
        · have := div_ne hb (show i < bs * q by omega) h
          omega
      rw [hp.2.1 i (by omega), hp.2.1 j (by omega)]
      exact I.srt i j hij hj cj he
  · rw [hp.2.1 k (by omega)]; exact I.rest k (by omega)
theorem Ins.done {ah : α → α → Bool} {key : α → Nat} {n bs : Nat} {d0 d : Array α} (I : Ins ah key n bs n d0 d) : Blk ah key n bs d0 d := ⟨I.size, I.perm, I.keyed, fun i j h1 h2 h3 => I.srt i j h1 h2 h2 h3⟩
theorem Blk.mix {ah : α → α → Bool} {key : α → Nat} {n bs : Nat} {d0 d : Array α} (B : Blk ah key n bs d0 d) : Mix ah key n bs 0 d0 d :=
  ⟨B.size, B.perm, fun _ _ h => absurd h (Nat.not_lt_zero _), fun k h _ => B.keyed k h, fun _ _ _ _ h => absurd h (Nat.not_lt_zero _), fun i j h1 h2 _ h3 => B.srt i j h1 h2 h3⟩
theorem Mix.done {ah : α → α → Bool} {key : α → Nat} {n bs A : Nat} {d0 d : Array α} (M : Mix ah key n bs A d0 d) (h : n ≤ A) : Blk ah key n (2 * bs) d0 d :=
  ⟨M.size, M.perm, fun k hk => M.kA k hk (by omega), fun i j h1 h2 h3 => M.sA i j h1 h2 (by omega) h3⟩
theorem Blk.all {ah : α → α → Bool} {key : α → Nat} {n bs : Nat} {d0 d : Array α} (B : Blk ah key n bs d0 d) (h : n ≤ bs) : SortedIn ah 0 n d := fun i j _ hij hj =>
  B.srt i j hij hj (by rw [Nat.div_eq_of_lt (by omega), Nat.div_eq_of_lt (by omega)])
/-- what a merge of the block at A is asked: sorted halves, whose tests agree -/
theorem Mix.asks {ah lt : α → α → Bool} {key : α → Nat} (hP : ∀ x y, key x < key y → lt y x = ah y x) {n bs q hi : Nat} {d0 d : Array α} (hb : 0 < bs) (M : Mix ah key n bs (2 * bs * q) d0 d)
    (h1 : 2 * bs * q + bs < hi) (h2 : hi ≤ n) (h3 : hi ≤ 2 * bs * q + 2 * bs) :
    SortedIn ah (2 * bs * q) (2 * bs * q + bs) d ∧ SortedIn ah (2 * bs * q + bs) hi d ∧ ∀ i j, 2 * bs * q ≤ i → i < 2 * bs * q + bs → 2 * bs * q + bs ≤ j → j < hi → lt d[j]! d[i]! = ah d[j]! d[i]! := by
  have e1 : 2 * bs * q = bs * (2 * q) := by rw [Nat.mul_comm 2 bs, Nat.mul_assoc]
  have e2 : bs * (2 * q + 1) = 2 * bs * q + bs := by rw [Nat.mul_add, Nat.mul_one, e1]
  have dl : ∀ i, 2 * bs * q ≤ i → i < 2 * bs * q + bs → i / bs = 2 * q := fun i a1 a2 => div_in (by omega) (by omega)
  have dr : ∀ i, 2 * bs * q + bs ≤ i → i < hi → i / bs = 2 * q + 1 := fun i a1 a2 => div_in (by omega) (by omega)
  refine ⟨fun i j a1 a2 a3 => M.sB i j a2 (by omega) a1 (by rw [dl i a1 (by omega), dl j (by omega) a3]), fun i j a1 a2 a3 => M.sB i j a2 (by omega) (by omega) (by rw [dr i a1 (by omega), dr j (by omega) a3]), fun i j a1 a2 a3 a4 => ?_⟩
  refine hP _ _ (key_lt (M.kB i (by omega) a1) (M.kB j (by omega) (by omega)) ?_)
  rw [dl i a1 a2, dr j a3 a4]
  omega
/-- .. and what it leaves -/
theorem Mix.next {ah : α → α → Bool} {key : α → Nat} {n bs q hi : Nat} {d0 d d' : Array α} (hb : 0 < bs) (M : Mix ah key n bs (2 * bs * q) d0 d)
    (h1 : 2 * bs * q ≤ hi) (h2 : hi ≤ n) (h3 : hi ≤ 2 * bs * q + 2 * bs) (hr : hi = n ∨ hi = 2 * bs * q + 2 * bs) (hp : PermIn (2 * bs * q) hi d d') (hs : SortedIn ah (2 * bs * q) hi d') : Mix ah key n bs (2 * bs * q + 2 * bs) d0 d' := by
  have hz := M.size
  refine ⟨hp.1.trans hz, permIn_trans _ _ _ _ _ M.perm (permIn_mono _ _ _ _ _ _ (Nat.zero_le _) h2 (by omega) hp), fun k k1 k2 => ?_, fun k k1 k2 => ?_, fun i j hij hj hjA he => ?_, fun i j hij hj hA he => ?_⟩
  · by_cases c : 2 * bs * q ≤ k
    · rw [div_in c k2]
      refine permIn_all d _ _ _ (fun x => key x / (2 * bs) = q) (by omega) hp (fun z z1 z2 => ?_) k c (by omega)
      show key d[z]! / (2 * bs) = q
      rw [half (M.kB z (by omega) z1)]
      exact div_in z1 (by omega)
    · rw [hp.2.1 k (by omega)]; exact M.kA k k1 (by omega)
  · rw [hp.2.1 k (by omega)]; exact M.kB k k1 (by omega)
  · by_cases c : 2 * bs * q ≤ i
    · exact hs i j c hij (by omega)
    · have cj : j < 2 * bs * q := by
        rcases Nat.lt_or_ge j (2 * bs * q) with h | h
        · exact h
        · have := div_ne (show 0 < 2 * bs by omega) (show i < 2 * bs * q by omega) h
          omega
      rw [hp.2.1 i (by omega), hp.2.1 j (by omega)]
      exact M.sA i j hij hj cj he
  · rw [hp.2.1 i (by omega), hp.2.1 j (by omega)]
    exact M.sB i j hij hj (by omega) he
/-- a last block without a right half needs no merge -/
theorem Mix.last {ah : α → α → Bool} {key : α → Nat} {n bs q : Nat} {d0 d : Array α} (hb : 0 < bs) (M : Mix ah key n bs (2 * bs * q) d0 d) (h1 : n ≤ 2 * bs * q + bs) : Mix ah key n bs (2 * bs * q + 2 * bs) d0 d := by
  have e1 : 2 * bs * q = bs * (2 * q) := by rw [Nat.mul_comm 2 bs, Nat.mul_assoc]
  refine ⟨M.size, M.perm, fun k k1 k2 => ?_, fun k k1 k2 => M.kB k k1 (by omega), fun i j hij hj hjA he => ?_, fun i j hij hj hA he => M.sB i j hij hj (by omega) he⟩
  · by_cases c : 2 * bs * q ≤ k
    · exact half (M.kB k k1 c)
    · exact M.kA k k1 (by omega)
  · by_cases c : 2 * bs * q ≤ i
    · exact M.sB i j hij hj c (by rw [div_in (q := 2 * q) (by omega) (by omega), div_in (q := 2 * q) (by omega) (by omega)])
    · have cj : j < 2 * bs * q := by
        rcases Nat.lt_or_ge j (2 * bs * q) with h | h
        · exact h
        · have := div_ne (show 0 < 2 * bs by omega) (show i < 2 * bs * q by omega) h
          omega
      exact M.sA i j hij hj cj he
end Go.Proofs.YthedigbdkjcpfaaDoor.Sta
