/- Cut and Count: a text's runes, one behind the other. -/
import Derived.Test.YtinefoocajnhmaaDoorPrintxcharcut
import Derived.Test.YtinefoocajnhmaaDoorPrintf45
import Derived.Test.YtinefoocajnhmaaDoorFactsB
import Derived.Lib.RuneCount
set_option linter.unusedSimpArgs false
namespace Go.Proofs.YtinefoocajnhmaaDoor.Facts
open Go.RowKit Go.Proofs.YtinefoocajnhmaaDoorW.PrintWords Go.Proofs.YtinefoocajnhmaaDoor.Plain Go.Proofs.YtinefoocajnhmaaDoor.Print Go.Lib

theorem dec2 (n b0 b1 b2 b3 : Nat) (h1 : b0 / 32 = 6) (h2 : 1 < n) (h3 : b1 / 64 = 2) (h4 : 128 ≤ b0 % 32 * 64 + b1 % 64) : decodeN n b0 b1 b2 b3 = (b0 % 32 * 64 + b1 % 64, 2) := by
  unfold decodeN
  rw [if_neg (by omega), if_pos ⟨h1, h2, h3⟩, if_pos h4]
theorem dec3 (n b0 b1 b2 b3 : Nat) (h1 : b0 / 16 = 14) (h2 : 2 < n) (h3 : b1 / 64 = 2) (h4 : b2 / 64 = 2) (h5 : 2048 ≤ b0 % 16 * 4096 + b1 % 64 * 64 + b2 % 64)
    (h6 : b0 % 16 * 4096 + b1 % 64 * 64 + b2 % 64 < 55296 ∨ 57344 ≤ b0 % 16 * 4096 + b1 % 64 * 64 + b2 % 64) : decodeN n b0 b1 b2 b3 = (b0 % 16 * 4096 + b1 % 64 * 64 + b2 % 64, 3) := by
  unfold decodeN
  rw [if_neg (by omega), if_neg (by omega), if_pos ⟨h1, ⟨by omega, h3⟩, h2, h4⟩, if_pos ⟨h5, by omega⟩]
theorem dec4 (n b0 b1 b2 b3 : Nat) (h1 : b0 / 8 = 30) (h2 : 3 < n) (h3 : b1 / 64 = 2) (h4 : b2 / 64 = 2) (h5 : b3 / 64 = 2) (h6 : 65536 ≤ b0 % 8 * 262144 + b1 % 64 * 4096 + b2 % 64 * 64 + b3 % 64)
    (h7 : b0 % 8 * 262144 + b1 % 64 * 4096 + b2 % 64 * 64 + b3 % 64 ≤ 1114111) : decodeN n b0 b1 b2 b3 = (b0 % 8 * 262144 + b1 % 64 * 4096 + b2 % 64 * 64 + b3 % 64, 4) := by
  unfold decodeN
  rw [if_neg (by omega), if_neg (by omega), if_neg (by omega), if_pos ⟨h1, ⟨by omega, h3⟩, ⟨by omega, h4⟩, h2, h5⟩, if_pos ⟨h6, by omega⟩]
/-- the decoder reads no further than the rune that it tells -/
theorem decodeN_take (n m b0 b1 b2 b3 c1 c2 c3 : Nat) (hm : (decodeN n b0 b1 b2 b3).2 ≤ m) (h1 : 1 < m → 1 < n → c1 = b1) (h2 : 2 < m → 2 < n → c2 = b2) (h3 : 3 < m → 3 < n → c3 = b3) :
    decodeN (min m n) b0 c1 c2 c3 = decodeN n b0 b1 b2 b3 := by
  rcases decodeN_shape n b0 b1 b2 b3 with ⟨c, e⟩ | ⟨d1, d2, d3, d4, e⟩ | ⟨d1, d2, d3, d4, d5, d6, e⟩ | ⟨d1, d2, d3, d4, d5, d6, d7, e⟩ | e
  · rw [e]; unfold decodeN; rw [if_pos c]
  · rw [e] at hm ⊢
    simp only at hm
    obtain rfl := h1 (by omega) (by omega)
    exact dec2 _ _ _ _ _ d1 (by omega) d3 d4
  · rw [e] at hm ⊢
    simp only at hm
    obtain rfl := h1 (by omega) (by omega)
    obtain rfl := h2 (by omega) (by omega)
    exact dec3 _ _ _ _ _ d1 (by omega) d3 d4 d5 d6
  · rw [e] at hm ⊢
    simp only at hm
    obtain rfl := h1 (by omega) (by omega)
    obtain rfl := h2 (by omega) (by omega)
    obtain rfl := h3 (by omega) (by omega)
    exact dec4 _ _ _ _ _ d1 (by omega) d3 d4 d5 d6 d7
  · rw [e]
    rcases decodeN_shape (min m n) b0 c1 c2 c3 with ⟨c, e2⟩ | ⟨d1, d2, d3, d4, e2⟩ | ⟨d1, d2, d3, d4, d5, d6, e2⟩ | ⟨d1, d2, d3, d4, d5, d6, d7, e2⟩ | e2
    · unfold decodeN at e
      rw [if_pos c] at e
      rw [e2, e]
    · exfalso
      obtain rfl := h1 (by omega) (by omega)
      have := dec2 n b0 c1 b2 b3 d1 (by omega) d3 d4
      rw [e] at this
      exact absurd (congrArg Prod.snd this) (by simp)
    · exfalso
      obtain rfl := h1 (by omega) (by omega)
      obtain rfl := h2 (by omega) (by omega)
      have := dec3 n b0 c1 c2 b3 d1 (by omega) d3 d4 d5 d6
      rw [e] at this
      exact absurd (congrArg Prod.snd this) (by simp)
    · exfalso
      obtain rfl := h1 (by omega) (by omega)
      obtain rfl := h2 (by omega) (by omega)
      obtain rfl := h3 (by omega) (by omega)
      have := dec4 n b0 c1 c2 c3 d1 (by omega) d3 d4 d5 d6 d7
      rw [e] at this
      exact absurd (congrArg Prod.snd this) (by simp)
    · exact e2
theorem decodeL_take (l : List UInt8) (m : Nat) (hm : (decodeL l).2 ≤ m) : decodeL (l.take m) = decodeL l := by
  have h1 := decodeL_width l
  rw [decodeL_N] at hm h1
  rw [decodeL_N, decodeL_N, List.length_take]
  have g : ∀ i, i < m → (l.take m).getD i 0 = l.getD i 0 := by
    intro i hi
    simp [List.getD, List.getElem?_take, hi]
  rw [g 0 (by omega)]
  exact decodeN_take _ _ _ _ _ _ _ _ _ hm (fun h _ => by rw [g 1 h]) (fun h _ => by rw [g 2 h]) (fun h _ => by rw [g 3 h])

/-! ### how many runes; where the i-th begins -/
def cntL : Nat → List UInt8 → Nat
  | 0, _ => 0
  | f + 1, l => if l = [] then 0 else 1 + cntL f (l.drop (decodeL l).2)
def advL : Nat → List UInt8 → Nat
  | 0, _ => 0
  | i + 1, l => if l = [] then 0 else (decodeL l).2 + advL i (l.drop (decodeL l).2)
theorem count_from (s : ByteArray) : ∀ (f pos : Nat), runeCountFrom s f pos = cntL f (s.data.toList.drop pos) := by
  intro f
  induction f with
  | zero => intro pos; rfl
  | succ f ih =>
    intro pos
    rw [runeCountFrom, cntL]
    by_cases h : pos < s.size
    · rw [if_pos h, if_neg (drop_ne s pos h), ih, decodeL_drop, List.drop_drop]
    · rw [if_neg h, if_pos (drop_nil s pos h)]
theorem adv_le : ∀ (i : Nat) (l : List UInt8), advL i l ≤ l.length := by
  intro i
  induction i with
  | zero => intro l; simp [advL]
  | succ i ih =>
    intro l
    rw [advL]
    split
    · omega
    · rename_i h
      have h1 := ih (l.drop (decodeL l).2)
      have h2 := decodeL_le l h
      rw [List.length_drop] at h1
      omega
theorem cnt_take : ∀ (i f : Nat) (l : List UInt8), l.length ≤ f → ∀ g, (l.take (advL i l)).length ≤ g → cntL g (l.take (advL i l)) = min i (cntL f l) := by
  intro i
  induction i with
  | zero => intro f l _ g _; cases g <;> simp [advL, cntL]
  | succ i ih =>
    intro f l hf g hg
    by_cases h : l = []
    · subst h; cases g <;> cases f <;> simp [cntL]
    · have hpos : 0 < l.length := List.length_pos_iff.2 h
      have h1 := decodeL_width l
      have h2 := decodeL_le l h
      obtain ⟨f, rfl⟩ : ∃ m, f = m + 1 := ⟨f - 1, by omega⟩
      rw [advL, if_neg h] at hg ⊢
      have hne : l.take ((decodeL l).2 + advL i (l.drop (decodeL l).2)) ≠ [] := by
        intro e
        have := congrArg List.length e
        rw [List.length_take, List.length_nil] at this
        omega
      have hgl : 0 < (l.take ((decodeL l).2 + advL i (l.drop (decodeL l).2))).length := List.length_pos_iff.2 hne
      obtain ⟨g, rfl⟩ : ∃ m, g = m + 1 := ⟨g - 1, by omega⟩
      rw [cntL, if_neg hne, decodeL_take _ _ (by omega), cntL, if_neg h]
      have hd : (l.take ((decodeL l).2 + advL i (l.drop (decodeL l).2))).drop (decodeL l).2 = (l.drop (decodeL l).2).take (advL i (l.drop (decodeL l).2)) := by
        rw [List.drop_take]
        congr 1
        omega
      rw [hd, ih f _ (by rw [List.length_drop]; omega) g (by rw [← hd, List.length_drop]; omega)]
      omega
theorem adv_end : ∀ (f i : Nat) (l : List UInt8), l.length ≤ f → cntL f l ≤ i → advL i l = l.length := by
  intro f
  induction f with
  | zero =>
    intro i l hf _
    have := adv_le i l
    omega
  | succ f ih =>
    intro i l hf hi
    by_cases h : l = []
    · subst h; have := adv_le i []; simp at this ⊢; exact this
    · have h1 := decodeL_width l
      have h2 := decodeL_le l h
      rw [cntL, if_neg h] at hi
      obtain ⟨i, rfl⟩ : ∃ m, i = m + 1 := ⟨i - 1, by omega⟩
      rw [advL, if_neg h, ih i _ (by rw [List.length_drop]; omega) (by omega), List.length_drop]
      omega
/-- what the loop of Cut picks -/
def sel (l : List UInt8) (pos k : Nat) (x : Int) (d : Nat) : Nat := if (k : Int) ≤ x ∧ advL (x - k).toNat l < l.length then pos + advL (x - k).toNat l else d
theorem sel_step (l : List UInt8) (h : l ≠ []) (pos k : Nat) (x : Int) (d : Nat) :
    sel (l.drop (decodeL l).2) (pos + (decodeL l).2) (k + 1) x (if (k : Int) = x then pos else d) = sel l pos k x d := by
  have hpos : 0 < l.length := List.length_pos_iff.2 h
  have h2 := decodeL_le l h
  unfold sel
  by_cases h0 : (k : Int) = x
  · subst h0
    rw [if_neg (by omega), if_pos rfl, Int.sub_self]
    simp [advL, hpos]
  · rw [if_neg h0]
    by_cases h1 : (k : Int) ≤ x
    · have e : (x - k).toNat = (x - ((k + 1 : Nat) : Int)).toNat + 1 := by omega
      rw [e, advL, if_neg h, List.length_drop]
      split
      · rename_i hc
        rw [if_pos ⟨h1, by omega⟩]
        omega
      · rename_i hc
        rw [if_neg]
        rintro ⟨_, hx⟩
        exact hc ⟨by omega, by omega⟩
    · rw [if_neg (by omega), if_neg (by omega)]
theorem cut_sel (s : ByteArray) (x y : Int) : ∀ (f pos k b e : Nat), s.size - pos ≤ f → cutGo s x y f pos k b e = (sel (s.data.toList.drop pos) pos k x b, sel (s.data.toList.drop pos) pos k y e) := by
  intro f
  induction f with
  | zero =>
    intro pos k b e hf
    rw [cutGo, drop_nil s pos (by omega)]
    simp [sel]
  | succ f ih =>
    intro pos k b e hf
    rw [cutGo]
    by_cases h : pos < s.size
    · have hw := decodeL_width (s.data.toList.drop pos)
      rw [decodeL_drop] at hw
      rw [if_pos h, ih _ _ _ _ (by omega), ← sel_step _ (drop_ne s pos h) pos k x b, ← sel_step _ (drop_ne s pos h) pos k y e, decodeL_drop, List.drop_drop]
    · rw [if_neg h, drop_nil s pos h]
      simp [sel]
theorem cut_f (s : ByteArray) (hs : s.size ≤ 1000000000) (a b : Int) : xchar_Cut.f s a b =
    some (if b ≤ cutFrom a then ⟨#[]⟩ else s.extract (advL (cutFrom a).toNat s.data.toList) (advL b.toNat s.data.toList)) := by
  have hl := size_len s
  have h0 : 0 ≤ cutFrom a := by unfold cutFrom; split <;> omega
  have one : ∀ x : Int, 0 ≤ x → sel (s.data.toList.drop 0) 0 0 x s.size = advL x.toNat s.data.toList := by
    intro x hx
    have := adv_le x.toNat s.data.toList
    unfold sel
    simp only [List.drop_zero, Int.natCast_zero, Int.sub_zero, Nat.zero_add]
    split
    · rfl
    · rename_i hc
      have : ¬ advL x.toNat s.data.toList < s.data.toList.length := fun h => hc ⟨hx, h⟩
      omega
  unfold xchar_Cut.f
  rw [if_pos (by omega), cut_sel s _ _ _ _ _ _ _ (by omega)]
  simp only
  congr 1
  by_cases hb : b ≤ cutFrom a
  · rw [if_pos (.inl hb), if_pos hb]
  · rw [if_neg hb, one _ h0, one b (by omega)]
    split
    · rename_i hc
      rcases hc with hc | hc
      · exact absurd hc hb
      · apply ba_ext
        rw [extract_list, show ∀ a b : Nat, a > b → b - a = 0 from fun a b h => by omega]
        · rfl
        · exact hc
    · rfl
theorem count_f (s : ByteArray) (hs : s.size ≤ 1000000000) : xchar_Count.f s = some ((cntL s.size s.data.toList : Nat) : Int) := by
  unfold xchar_Count.f utf8_RuneCountInString.f runeCount
  rw [if_pos (by omega), count_from]
  simp
end Go.Proofs.YtinefoocajnhmaaDoor.Facts
