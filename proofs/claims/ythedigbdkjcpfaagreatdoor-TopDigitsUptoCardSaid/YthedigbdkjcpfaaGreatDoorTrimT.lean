/- Trim: the fields of a text, joined by one space, as one pass over its bytes (the program's alone). -/
import Derived.Test.YthedigbdkjcpfaaGreatDoorPrintxchartrim
import Derived.Test.YthedigbdkjcpfaaGreatDoorPlainB
import Derived.Lib.JoinLaws
namespace Go.Proofs.YthedigbdkjcpfaaGreatDoor.TrimT
open Go.RowKit Go.Proofs.YthedigbdkjcpfaaGreatDoorW.PrintWords Go.Proofs.YthedigbdkjcpfaaGreatDoor.Plain Go.Proofs.YthedigbdkjcpfaaGreatDoor.Print
theorem size_len (s : ByteArray) : s.data.toList.length = s.size := by rw [Array.length_toList]; rfl
theorem toList_eq (s : ByteArray) : s.toList = s.data.toList := Lib.toList_data s
theorem extract_list (s : ByteArray) (a b : Nat) : (s.extract a b).data.toList = (s.data.toList.drop a).take (b - a) := Lib.extract_data s a b
theorem tail_list (s : ByteArray) (a : Nat) : (s.extract a s.size).data.toList = s.data.toList.drop a := by
  rw [extract_list, List.take_of_length_le (by rw [List.length_drop, size_len]; omega)]
theorem head_list (s : ByteArray) (a : Nat) : (s.extract 0 a).data.toList = s.data.toList.take a := by rw [extract_list]; simp
theorem bt_list (s : ByteArray) (i : Nat) (h : i < s.data.toList.length) : bt s (i : Int) = (s.data.toList[i].toNat : Int) := by
  rw [size_len] at h
  rw [← bt_at s i (by omega)]
  rfl
theorem ba_ext {a b : ByteArray} (h : a.data.toList = b.data.toList) : a = b := by
  cases a; cases b; congr 1; exact Array.ext' h

theorem mk_list (l : List UInt8) : (⟨l.toArray⟩ : ByteArray).data.toList = l := rfl
theorem mk_size (l : List UInt8) : (⟨l.toArray⟩ : ByteArray).size = l.length := by
  show l.toArray.size = _
  simp
def isB (b : UInt8) : Bool := b == 32 || b == 9 || b == 10 || b == 13
def trimGo (acc : List UInt8) (bl : Bool) : List UInt8 → List UInt8
  | [] => acc
  | b :: t => if isB b = true then trimGo acc true t
      else if bl = true ∧ acc ≠ [] then trimGo (acc ++ [32] ++ [b]) false t else trimGo (acc ++ [b]) false t
theorem isB_N (b : UInt8) : isB b = isBlankN b.toNat := by
  unfold isB isBlankN
  have h : ∀ n : Nat, n < 256 → (b == UInt8.ofNat n) = decide (b.toNat = n) := by
    intro n hn
    rw [Bool.eq_iff_iff]
    simp only [beq_iff_eq, decide_eq_true_eq]
    constructor
    · intro e; subst e; simp; omega
    · intro e; apply UInt8.toNat_inj.1; rw [e]; simp; omega
  have h32 := h 32 (by omega); have h9 := h 9 (by omega); have h10 := h 10 (by omega); have h13 := h 13 (by omega)
  simp only [show (UInt8.ofNat 32) = 32 from rfl, show (UInt8.ofNat 9) = 9 from rfl, show (UInt8.ofNat 10) = 10 from rfl, show (UInt8.ofNat 13) = 13 from rfl] at h32 h9 h10 h13
  rw [h32, h9, h10, h13]
theorem isBlankN_small (x : Nat) (h : isBlankN x = true) : x < 128 := by
  unfold isBlankN at h
  simp at h
  omega
/-- a run of bytes that are no blanks -/
theorem trimGo_run (bs rest : List UInt8) (hne : bs ≠ []) (hb : ∀ b ∈ bs, isB b = false) (acc : List UInt8) (bl : Bool) :
    trimGo acc bl (bs ++ rest) = trimGo ((if bl = true ∧ acc ≠ [] then acc ++ [32] else acc) ++ bs) false rest := by
  have tail : ∀ (bs : List UInt8) (acc : List UInt8), (∀ b ∈ bs, isB b = false) → trimGo acc false (bs ++ rest) = trimGo (acc ++ bs) false rest := by
    intro bs
    induction bs with
    | nil => intro acc _; simp
    | cons b t ih =>
      intro acc h
      rw [List.cons_append, trimGo, if_neg (by rw [h b (by simp)]; simp), if_neg (by simp), ih _ (fun x hx => h x (by simp [hx]))]
      simp
  cases bs with
  | nil => exact absurd rfl hne
  | cons b t =>
    rw [List.cons_append, trimGo, if_neg (by rw [hb b (by simp)]; simp)]
    by_cases hc : bl = true ∧ acc ≠ []
    · rw [if_pos hc, if_pos hc, tail t _ (fun x hx => hb x (by simp [hx]))]
      simp
    · rw [if_neg hc, if_neg hc, tail t _ (fun x hx => hb x (by simp [hx]))]
      simp
theorem trimGo_nil_bl (bl : Bool) (l : List UInt8) : trimGo [] bl l = trimGo [] false l := by
  cases l with
  | nil => rfl
  | cons b t => simp [trimGo]
theorem trimGo_end (l : List UInt8) (b : UInt8) (hb : isB b = true) : ∀ (acc : List UInt8) (bl : Bool), trimGo acc bl (l ++ [b]) = trimGo acc bl l := by
  induction l with
  | nil => intro acc bl; simp [trimGo, hb]
  | cons x t ih =>
    intro acc bl
    rw [List.cons_append, trimGo, trimGo]
    split
    · exact ih _ _
    · split <;> exact ih _ _
theorem trimGo_len (l : List UInt8) : ∀ (acc : List UInt8) (bl : Bool), (trimGo acc bl l).length ≤ acc.length + 2 * l.length := by
  induction l with
  | nil => intro acc bl; simp [trimGo]
  | cons x t ih =>
    intro acc bl
    rw [trimGo]
    split
    · have := ih acc true; simp only [List.length_cons]; omega
    · split
      · have := ih (acc ++ [32] ++ [x]) false; simp only [List.length_append, List.length_cons, List.length_nil] at this ⊢; omega
      · have := ih (acc ++ [x]) false; simp only [List.length_append, List.length_cons, List.length_nil] at this ⊢; omega

/-! ### fields -/
def Good (fs : List (List UInt8)) : Prop := ∀ f ∈ fs, f ≠ [] ∧ ∀ b ∈ f, isB b = false
theorem join_snoc (fs : List (List UInt8)) (x : List UInt8) : Lib.join (fs ++ [x]) [32] = (if fs = [] then [] else Lib.join fs [32] ++ [32]) ++ x := by
  cases fs with
  | nil => simp [Lib.join_one]
  | cons a r =>
    rw [List.cons_append, Lib.join_cons, Lib.join_cons, if_neg (by simp)]
    simp [Lib.joinTail]
theorem join_ne (fs : List (List UInt8)) (h : Good fs) (hne : fs ≠ []) : Lib.join fs [32] ≠ [] := by
  cases fs with
  | nil => exact absurd rfl hne
  | cons a r =>
    rw [Lib.join_cons]
    have := (h a (by simp)).1
    simp [this]
theorem join_count (fs : List (List UInt8)) (h : Good fs) : fs.length ≤ (Lib.join fs [32]).length := by
  cases fs with
  | nil => simp
  | cons a r =>
    rw [Lib.join_cons]
    have ha : 1 ≤ a.length := List.length_pos_iff.2 (h a (by simp)).1
    have hr : r.length ≤ (Lib.joinTail [32] r).length := by
      unfold Lib.joinTail
      clear h ha
      induction r with
      | nil => simp
      | cons x t ih => simp; simp at ih; omega
    simp only [List.length_append, List.length_cons]
    omega
/-- joined fields are trimmed already -/
theorem trim_join (fs : List (List UInt8)) (h : Good fs) : trimGo [] false (Lib.join fs [32]) = Lib.join fs [32] := by
  have tail : ∀ (r : List (List UInt8)) (acc : List UInt8) (bl : Bool), Good r → acc ≠ [] → trimGo acc bl (Lib.joinTail [32] r) = acc ++ Lib.joinTail [32] r := by
    intro r
    induction r with
    | nil => intro acc bl _ _; simp [Lib.joinTail, trimGo]
    | cons x t ih =>
      intro acc bl hg hacc
      have e : Lib.joinTail [32] (x :: t) = 32 :: (x ++ Lib.joinTail [32] t) := by simp [Lib.joinTail]
      rw [e, trimGo, if_pos (by decide), trimGo_run x _ (hg x (by simp)).1 (hg x (by simp)).2, if_pos ⟨rfl, hacc⟩, ih _ _ (fun y hy => hg y (by simp [hy])) (by simp)]
      simp
  cases fs with
  | nil => rfl
  | cons a r =>
    rw [Lib.join_cons, trimGo_run a _ (h a (by simp)).1 (h a (by simp)).2, if_neg (by simp), List.nil_append, tail r a false (fun y hy => h y (by simp [hy])) (h a (by simp)).1]

/-! ### the spans of Go's FieldsFunc -/
def cells (s : ByteArray) (acc : List (Nat × Nat)) : List (List UInt8) := acc.map fun x => (s.extract x.1 x.2).data.toList
def curL (s : ByteArray) (st : Option Nat) (acc : List (Nat × Nat)) (pos : Nat) : List (List UInt8) :=
  cells s acc ++ (match st with | some a => [(s.extract a pos).data.toList] | none => [])
theorem extract_grow (s : ByteArray) (a pos N : Nat) (h1 : a ≤ pos) : (s.extract a (pos + N)).data.toList = (s.extract a pos).data.toList ++ (s.data.toList.drop pos).take N := by
  rw [extract_list, extract_list, show pos + N - a = (pos - a) + N from by omega, List.take_add, List.drop_drop, show a + (pos - a) = pos from by omega]
theorem spans_trim (s : ByteArray) : ∀ (f pos : Nat) (st : Option Nat) (acc : List (Nat × Nat)), pos ≤ s.size → s.size - pos ≤ f → (∀ a, st = some a → a < pos) → Good (curL s st acc pos) →
    Good (cells s (Lib.closeSpans s (Lib.spansFromP isBlankN s f pos st acc))) ∧
    Lib.join (cells s (Lib.closeSpans s (Lib.spansFromP isBlankN s f pos st acc))) [32] = trimGo (Lib.join (curL s st acc pos) [32]) st.isNone (s.data.toList.drop pos) := by
  intro f
  have hsl := size_len s
  have done : ∀ pos st (acc : List (Nat × Nat)), pos = s.size → Good (curL s st acc pos) →
      Good (cells s (Lib.closeSpans s (acc, st))) ∧ Lib.join (cells s (Lib.closeSpans s (acc, st))) [32] = trimGo (Lib.join (curL s st acc pos) [32]) st.isNone [] := by
    intro pos st acc hp hg
    subst hp
    cases st with
    | none => simp only [Lib.closeSpans, trimGo]; simp only [curL, List.append_nil] at hg ⊢; exact ⟨hg, trivial⟩
    | some a =>
      have : cells s (Lib.closeSpans s (acc, some a)) = curL s (some a) acc s.size := by simp [Lib.closeSpans, cells, curL]
      rw [this]
      exact ⟨hg, by simp [trimGo]⟩
  induction f with
  | zero =>
    intro pos st acc hp hf hst hg
    have e : s.data.toList.drop pos = [] := List.drop_of_length_le (by omega)
    rw [e]
    exact done pos st acc (by omega) hg
  | succ f ih =>
    intro pos st acc hp hf hst hg
    by_cases hlt : pos < s.size
    · have hne := drop_ne s pos hlt
      obtain ⟨R, N, hd, h1, h2, _, hs⟩ := decode_bytes _ hne
      have hU : Utf8.decode s pos = (R, N) := (Lib.decodeL_drop s pos).symm.trans hd
      rw [List.length_drop, hsl] at h2
      have hsplit : s.data.toList.drop pos = (s.data.toList.drop pos).take N ++ s.data.toList.drop (pos + N) := by
        rw [← List.drop_drop, List.take_append_drop]
      have hun : ∀ (st : Option Nat) (acc : List (Nat × Nat)), Lib.spansFromP isBlankN s (f + 1) pos st acc = if isBlankN R = true then (match st with
         | some a => Lib.spansFromP isBlankN s f (pos + N) none (acc ++ [(a, pos)])
         | none => Lib.spansFromP isBlankN s f (pos + N) none acc) else (match st with
         | some a => Lib.spansFromP isBlankN s f (pos + N) (some a) acc
         | none => Lib.spansFromP isBlankN s f (pos + N) (some pos) acc) := by
        intro st acc
        show (if pos < s.size then _ else _) = _
        rw [if_pos hlt, hU]
        cases st <;> rfl
      rw [hun]
      by_cases hb : isBlankN R = true
      · rw [if_pos hb]
        have hR := isBlankN_small R hb
        rcases hs with ⟨b, t, e, rfl, hb2, rfl⟩ | ⟨hbad, _⟩
        · have hbB : isB b = true := by rw [isB_N]; exact hb
          have hdrop : s.data.toList.drop (pos + 1) = t := by rw [← List.drop_drop, e]; rfl
          rw [e, trimGo, if_pos hbB, ← hdrop]
          cases st with
          | some a =>
            have key := ih (pos + 1) none (acc ++ [(a, pos)]) (by omega) (by omega) (by intro a h; cases h)
            have e2 : curL s none (acc ++ [(a, pos)]) (pos + 1) = curL s (some a) acc pos := by simp [curL, cells]
            rw [e2] at key
            exact key hg
          | none =>
            have key := ih (pos + 1) none acc (by omega) (by omega) (by intro a h; cases h)
            have e2 : curL s none acc (pos + 1) = curL s none acc pos := by simp [curL]
            rw [e2] at key
            exact key hg
        · omega
      · rw [if_neg hb]
        have hbs : ∀ b ∈ (s.data.toList.drop pos).take N, isB b = false := by
          intro b hbm
          rcases hs with ⟨c, t, e, rfl, hb2, rfl⟩ | ⟨_, hall⟩
          · rw [e] at hbm
            simp at hbm
            subst hbm
            rw [isB_N]
            simpa using hb
          · have := hall b hbm
            cases hB : isB b with
            | false => rfl
            | true => have := isBlankN_small _ (by rw [← isB_N]; exact hB); omega
        have hbne : (s.data.toList.drop pos).take N ≠ [] := by
          intro e
          have := congrArg List.length e
          rw [List.length_take, List.length_drop, hsl, List.length_nil] at this
          omega
        rw [hsplit, trimGo_run _ _ hbne hbs]
        cases st with
        | some a =>
          have ha := hst a rfl
          have e2 : curL s (some a) acc (pos + N) = cells s acc ++ [(s.extract a pos).data.toList ++ (s.data.toList.drop pos).take N] := by
            simp only [curL, extract_grow s a pos N (by omega)]
          have hg2 : Good (curL s (some a) acc (pos + N)) := by
            rw [e2]
            intro x hx
            rcases List.mem_append.1 hx with hx | hx
            · exact hg x (by simp only [curL]; exact List.mem_append_left _ hx)
            · have hx := List.mem_singleton.1 hx
              subst hx
              have h0 := hg _ (show (s.extract a pos).data.toList ∈ curL s (some a) acc pos from by simp only [curL]; exact List.mem_append_right _ (by simp))
              exact ⟨fun h => h0.1 (List.append_eq_nil_iff.1 h).1, fun b hb3 => by rcases List.mem_append.1 hb3 with h | h; exact h0.2 b h; exact hbs b h⟩
          have key := ih (pos + N) (some a) acc (by omega) (by omega) (by intro a2 h; cases h; omega) hg2
          refine ⟨key.1, key.2.trans ?_⟩
          rw [e2, join_snoc]
          have e3 : curL s (some a) acc pos = cells s acc ++ [(s.extract a pos).data.toList] := rfl
          rw [e3, join_snoc]
          simp
        | none =>
          have e2 : curL s (some pos) acc (pos + N) = cells s acc ++ [(s.data.toList.drop pos).take N] := by
            simp only [curL, extract_list, show pos + N - pos = N from by omega]
          have e3 : curL s none acc pos = cells s acc := by simp [curL]
          rw [e3] at hg
          have hg2 : Good (curL s (some pos) acc (pos + N)) := by
            rw [e2]
            intro x hx
            rcases List.mem_append.1 hx with hx | hx
            · exact hg x hx
            · simp at hx
              subst hx
              exact ⟨hbne, hbs⟩
          have key := ih (pos + N) (some pos) acc (by omega) (by omega) (by intro a2 h; cases h; omega) hg2
          refine ⟨key.1, key.2.trans ?_⟩
          rw [e2, join_snoc, e3]
          simp only [Option.isNone_some, Option.isNone_none]
          by_cases hc : cells s acc = []
          · rw [if_pos hc, hc]; simp [Lib.join_nil]
          · rw [if_neg hc, if_pos ⟨trivial, join_ne _ hg hc⟩]
    · rw [Lib.spansFromP_end _ _ _ _ _ _ hlt]
      have e : s.data.toList.drop pos = [] := List.drop_of_length_le (by omega)
      rw [e]
      exact done pos st acc (by omega) hg
theorem trimList_go (s : ByteArray) : trimList s = trimGo [] false s.data.toList ∧ Good ((Lib.goFieldsP isBlankN s).map (·.data.toList)) := by
  have h := spans_trim s s.size 0 none [] (by omega) (by omega) (by intro a h; cases h) (by intro x hx; simp [curL, cells] at hx)
  have e : cells s (Lib.closeSpans s (Lib.spansFromP isBlankN s s.size 0 none [])) = (Lib.goFieldsP isBlankN s).map (·.data.toList) := by
    simp [cells, Lib.goFieldsP, Lib.spansOfP]
  rw [e] at h
  refine ⟨?_, h.1⟩
  unfold trimList
  rw [h.2]
  simp only [curL, cells, List.map_nil, List.append_nil, Lib.join_nil, List.drop_zero]
  exact trimGo_nil_bl _ _
theorem trim_f (s : ByteArray) (hs : s.size ≤ 1000000000) : xchar_Trim.f s = some ⟨(trimGo [] false s.data.toList).toArray⟩ := by
  obtain ⟨h1, h2⟩ := trimList_go s
  have hl := trimGo_len s.data.toList [] false
  rw [size_len, List.length_nil] at hl
  have hc := join_count _ h2
  rw [List.length_map] at hc
  have e : Lib.join ((Lib.goFieldsP isBlankN s).map (·.data.toList)) [32] = trimGo [] false s.data.toList := h1
  rw [e] at hc
  unfold xchar_Trim.f
  rw [h1, if_pos ⟨by omega, by omega, by omega⟩]
end Go.Proofs.YthedigbdkjcpfaaGreatDoor.TrimT
