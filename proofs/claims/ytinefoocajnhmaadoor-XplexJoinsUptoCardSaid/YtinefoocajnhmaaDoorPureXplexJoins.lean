/- XplexJoins, without Go and memory. -/
import Derived.Test.YtinefoocajnhmaaDoorPrintf49
import Derived.Test.YtinefoocajnhmaaDoorPrintf19
import Derived.Test.YtinefoocajnhmaaDoorScanH
set_option linter.unusedSimpArgs false
namespace Go.Proofs.YtinefoocajnhmaaDoor.Pure
open Go.RowKit Go.Proofs.YtinefoocajnhmaaDoorW.PrintWords Go.Proofs.YtinefoocajnhmaaDoor.Plain Go.Proofs.YtinefoocajnhmaaDoor.Print Go.Proofs.YtinefoocajnhmaaDoor.Enc Go.Proofs.YtinefoocajnhmaaDoor.Scan Go.Lib
theorem bt_byte (s : ByteArray) (i : Nat) (h : i < s.data.toList.length) : bt s (i : Int) = (s.data.toList[i].toNat : Int) := by
  have hs : i < s.size := by rw [← sz]; exact h
  have h4 := bt_at s i hs
  have e : s[i]'hs = s.data.toList[i] := by rw [Array.getElem_toList]; rfl
  rw [← e]
  exact h4.symm
theorem byte_eq (c d : UInt8) : ((c.toNat : Int) == (d.toNat : Int)) = (c == d) := by
  rw [Bool.eq_iff_iff, beq_iff_eq, beq_iff_eq]
  constructor
  · intro h; exact UInt8.toNat_inj.1 (by omega)
  · rintro rfl; rfl
theorem litref_end (s : ByteArray) (hz : s.size ≤ 1048576) (k : Nat) : stencilref05_Literal.l0 (k + 2) s (decide ((34 : UInt8) ∈ s.data.toList)) (decide ((39 : UInt8) ∈ s.data.toList)) (s.size : Int) = some (litB s) := by
  have c1 : 1 + s.size ≤ 9223372036854775807 := by omega
  have c2 : 1 + s.size + 1 ≤ 9223372036854775807 := by omega
  unfold litB
  rw [stencilref05_Literal.l0, if_neg (by omega)]
  by_cases h34 : (34 : UInt8) ∈ s.data.toList <;> by_cases h39 : (39 : UInt8) ∈ s.data.toList <;>
    simp only [h34, h39, decide_true, decide_false, stencilref05_Literal.j1, if_true, if_false, Bool.false_eq_true, not_true, not_false_eq_true, c1, c2]
theorem mem_take (c : UInt8) (l : List UInt8) (i : Nat) (h : i < l.length) : decide (c ∈ l.take (i + 1)) = (decide (c ∈ l.take i) || (l[i] == c)) := by
  rw [Bool.eq_iff_iff, List.take_succ_eq_append_getElem h]
  simp only [List.mem_append, List.mem_singleton, Bool.or_eq_true, decide_eq_true_eq, beq_iff_eq]
  constructor
  · rintro (h | h)
    · exact .inl h
    · exact .inr h.symm
  · rintro (h | h)
    · exact .inl h
    · exact .inr h.symm
theorem litref_l0 (s : ByteArray) (hz : s.size ≤ 1048576) : ∀ (d i k : Nat), s.size - i ≤ d → d + 2 ≤ k → i ≤ s.size →
    stencilref05_Literal.l0 k s (decide ((34 : UInt8) ∈ s.data.toList.take i)) (decide ((39 : UInt8) ∈ s.data.toList.take i)) (i : Int) = some (litB s) := by
  intro d
  induction d with
  | zero =>
    intro i k hd hk hi
    obtain ⟨k, rfl⟩ : ∃ m, k = m + 2 := ⟨k - 2, by omega⟩
    obtain rfl : i = s.size := by omega
    rw [List.take_of_length_le (by rw [sz]; exact Nat.le_refl _)]
    exact litref_end s hz k
  | succ d ih =>
    intro i k hd hk hi
    by_cases hlt : i < s.size
    · obtain ⟨k, rfl⟩ : ∃ m, k = m + 1 := ⟨k - 1, by omega⟩
      have hll : i < s.data.toList.length := by rw [sz]; exact hlt
      have hb := bt_byte s i hll
      have hw : wrap64 ((i : Int) + 1) = ((i + 1 : Nat) : Int) := by unfold wrap64; omega
      have hnext := ih (i + 1) k (by omega) (by omega) (by omega)
      rw [mem_take 34 _ i hll, mem_take 39 _ i hll] at hnext
      have e34 : (bt s (i : Int) == 34) = (s.data.toList[i] == 34) := by rw [hb]; exact byte_eq _ 34
      have e39 : (bt s (i : Int) == 39) = (s.data.toList[i] == 39) := by rw [hb]; exact byte_eq _ 39
      rw [stencilref05_Literal.l0, if_pos (by omega), hw, e34, e39]
      cases h4 : decide ((34 : UInt8) ∈ s.data.toList.take i) <;> cases h5 : decide ((39 : UInt8) ∈ s.data.toList.take i) <;> rw [h4, h5] at hnext
      · simp only [Bool.false_or] at hnext
        rw [if_neg (by decide), if_pos (by omega), if_neg (by decide)]
        exact hnext
      · simp only [Bool.false_or, Bool.true_or] at hnext
        rw [if_neg (by decide), if_pos (by omega), if_pos rfl]
        exact hnext
      · simp only [Bool.false_or, Bool.true_or] at hnext
        rw [if_pos rfl, if_neg (by decide), if_pos (by omega)]
        exact hnext
      · simp only [Bool.true_or] at hnext
        rw [if_pos rfl, if_pos rfl]
        exact hnext
    · exact ih i k (by omega) (by omega) hi
theorem litref_f (s : ByteArray) (hz : s.size ≤ 1048576) (k : Nat) (hk : s.size + 2 ≤ k) : stencilref05_Literal.f k s = some (litB s) := by
  have := litref_l0 s hz s.size 0 k (by omega) hk (Nat.zero_le _)
  simpa [stencilref05_Literal.f] using this
theorem join_end (fs : List (List UInt8)) (x : List UInt8) : Lib.join (fs ++ [x]) [32] = (if fs = [] then [] else Lib.join fs [32] ++ [32]) ++ x := by
  rcases fs with _ | ⟨a, fs⟩
  · simp [Lib.join_one]
  · rw [List.cons_append, Lib.join_cons, Lib.joinTail, Lib.join_cons, Lib.joinTail]
    simp
def total (L : List S30) : Nat := (L.map fun x => x.f1.size + 1).sum
theorem total_snoc (L : List S30) (x : S30) : total (L ++ [x]) = total L + (x.f1.size + 1) := by simp [total]
theorem lit_size (s : ByteArray) : (litB s).1.size ≤ s.size + 2 := by
  have s34 : (⟨#[34]⟩ : ByteArray).size = 1 := rfl
  have s39 : (⟨#[39]⟩ : ByteArray).size = 1 := rfl
  have s0 : (⟨#[]⟩ : ByteArray).size = 0 := rfl
  unfold litB
  by_cases h1 : (34 : UInt8) ∉ s.data.toList
  · rw [if_pos h1]; simp only [ByteArray.size_append]; omega
  · rw [if_neg h1]
    by_cases h2 : (39 : UInt8) ∉ s.data.toList
    · rw [if_pos h2]; simp only [ByteArray.size_append]; omega
    · rw [if_neg h2]; simp only [s0]; omega
theorem piece_size (x : S30) : (pieceB x).size ≤ x.f1.size + 2 := by
  have s34 : (⟨#[34]⟩ : ByteArray).size = 1 := rfl
  have s36 : (⟨#[36]⟩ : ByteArray).size = 1 := rfl
  have hl := lit_size x.f1
  unfold pieceB
  by_cases h7 : x.f0 = 7
  · rw [if_pos h7, ByteArray.size_append]; omega
  · rw [if_neg h7]
    by_cases h2 : x.f0 = 2
    · rw [if_pos h2]
      by_cases h0 : (litB x.f1).2 = 0
      · rw [if_pos h0]; exact hl
      · rw [if_neg h0, ByteArray.size_append, ByteArray.size_append]; omega
    · rw [if_neg h2]; omega
theorem total_len (L : List S30) : L.length ≤ total L := by
  induction L with
  | nil => simp
  | cons y L ih =>
    have e : total (y :: L) = y.f1.size + 1 + total L := by simp [total]
    rw [e, List.length_cons]; omega
theorem total_take (L : List S30) (j : Nat) (x : S30) (h : L[j]? = some x) : total (L.take (j + 1)) = total (L.take j) + (x.f1.size + 1) := by
  rw [List.take_add_one, h]
  exact total_snoc _ _
theorem total_le (L : List S30) (j : Nat) : total (L.take j) ≤ total L := by
  conv => rhs; rw [← List.take_append_drop j L]
  simp only [total, List.map_append, List.sum_append]
  omega
theorem refjoin_l0 (L : List S30) (hT : total L ≤ 1048576) : ∀ (d j k : Nat) (out : ByteArray), L.length - j ≤ d → d + 1048576 + 4 ≤ k → j ≤ L.length →
    out.data.toList = Lib.join (((L.take j).map pieceB).map (·.data.toList)) [32] → out.size ≤ 3 * total (L.take j) → stencilref05_Join.l0 k L out (j : Int) = some (joinB (L.map pieceB)) := by
  intro d
  induction d with
  | zero =>
    intro j k out hd hk hj ho hz
    obtain ⟨k, rfl⟩ : ∃ m, k = m + 1 := ⟨k - 1, by omega⟩
    rw [stencilref05_Join.l0, if_neg (by omega)]
    congr 1
    rw [List.take_of_length_le (by omega)] at ho
    cases out with
    | mk o => simp only at ho; unfold joinB; rw [← ho]
  | succ d ih =>
    intro j k out hd hk hj ho hz
    by_cases hlt : j < L.length
    · obtain ⟨k, rfl⟩ : ∃ m, k = m + 1 := ⟨k - 1, by omega⟩
      obtain ⟨x, hx⟩ : ∃ x, L[j]? = some x := ⟨_, List.getElem?_eq_getElem hlt⟩
      have hLz := total_len L
      have hw : wrap64 ((j : Int) + 1) = ((j + 1 : Nat) : Int) := by unfold wrap64; omega
      have ht := total_take L j x hx
      have ht1 := total_le L (j + 1)
      have ht2 := total_le L j
      have hps := piece_size x
      have hfz : x.f1.size ≤ 1048576 := by omega
      have hlit := litref_f x.f1 hfz k (by omega)
      -- what the next round finds
      have hnext : ∀ o2 : ByteArray, o2.data.toList = (if j = 0 then [] else out.data.toList ++ [32]) ++ (pieceB x).data.toList → stencilref05_Join.l0 k L o2 ((j + 1 : Nat) : Int) = some (joinB (L.map pieceB)) := by
        intro o2 h2
        refine ih (j + 1) k o2 (by omega) (by omega) (by omega) ?_ ?_
        · rw [List.take_add_one, hx, List.map_append, List.map_append]
          rw [show ((some x).toList.map pieceB).map (fun y : ByteArray => y.data.toList) = [(pieceB x).data.toList] from rfl, join_end, h2, ho]
          by_cases h0 : j = 0
          · subst h0; simp
          · rw [if_neg h0, if_neg]
            rw [List.map_eq_nil_iff, List.map_eq_nil_iff]
            intro e
            have := congrArg List.length e
            rw [List.length_take, List.length_nil] at this
            omega
        · have := congrArg List.length h2
          rw [sz, List.length_append, sz] at this
          split at this
          · simp only [List.length_nil] at this; omega
          · rw [List.length_append, sz] at this
            simp only [List.length_cons, List.length_nil] at this
            omega
      have s32 : (⟨#[32]⟩ : ByteArray).size = 1 := rfl
      have hout0 : j = 0 → out.data.toList = [] := by
        intro h0; rw [ho, h0]; rfl
      -- the two ends: with a blank ahead, or none
      have fin : ∀ pc : ByteArray, pieceB x = pc → (0 < j → stencilref05_Join.l0 k L ((out ++ (⟨#[32]⟩ : ByteArray)) ++ pc) ((j + 1 : Nat) : Int) = some (joinB (L.map pieceB))) ∧ (¬ 0 < j → stencilref05_Join.l0 k L (out ++ pc) ((j + 1 : Nat) : Int) = some (joinB (L.map pieceB))) := by
        rintro pc rfl
        refine ⟨fun h => hnext _ ?_, fun h => hnext _ ?_⟩
        · rw [if_neg (by omega)]; simp [ByteArray.data_append]
        · rw [if_pos (by omega), ByteArray.data_append, Array.toList_append, hout0 (by omega)]
      rw [stencilref05_Join.l0, if_pos (by omega), if_pos (by omega), rd_get hx, hw, hlit]
      unfold pieceB at fin hps
      by_cases h2 : x.f0 = 2
      · rw [if_neg (by omega), if_pos h2] at hps
        rw [if_neg (by omega), if_pos h2] at fin
        rw [if_pos h2, Option.bind_some]
        by_cases hl : (litB x.f1).2 = 0
        · rw [if_pos hl] at hps fin
          have c1 : out.size + 1 ≤ 9223372036854775807 := by omega
          have c2 : out.size + 1 + (litB x.f1).1.size ≤ 9223372036854775807 := by omega
          have c3 : out.size + (litB x.f1).1.size ≤ 9223372036854775807 := by omega
          rw [if_pos hl]
          by_cases h0 : 0 < j
          · rw [if_pos (by omega), if_pos c1, if_pos c2]; exact (fin _ rfl).1 h0
          · rw [if_neg (by omega), if_pos c3]; exact (fin _ rfl).2 h0
        · rw [if_neg hl] at hps fin
          have c0 : 1 + x.f1.size ≤ 9223372036854775807 := by omega
          have c01 : 1 + x.f1.size + 1 ≤ 9223372036854775807 := by omega
          have c1 : out.size + 1 ≤ 9223372036854775807 := by omega
          have c2 : out.size + 1 + 1 + x.f1.size + 1 ≤ 9223372036854775807 := by omega
          have c3 : out.size + 1 + x.f1.size + 1 ≤ 9223372036854775807 := by omega
          rw [if_neg hl, if_pos c0, if_pos c01]
          by_cases h0 : 0 < j
          · rw [if_pos (by omega), if_pos c1, if_pos c2]; exact (fin _ rfl).1 h0
          · rw [if_neg (by omega), if_pos c3]; exact (fin _ rfl).2 h0
      · rw [if_neg h2]
        by_cases h7 : x.f0 = 7
        · rw [if_pos h7] at hps fin
          have c0 : 1 + x.f1.size ≤ 9223372036854775807 := by omega
          have c1 : out.size + 1 ≤ 9223372036854775807 := by omega
          have c2 : out.size + 1 + 1 + x.f1.size ≤ 9223372036854775807 := by omega
          have c3 : out.size + 1 + x.f1.size ≤ 9223372036854775807 := by omega
          rw [if_pos h7, if_pos c0]
          by_cases h0 : 0 < j
          · rw [if_pos (by omega), if_pos c1, if_pos c2]; exact (fin _ rfl).1 h0
          · rw [if_neg (by omega), if_pos c3]; exact (fin _ rfl).2 h0
        · rw [if_neg h7, if_neg h2] at hps fin
          have c1 : out.size + 1 ≤ 9223372036854775807 := by omega
          have c2 : out.size + 1 + x.f1.size ≤ 9223372036854775807 := by omega
          have c3 : out.size + x.f1.size ≤ 9223372036854775807 := by omega
          rw [if_neg h7]
          by_cases h0 : 0 < j
          · rw [if_pos (by omega), if_pos c1, if_pos c2]; exact (fin _ rfl).1 h0
          · rw [if_neg (by omega), if_pos c3]; exact (fin _ rfl).2 h0
    · exact ih j k out (by omega) (by omega) hj ho hz
theorem join_len (L : List S30) : (Lib.join ((L.map pieceB).map (·.data.toList)) [32]).length ≤ 3 * total L := by
  have key : ∀ j, j ≤ L.length → (Lib.join (((L.take j).map pieceB).map (·.data.toList)) [32]).length ≤ 3 * total (L.take j) := by
    intro j
    induction j with
    | zero => intro _; simp [Lib.join_nil]
    | succ j ih =>
      intro hj
      obtain ⟨x, hx⟩ : ∃ x, L[j]? = some x := ⟨_, List.getElem?_eq_getElem (by omega)⟩
      have h1 := ih (by omega)
      have hps := piece_size x
      rw [total_take L j x hx, List.take_add_one, hx, List.map_append, List.map_append, show ((some x).toList.map pieceB).map (fun y : ByteArray => y.data.toList) = [(pieceB x).data.toList] from rfl, join_end, List.length_append, sz]
      split
      · simp only [List.length_nil]; omega
      · rw [List.length_append]
        simp only [List.length_cons, List.length_nil]
        omega
  have := key L.length (Nat.le_refl _)
  rwa [List.take_length] at this
theorem total_mem (L : List S30) (x : S30) (h : x ∈ L) : x.f1.size + 1 ≤ total L := by
  induction L with
  | nil => cases h
  | cons y L ih =>
    have e : total (y :: L) = y.f1.size + 1 + total L := by simp [total]
    rw [e]
    rcases List.mem_cons.1 h with rfl | h
    · omega
    · have := ih h; omega
theorem XplexJoins (L : List S30) (s : ByteArray) (hT : (L.map fun x => x.f1.size + 1).sum ≤ 1048576) (hz : s.size ≤ 1048576) : ∃ k, stencillaw05_XplexJoins.f k L s = some true := by
  have hT' : total L ≤ 1048576 := hT
  have hlen := total_len L
  have hj := join_len L
  refine ⟨1048576 + 1048576 + 4, ?_⟩
  unfold stencillaw05_XplexJoins.f
  rw [literal_f s hz _ (by omega), litref_f s hz _ (by omega), live_ok]
  simp only [Option.bind_some, if_true]
  rw [join_f L (by omega) (fun x hx => by have := total_mem L x hx; omega) (by omega) _ (by omega)]
  have hr := refjoin_l0 L hT' L.length 0 (1048576 + 1048576 + 4) ⟨#[]⟩ (by omega) (by omega) (Nat.zero_le _) rfl (Nat.zero_le _)
  have hr2 : stencilref05_Join.f (1048576 + 1048576 + 4) L = some (joinB (L.map pieceB)) := hr
  rw [hr2]
  simp
end Go.Proofs.YtinefoocajnhmaaDoor.Pure
