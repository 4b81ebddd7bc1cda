/- Plain Lean, no program in sight: what the program's small functions on characters compute. -/
import Derived.Lib.TrimUEq
import Derived.Lib.TrimU
import Derived.Lib.MapLaws
import Derived.Lib.DecodeN
import Derived.Lib.ValidU
namespace Go.Proofs.YthedigbdkjcpfaaDoor.Plain
open Go.Lib

/-- Does a number lie in one of some spans? -/
def inSpans (l : List (Int × Int)) (r : Int) : Bool := l.any fun p => decide (p.1 ≤ r) && decide (r ≤ p.2)
theorem inSpans_step (l : List (Int × Int)) (r lo hi : Int) (k : Nat) (h : l[k]? = some (lo, hi)) (hn : inSpans (l.take k) r = false) (hf : r < lo ∨ hi < r) : inSpans (l.take (k + 1)) r = false := by
  unfold inSpans at *
  rw [List.take_add_one, h]
  simp only [Option.toList_some, List.any_append, hn, List.any_cons, List.any_nil, Bool.or_false, Bool.false_or, Bool.and_eq_false_iff, decide_eq_false_iff_not]
  omega
theorem inSpans_hit (l : List (Int × Int)) (r lo hi : Int) (k : Nat) (h : l[k]? = some (lo, hi)) (h1 : lo ≤ r) (h2 : r ≤ hi) : inSpans l r = true :=
  List.any_eq_true.2 ⟨(lo, hi), List.mem_of_getElem? h, by simp [h1, h2]⟩
theorem inSpans_end (l : List (Int × Int)) (r : Int) (k : Nat) (hk : l.length ≤ k) (hn : inSpans (l.take k) r = false) : inSpans l r = false := by
  rwa [List.take_of_length_le hk] at hn
def isCharL : List (Int × Int) := [(9, 10), (13, 13), (32, 55295), (57344, 65533), (65536, 1114111)]
def beginsL : List (Int × Int) := [(192, 214), (216, 246), (248, 767), (880, 893), (895, 8191), (8204, 8205), (8304, 8591), (11264, 12271), (12289, 55295), (63744, 64975), (65008, 65533), (65536, 983039)]
def goesOnL : List (Int × Int) := [(768, 879), (8255, 8256)]
/-- the letters of ASCII that begin names -/
def asciiB (r : Int) : Bool := decide (97 ≤ r ∧ r ≤ 122) || decide (65 ≤ r ∧ r ≤ 90) || decide (r = 95)
def beginsS (r : Int) : Bool := if r < 128 then asciiB r else inSpans beginsL r
def goesOnA (r : Int) : Bool := decide (r = 45) || decide (r = 46) || decide (48 ≤ r ∧ r ≤ 57) || decide (r = 183)
def goesOnS (r : Int) : Bool := beginsS r || goesOnA r || inSpans goesOnL r

/-- xchar.bad: the first place that is no character that may be, and the error's number. -/
def badL : Nat → List UInt8 → Nat → Int × Int
  | 0, _, _ => (-1, 0)
  | f + 1, l, at_ => if l = [] then (-1, 0) else
      if (decodeL l).1 = 65533 ∧ (decodeL l).2 = 1 then ((at_ : Int), 3)
      else if inSpans isCharL (decodeL l).1 = true then badL f (l.drop (decodeL l).2) (at_ + (decodeL l).2) else ((at_ : Int), 4)
/-- The length of the name that a text begins with; at_: where the rest stands. -/
def nameL : Nat → List UInt8 → Nat → Nat
  | 0, _, at_ => at_
  | f + 1, l, at_ => if l = [] then at_ else
      if (at_ = 0 ∧ beginsS (decodeL l).1 = false) ∨ goesOnS (decodeL l).1 = false then at_ else nameL f (l.drop (decodeL l).2) (at_ + (decodeL l).2)
/-- Does a text (from at_ on) hold characters of names alone? -/
def namesL : Nat → List UInt8 → Nat → Bool
  | 0, _, _ => true
  | f + 1, l, at_ => if l = [] then true else
      if (at_ = 0 ∧ beginsS (decodeL l).1 = false) ∨ goesOnS (decodeL l).1 = false then false else namesL f (l.drop (decodeL l).2) (at_ + (decodeL l).2)
def isNameL (l : List UInt8) : Bool := validD l && namesL l.length l 0 && !l.isEmpty

theorem badL_nil (f at_ : Nat) : badL f [] at_ = (-1, 0) := by cases f <;> simp [badL]
theorem nameL_nil (f at_ : Nat) : nameL f [] at_ = at_ := by cases f <;> simp [nameL]
theorem namesL_nil (f at_ : Nat) : namesL f [] at_ = true := by cases f <;> simp [namesL]
end Go.Proofs.YthedigbdkjcpfaaDoor.Plain
