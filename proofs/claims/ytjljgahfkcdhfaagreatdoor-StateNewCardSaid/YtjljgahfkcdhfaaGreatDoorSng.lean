/- Parts of the proof, joined. Each part says what it proves, and under which conditions it does: those that its theorems name. -/
import Derived.Test.YtjljgahfkcdhfaaGreatDoorSnf
set_option linter.unusedVariables false
set_option linter.unusedSimpArgs false
set_option maxHeartbeats 4000000
section
namespace Go.Proofs.YtjljgahfkcdhfaaGreatDoor
abbrev BL := List UInt8
def big : Int := 1099511627776
def nxF : Nat → Bool → BL → Int × Nat × Nat
 | 0, _, _ => (3, 0, 0)
 | _ + 1, _, [] => (2, 0, 0)
 | k + 1, first, c :: l => if 128 ≤ c.toNat then (if (nxF k false l).1 = 0 then (0, c.toNat % 128 + 128 * (nxF k false l).2.1, (nxF k false l).2.2 + 1) else ((nxF k false l).1, 0, 0))
  else if c.toNat = 0 ∧ first = false then (3, 0, 0) else (0, c.toNat, 1)
def nx (l : BL) (most : Int) : Int × Nat × Int :=
 if (nxF 6 true l).1 = 0 then (if ((nxF 6 true l).2.1 : Int) > big ∨ ((nxF 6 true l).2.1 : Int) > most then (0, 0, 4) else ((nxF 6 true l).2.1, (nxF 6 true l).2.2, 0)) else (0, 0, (nxF 6 true l).1)
end Go.Proofs.YtjljgahfkcdhfaaGreatDoor
end

section
namespace Go.Proofs.YtjljgahfkcdhfaaGreatDoor
def cmpF : List ND → List ND → Ordering
 | [], [] => .eq
 | [], _ :: _ => .lt
 | _ :: _, [] => .gt
 | a :: x, b :: y => match cmpL a.key b.key with
  | .eq => cmpF x y
  | o => o
theorem drop_getD {α : Type} {l : List α} {i : Nat} (d : α) (h : i < l.length) : l.drop i = l.getD i d :: l.drop (i + 1) := by
 rw [List.drop_eq_getElem_cons h, getD_of_lt d h]
theorem cmpF_cons {a b : ND} {x y : List ND} : cmpF (a :: x) (b :: y) = if cmpL a.key b.key = .eq then cmpF x y else cmpL a.key b.key := by
 simp only [cmpF]
 cases cmpL a.key b.key <;> rfl
theorem ordI_zero {o : Ordering} : ordI o = 0 ↔ o = .eq := by cases o <;> simp [ordI]
def parts (op : Int) : Nat := if op = 10 then 1 else if op = 11 ∨ op = 12 then 2 else 0
def endN : Nat → List ND → Option Nat
 | 0, _ => some 0
 | _ + 1, [] => none
 | n + 1, x :: r => (endN (n + parts x.op) r).map (· + 1)
def endS (l : List ND) (i : Int) : Int := if i < 0 then -1 else match endN 1 (l.drop i.toNat) with
 | none => -1
 | some k => i + k
inductive T where
 | leaf (x : ND)
 | one (x : ND) (a : T)
 | two (x : ND) (a b : T)
def T.fl : T → List ND
 | .leaf x => [x]
 | .one x a => x :: a.fl
 | .two x a b => x :: (a.fl ++ b.fl)
def T.ok : T → Prop
 | .leaf x => parts x.op = 0
 | .one x a => parts x.op = 1 ∧ a.ok
 | .two x a b => parts x.op = 2 ∧ a.ok ∧ b.ok
theorem parts_cases (op : Int) : parts op = 0 ∨ parts op = 1 ∨ parts op = 2 := by
 unfold parts
 split
 ·simp
 ·split <;> simp
def vaOk (v : VA) : Bool :=
 if v.kd = 0 then decide (v = va0) else if v.kd = 1 then decide (0 ≤ v.n ∧ v.n ≤ 1099511627776 ∧ v.s = ⟨#[]⟩) else if v.kd = 2 then decide (v.n = 0 ∧ v.s.size ≤ 24) else false
def ndOk (x : ND) : Bool :=
 if x.op = 1 ∨ x.op = 2 ∨ x.op = 10 ∨ x.op = 11 ∨ x.op = 12 then decide (x.n = 0 ∧ x.v = va0)
 else if x.op = 3 ∨ x.op = 4 then decide (0 ≤ x.n ∧ x.n < 16 ∧ x.v = va0)
 else if x.op = 5 then decide (0 ≤ x.n ∧ x.n < 8 ∧ x.v = va0)
 else if x.op = 6 ∨ x.op = 7 ∨ x.op = 8 then decide (0 ≤ x.n ∧ x.n < 8 ∧ vaOk x.v = true ∧ x.v ≠ va0)
 else if x.op = 9 then decide (0 ≤ x.n ∧ x.n < 8 ∧ vaOk x.v = true ∧ x.v.kd = 2)
 else false
end Go.Proofs.YtjljgahfkcdhfaaGreatDoor
end
