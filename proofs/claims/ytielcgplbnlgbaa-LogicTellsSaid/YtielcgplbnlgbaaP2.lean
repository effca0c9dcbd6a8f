/- Filters as lists of nodes, and as trees. No program in sight. -/
import Derived.Test.YtielcgplbnlgbaaP1
set_option linter.unusedVariables false
set_option linter.unusedSimpArgs false
namespace Go.Proofs.Ytielcgplbnlgbaa

/-- Filters in order. -/
def cmpF : List ND → List ND → Ordering
  | [], [] => .eq
  | [], _ :: _ => .lt
  | _ :: _, [] => .gt
  | a :: x, b :: y => match cmpL a.key b.key with
    | .eq => cmpF x y
    | o => o

theorem drop_getD {α : Type} {l : List α} {i : Nat} (d : α) (h : i < l.length) : l.drop i = l.getD i d :: l.drop (i + 1) := by
  rw [List.drop_eq_getElem_cons h, getD_of_lt d h]
theorem cmpF_cons {a b : ND} {x y : List ND} : cmpF (a :: x) (b :: y) = if cmpL a.key b.key = .eq then cmpF x y else cmpL a.key b.key := by
  simp only [cmpF]
  cases cmpL a.key b.key <;> rfl
theorem ordI_zero {o : Ordering} : ordI o = 0 ↔ o = .eq := by cases o <;> simp [ordI]

def parts (op : Int) : Nat := if op = 10 then 1 else if op = 11 ∨ op = 12 then 2 else 0

/-- How many nodes some trees have, one behind the other. -/
def endN : Nat → List ND → Option Nat
  | 0, _ => some 0
  | _ + 1, [] => none
  | n + 1, x :: r => (endN (n + parts x.op) r).map (· + 1)

/-- The place behind a tree. -/
def endS (l : List ND) (i : Int) : Int := if i < 0 then -1 else match endN 1 (l.drop i.toNat) with
  | none => -1
  | some k => i + k

inductive T where
  | leaf (x : ND)
  | one (x : ND) (a : T)
  | two (x : ND) (a b : T)

def T.fl : T → List ND
  | .leaf x => [x]
  | .one x a => x :: a.fl
  | .two x a b => x :: (a.fl ++ b.fl)

def T.ok : T → Prop
  | .leaf x => parts x.op = 0
  | .one x a => parts x.op = 1 ∧ a.ok
  | .two x a b => parts x.op = 2 ∧ a.ok ∧ b.ok

theorem T.fl_pos : ∀ t : T, 0 < t.fl.length
  | .leaf _ => by simp [T.fl]
  | .one _ _ => by simp [T.fl]
  | .two _ _ _ => by simp [T.fl]

theorem endN_fl : ∀ (t : T), t.ok → ∀ (n : Nat) (r : List ND), endN (n + 1) (t.fl ++ r) = (endN n r).map (· + t.fl.length)
  | .leaf x, h, n, r => by
    simp only [T.ok] at h
    simp [T.fl, endN, h]
  | .one x a, h, n, r => by
    obtain ⟨h1, h2⟩ := h
    simp only [T.fl, List.cons_append, endN, h1]
    rw [endN_fl a h2]
    cases endN n r <;> simp
    omega
  | .two x a b, h, n, r => by
    obtain ⟨h1, h2, h3⟩ := h
    simp only [T.fl, List.cons_append, List.append_assoc, endN, h1]
    rw [show n + 2 = (n + 1) + 1 from rfl, endN_fl a h2, endN_fl b h3]
    cases endN n r <;> simp
    omega

theorem parts_cases (op : Int) : parts op = 0 ∨ parts op = 1 ∨ parts op = 2 := by
  unfold parts
  split
  · simp
  · split <;> simp

theorem parse_aux : ∀ (m : Nat) (l : List ND), l.length ≤ m → ∀ (n k : Nat), endN (n + 1) l = some k → ∃ (t : T) (r : List ND), t.ok ∧ l = t.fl ++ r
  | 0, l, hl, n, k, h => by
    have : l = [] := List.eq_nil_of_length_eq_zero (by omega)
    subst this
    simp [endN] at h
  | m + 1, [], hl, n, k, h => by simp [endN] at h
  | m + 1, x :: r, hl, n, k, h => by
    simp only [List.length_cons] at hl
    simp only [endN, Option.map_eq_some_iff] at h
    obtain ⟨j, h, rfl⟩ := h
    rcases parts_cases x.op with hp | hp | hp
    · exact ⟨.leaf x, r, hp, rfl⟩
    · rw [hp] at h
      obtain ⟨t, r', ht, rfl⟩ := parse_aux m r (by omega) n j h
      exact ⟨.one x t, r', ⟨hp, ht⟩, rfl⟩
    · rw [hp] at h
      obtain ⟨a, r1, ha, rfl⟩ := parse_aux m r (by omega) (n + 1) j h
      rw [show n + 2 = (n + 1) + 1 from rfl, endN_fl a ha] at h
      simp only [Option.map_eq_some_iff] at h
      obtain ⟨j1, h, rfl⟩ := h
      obtain ⟨b, r2, hb, rfl⟩ := parse_aux m r1 (by simp at hl; omega) n j1 h
      exact ⟨.two x a b, r2, ⟨hp, ha, hb⟩, by simp [T.fl]⟩

theorem parse {l : List ND} (h : endS l 0 = l.length) : ∃ t : T, t.ok ∧ l = t.fl := by
  unfold endS at h
  rw [if_neg (by omega)] at h
  simp only [Int.toNat_zero, List.drop_zero] at h
  cases e : endN 1 l with
  | none => rw [e] at h; simp at h
  | some k =>
    rw [e] at h
    simp only [Int.zero_add] at h
    have hk : k = l.length := by exact_mod_cast h
    obtain ⟨t, r, ht, rfl⟩ := parse_aux l.length l (Nat.le_refl _) 0 k e
    rw [endN_fl t ht] at e
    simp only [endN, Option.map_some, Option.some.injEq] at e
    refine ⟨t, ht, ?_⟩
    have : r = [] := List.eq_nil_of_length_eq_zero (by simp at hk; omega)
    rw [this, List.append_nil]

theorem endS_fl {t : T} (h : t.ok) (pre r : List ND) : endS (pre ++ (t.fl ++ r)) pre.length = (pre.length + t.fl.length : Nat) := by
  unfold endS
  rw [if_neg (by omega)]
  simp only [Int.toNat_natCast, List.drop_left]
  rw [endN_fl t h]
  simp [endN]

/-! ### Which may be -/
def vaOk (v : VA) : Bool :=
  if v.kd = 0 then decide (v = va0) else if v.kd = 1 then decide (0 ≤ v.n ∧ v.n ≤ 1099511627776 ∧ v.s = ⟨#[]⟩) else if v.kd = 2 then decide (v.n = 0 ∧ v.s.size ≤ 24) else false

def ndOk (x : ND) : Bool :=
  if x.op = 1 ∨ x.op = 2 ∨ x.op = 10 ∨ x.op = 11 ∨ x.op = 12 then decide (x.n = 0 ∧ x.v = va0)
  else if x.op = 3 ∨ x.op = 4 then decide (0 ≤ x.n ∧ x.n < 16 ∧ x.v = va0)
  else if x.op = 5 then decide (0 ≤ x.n ∧ x.n < 8 ∧ x.v = va0)
  else if x.op = 6 ∨ x.op = 7 ∨ x.op = 8 then decide (0 ≤ x.n ∧ x.n < 8 ∧ vaOk x.v = true ∧ x.v ≠ va0)
  else if x.op = 9 then decide (0 ≤ x.n ∧ x.n < 8 ∧ vaOk x.v = true ∧ x.v.kd = 2)
  else false

def fitS (l : List ND) : Bool := decide (l ≠ [] ∧ l.length ≤ 63) && decide (endS l 0 = l.length) && l.all ndOk

theorem fit_tree {l : List ND} (h : fitS l = true) : ∃ t : T, t.ok ∧ l = t.fl ∧ l.length ≤ 63 ∧ ∀ x, x ∈ l → ndOk x = true := by
  simp only [fitS, Bool.and_eq_true, decide_eq_true_eq, List.all_eq_true] at h
  obtain ⟨t, ht, e⟩ := parse h.1.2
  exact ⟨t, ht, e, h.1.1.2, h.2⟩

theorem op_range {x : ND} (h : ndOk x = true) : 1 ≤ x.op ∧ x.op ≤ 12 := by
  unfold ndOk at h
  split at h
  · omega
  · split at h
    · omega
    · split at h
      · omega
      · split at h
        · omega
        · split at h
          · omega
          · cases h

theorem fit_ops {t : T} (h : t.ok) (hn : ∀ x, x ∈ t.fl → ndOk x = true) : True := trivial
end Go.Proofs.Ytielcgplbnlgbaa
