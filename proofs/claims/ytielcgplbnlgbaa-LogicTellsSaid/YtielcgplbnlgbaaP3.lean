/- What filters say; their atoms in order, each once. No program in sight. -/
import Derived.Test.YtielcgplbnlgbaaP2
set_option linter.unusedVariables false
set_option linter.unusedSimpArgs false
namespace Go.Proofs.Ytielcgplbnlgbaa

def isAtom (x : ND) : Bool := decide (parts x.op = 0 ∧ x.op ≠ 1 ∧ x.op ≠ 2)
def atomR (x : ND) : Bool := decide (3 ≤ x.op ∧ x.op ≤ 9)

theorem atom_same {x : ND} (h : ndOk x = true) : isAtom x = atomR x := by
  have hr := op_range h
  unfold isAtom atomR parts
  rw [Bool.eq_iff_iff, decide_eq_true_eq, decide_eq_true_eq]
  constructor
  · rintro ⟨h1, h2, h3⟩
    split at h1
    · cases h1
    · split at h1
      · cases h1
      · omega
  · intro h1
    rw [if_neg (by omega), if_neg (by omega)]
    omega

/-- What a tree says, its atoms asked. -/
def T.sem (as : ND → Bool) : T → Bool
  | .leaf x => if x.op = 1 then true else if x.op = 2 then false else as x
  | .one x a => !a.sem as
  | .two x a b => if x.op = 11 then a.sem as && b.sem as else a.sem as || b.sem as

theorem sem_congr {as as' : ND → Bool} : ∀ (t : T), t.ok → (∀ x, x ∈ t.fl → isAtom x = true → as x = as' x) → t.sem as = t.sem as'
  | .leaf x, hok, h => by
    simp only [T.sem]
    split
    · rfl
    · split
      · rfl
      · exact h x (by simp [T.fl]) (by simp only [isAtom, decide_eq_true_eq]; exact ⟨hok, by assumption, by assumption⟩)
  | .one x a, hok, h => by
    simp only [T.sem]
    rw [sem_congr a hok.2 fun y hy => h y (by simp only [T.fl, List.mem_cons]; exact .inr hy)]
  | .two x a b, hok, h => by
    simp only [T.sem]
    rw [sem_congr a hok.2.1 fun y hy => h y (by simp only [T.fl, List.mem_cons, List.mem_append]; exact .inr (.inl hy)), sem_congr b hok.2.2 fun y hy => h y (by simp only [T.fl, List.mem_cons, List.mem_append]; exact .inr (.inr hy))]

/-! ### In order, each once -/
def insN (x : ND) : List ND → List ND
  | [] => [x]
  | y :: r => if lessK y.key x.key then y :: insN x r else if y = x then y :: r else x :: y :: r

theorem insN_key (x : ND) : ∀ l : List ND, (insN x l).map ND.key = insK x.key (l.map ND.key)
  | [] => rfl
  | y :: r => by
    simp only [insN, List.map_cons, insK]
    split
    · rw [List.map_cons, insN_key x r]
    · split
      · rename_i h; subst h; simp
      · rw [if_neg (fun e => by have := ND.key_inj e; contradiction)]
        rfl

def atomsS (l : List ND) : List ND := (l.filter isAtom).foldl (fun acc x => insN x acc) []

theorem fold_rising : ∀ (l acc : List ND), Rising (acc.map ND.key) → Rising ((l.foldl (fun acc x => insN x acc) acc).map ND.key)
  | [], acc, h => h
  | x :: r, acc, h => fold_rising r (insN x acc) (by rw [insN_key]; exact rising_insK h)

theorem mem_insN {x z : ND} : ∀ {l : List ND}, z ∈ insN x l ↔ z = x ∨ z ∈ l
  | [] => by simp [insN]
  | y :: r => by
    unfold insN
    split
    · rw [List.mem_cons, mem_insN, List.mem_cons]
      constructor
      · rintro (h | h | h)
        · exact .inr (.inl h)
        · exact .inl h
        · exact .inr (.inr h)
      · rintro (h | h | h)
        · exact .inr (.inl h)
        · exact .inl h
        · exact .inr (.inr h)
    · split
      · rename_i h; subst h; simp
      · simp

theorem mem_fold {z : ND} : ∀ {l acc : List ND}, z ∈ l.foldl (fun acc x => insN x acc) acc ↔ z ∈ l ∨ z ∈ acc
  | [], acc => by simp
  | x :: r, acc => by
    rw [List.foldl_cons, mem_fold, mem_insN, List.mem_cons]
    constructor
    · rintro (h | h | h)
      · exact .inl (.inr h)
      · exact .inl (.inl h)
      · exact .inr h
    · rintro ((h | h) | h)
      · exact .inr (.inl h)
      · exact .inl h
      · exact .inr (.inr h)

theorem atoms_rising (l : List ND) : Rising ((atomsS l).map ND.key) := fold_rising _ [] (by simp [Rising])
theorem mem_atoms {l : List ND} {z : ND} : z ∈ atomsS l ↔ z ∈ l ∧ isAtom z = true := by
  rw [atomsS, mem_fold, List.mem_filter]; simp

theorem nd_unique {l m : List ND} (h1 : Rising (l.map ND.key)) (h2 : Rising (m.map ND.key)) (h : ∀ x, x ∈ l ↔ x ∈ m) : l = m := by
  have := rising_unique h1 h2 fun k => by
    simp only [List.mem_map]
    constructor
    · rintro ⟨x, hx, rfl⟩; exact ⟨x, (h x).1 hx, rfl⟩
    · rintro ⟨x, hx, rfl⟩; exact ⟨x, (h x).2 hx, rfl⟩
  exact (List.map_inj_right (fun _ _ e => ND.key_inj e)).1 this

/-- Of neighbours that are alike the first. -/
def compS : List ND → List ND
  | [] => []
  | [x] => [x]
  | x :: y :: r => if y = x then compS (x :: r) else x :: compS (y :: r)

theorem compS_snoc : ∀ (n : Nat) (l : List ND), l.length ≤ n → ∀ y x, compS (l ++ [y, x]) = if x = y then compS (l ++ [y]) else compS (l ++ [y]) ++ [x]
  | _, [], _, y, x => by
    simp only [List.nil_append, compS]
    split <;> rfl
  | n, [z], _, y, x => by
    by_cases h1 : y = z <;> by_cases h2 : x = y
    · subst h1 h2; simp [compS]
    · subst h1; simp [compS, h2]
    · subst h2; simp [compS, h1]
    · simp [compS, h1, h2]
  | 0, _ :: _ :: _, h, _, _ => by simp at h
  | n + 1, z :: w :: r, h, y, x => by
    simp only [List.length_cons] at h
    have e1 := compS_snoc n (z :: r) (by simp; omega) y x
    have e2 := compS_snoc n (w :: r) (by simp; omega) y x
    simp only [List.cons_append] at e1 e2 ⊢
    by_cases hwz : w = z
    · have a : ∀ t, compS (z :: w :: t) = compS (z :: t) := fun t => by rw [compS, if_pos hwz]
      rw [a, a, e1]
    · have a : ∀ t, compS (z :: w :: t) = z :: compS (w :: t) := fun t => by rw [compS, if_neg hwz]
      rw [a, a, e2]
      split <;> simp

/-- None is less than one ahead. -/
def Sorted (l : List ND) : Prop := l.Pairwise fun a b => ¬ lessK b.key a.key

theorem mem_compS : ∀ (n : Nat) (l : List ND), l.length ≤ n → ∀ z, z ∈ compS l ↔ z ∈ l
  | 0, l, h, z => by
    have : l = [] := List.eq_nil_of_length_eq_zero (by omega)
    subst this; simp [compS]
  | n + 1, [], h, z => by simp [compS]
  | n + 1, [x], h, z => by simp [compS]
  | n + 1, x :: y :: r, h, z => by
    simp only [List.length_cons] at h
    unfold compS
    split
    · rename_i e; subst e
      rw [mem_compS n (y :: r) (by simp; omega)]
      simp
    · rw [List.mem_cons, mem_compS n (y :: r) (by simp; omega)]
      simp only [List.mem_cons]

theorem compS_rising : ∀ (n : Nat) (l : List ND), l.length ≤ n → Sorted l → Rising ((compS l).map ND.key)
  | 0, l, h, _ => by
    have : l = [] := List.eq_nil_of_length_eq_zero (by omega)
    subst this; simp [compS, Rising]
  | n + 1, [], h, _ => by simp [compS, Rising]
  | n + 1, [x], h, _ => by simp [compS, Rising]
  | n + 1, x :: y :: r, h, hs => by
    simp only [List.length_cons] at h
    obtain ⟨h1, h2⟩ := List.pairwise_cons.1 hs
    unfold compS
    split
    · rename_i e; subst e
      exact compS_rising n (y :: r) (by simp; omega) h2
    · rename_i hne
      have ih := compS_rising n (y :: r) (by simp; omega) h2
      rw [List.map_cons]
      refine List.pairwise_cons.2 ⟨fun k hk => ?_, ih⟩
      obtain ⟨z, hz, rfl⟩ := List.mem_map.1 hk
      have hz' := (mem_compS n (y :: r) (by simp; omega) z).1 hz
      have hxy : lessK x.key y.key := lessK_total (h1 y (List.mem_cons_self ..)) (fun e => hne (ND.key_inj e))
      rcases List.mem_cons.1 hz' with rfl | hz'
      · exact hxy
      · have h3 := (List.pairwise_cons.1 h2).1 z hz'
        by_cases e : y.key = z.key
        · rw [← e]; exact hxy
        · exact lessK_trans hxy (lessK_total h3 (fun q => e q.symm))

/-- The sorted list, each once, of the atoms. -/
theorem comp_atoms {l m : List ND} (hp : m.Perm (l.filter isAtom)) (hs : Sorted m) : compS m = atomsS l :=
  nd_unique (compS_rising m.length m (Nat.le_refl _) hs) (atoms_rising l) fun x => by
    rw [mem_compS m.length m (Nat.le_refl _), hp.mem_iff, mem_atoms, List.mem_filter]
end Go.Proofs.Ytielcgplbnlgbaa
