/- Forms of filters. No program in sight. -/
import Derived.Test.YtielcgplbnlgbaaP4
set_option linter.unusedVariables false
set_option linter.unusedSimpArgs false
namespace Go.Proofs.Ytielcgplbnlgbaa

def nd (op : Int) : ND := ⟨op, 0, va0⟩
def T.root : T → ND
  | .leaf x => x
  | .one x _ => x
  | .two x _ _ => x
def T.kids : T → List T
  | .leaf _ => []
  | .one _ a => [a]
  | .two _ a b => [a, b]

theorem T.fl_kids (t : T) : t.fl = t.root :: (t.kids.map T.fl).flatten := by cases t <;> simp [T.fl, T.kids, T.root]
theorem T.ok_kids {t : T} (h : t.ok) : t.kids.length = parts t.root.op ∧ ∀ k, k ∈ t.kids → k.ok := by
  cases t with
  | leaf x => simp only [T.ok] at h; simp [T.kids, T.root, h]
  | one x a => simp only [T.ok] at h; simp [T.kids, T.root, h.1, h.2]
  | two x a b => simp only [T.ok] at h; simp [T.kids, T.root, h.1, h.2.1, h.2.2]

/-- What a tree's nodes say tells the tree. -/
theorem fl_inj : ∀ (t u : T) (r s : List ND), t.ok → u.ok → t.fl ++ r = u.fl ++ s → t = u ∧ r = s
  | .leaf x, .leaf y, r, s, ht, hu, h => by simp only [T.fl, List.cons_append, List.nil_append, List.cons.injEq] at h; exact ⟨by rw [h.1], h.2⟩
  | .leaf x, .one y b, r, s, ht, hu, h => by simp only [T.fl, List.cons_append, List.cons.injEq] at h; simp only [T.ok] at ht hu; rw [h.1] at ht; omega
  | .leaf x, .two y b c, r, s, ht, hu, h => by simp only [T.fl, List.cons_append, List.cons.injEq] at h; simp only [T.ok] at ht hu; rw [h.1] at ht; omega
  | .one x a, .leaf y, r, s, ht, hu, h => by simp only [T.fl, List.cons_append, List.cons.injEq] at h; simp only [T.ok] at ht hu; rw [h.1] at ht; omega
  | .one x a, .one y b, r, s, ht, hu, h => by
    simp only [T.fl, List.cons_append, List.cons.injEq] at h
    obtain ⟨e1, e2⟩ := fl_inj a b r s ht.2 hu.2 h.2
    exact ⟨by rw [h.1, e1], e2⟩
  | .one x a, .two y b c, r, s, ht, hu, h => by simp only [T.fl, List.cons_append, List.cons.injEq] at h; simp only [T.ok] at ht hu; rw [h.1] at ht; omega
  | .two x a a', .leaf y, r, s, ht, hu, h => by simp only [T.fl, List.cons_append, List.cons.injEq] at h; simp only [T.ok] at ht hu; rw [h.1] at ht; omega
  | .two x a a', .one y b, r, s, ht, hu, h => by simp only [T.fl, List.cons_append, List.cons.injEq] at h; simp only [T.ok] at ht hu; rw [h.1] at ht; omega
  | .two x a a', .two y b b', r, s, ht, hu, h => by
    simp only [T.fl, List.cons_append, List.cons.injEq, List.append_assoc] at h
    obtain ⟨e1, e2⟩ := fl_inj a b _ _ ht.2.1 hu.2.1 h.2
    obtain ⟨e3, e4⟩ := fl_inj a' b' r s ht.2.2 hu.2.2 e2
    exact ⟨by rw [h.1, e1, e3], e4⟩

theorem fl_eq {t u : T} (ht : t.ok) (hu : u.ok) (h : t.fl = u.fl) : t = u := (fl_inj t u [] [] ht hu (by rw [h])).1

/-! ### The order of filters -/
theorem cmpF_eq : ∀ {a b : List ND}, cmpF a b = .eq ↔ a = b
  | [], [] => by simp [cmpF]
  | [], _ :: _ => by simp [cmpF]
  | _ :: _, [] => by simp [cmpF]
  | a :: x, b :: y => by
    rw [cmpF_cons]
    constructor
    · intro h
      split at h
      · rename_i h1; rw [ND.key_inj (cmpL_eq.1 h1), cmpF_eq.1 h]
      · contradiction
    · intro h
      simp only [List.cons.injEq] at h
      rw [h.1, h.2, if_pos (cmpL_refl _)]
      exact cmpF_eq.2 rfl

theorem cmpF_swap : ∀ {a b : List ND}, cmpF a b = (cmpF b a).swap
  | [], [] => rfl
  | [], _ :: _ => rfl
  | _ :: _, [] => rfl
  | a :: x, b :: y => by
    rw [cmpF_cons, cmpF_cons, cmpL_swap]
    by_cases h : cmpL b.key a.key = .eq
    · rw [h]; simp [Ordering.swap]; exact cmpF_swap
    · rw [if_neg h, if_neg (fun e => h (by cases hq : cmpL b.key a.key <;> rw [hq] at e <;> simp_all [Ordering.swap]))]

theorem cmpF_trans : ∀ {a b c : List ND}, cmpF a b = .lt → cmpF b c = .lt → cmpF a c = .lt
  | [], [], _, h, _ => by simp [cmpF] at h
  | _ :: _, [], _, h, _ => by simp [cmpF] at h
  | [], _ :: _, [], _, h => by simp [cmpF] at h
  | [], _ :: _, _ :: _, _, _ => rfl
  | _ :: _, _ :: _, [], _, h => by simp [cmpF] at h
  | a :: x, b :: y, c :: z, h, k => by
    rw [cmpF_cons] at h k ⊢
    by_cases h1 : cmpL a.key b.key = .eq
    · rw [if_pos h1] at h
      rw [cmpL_eq.1 h1]
      by_cases h2 : cmpL b.key c.key = .eq
      · rw [if_pos h2] at k ⊢; exact cmpF_trans h k
      · rw [if_neg h2] at k ⊢; exact k
    · rw [if_neg h1] at h
      by_cases h2 : cmpL b.key c.key = .eq
      · rw [← cmpL_eq.1 h2, if_neg h1]; exact h
      · rw [if_neg h2] at k
        have := cmpL_trans h k
        rw [if_neg (by rw [this]; simp)]; exact this

def lessF (a b : T) : Prop := cmpF a.fl b.fl = .lt
theorem lessF_irrefl {a : T} : ¬ lessF a a := by unfold lessF; rw [cmpF_eq.2 rfl]; simp
theorem lessF_trans {a b c : T} (h : lessF a b) (k : lessF b c) : lessF a c := cmpF_trans h k
theorem lessF_asymm {a b : T} (h : lessF a b) : ¬ lessF b a := fun k => lessF_irrefl (lessF_trans h k)
theorem cmpF_gt {a b : T} : cmpF a.fl b.fl = .gt ↔ lessF b a := by
  unfold lessF; rw [cmpF_swap]; cases cmpF b.fl a.fl <;> simp [Ordering.swap]

/-- In order, each once. -/
def RisF (l : List T) : Prop := l.Pairwise lessF

theorem risF_unique : ∀ {l m : List T}, RisF l → RisF m → (∀ x, x ∈ l ↔ x ∈ m) → l = m
  | [], [], _, _, _ => rfl
  | [], y :: m, _, _, h => absurd ((h y).2 (List.mem_cons_self ..)) (by simp)
  | x :: l, [], _, _, h => absurd ((h x).1 (List.mem_cons_self ..)) (by simp)
  | x :: l, y :: m, h1, h2, h => by
    obtain ⟨a1, a2⟩ := List.pairwise_cons.1 h1
    obtain ⟨b1, b2⟩ := List.pairwise_cons.1 h2
    have e : x = y := by
      rcases List.mem_cons.1 ((h x).1 (List.mem_cons_self ..)) with e | hx
      · exact e
      · rcases List.mem_cons.1 ((h y).2 (List.mem_cons_self ..)) with e | hy
        · exact e.symm
        · exact absurd (a1 y hy) (lessF_asymm (b1 x hx))
    subst e
    rw [risF_unique a2 b2 fun z => ?_]
    constructor
    · intro hz
      rcases List.mem_cons.1 ((h z).1 (List.mem_cons_of_mem _ hz)) with e | hz'
      · subst e; exact absurd (a1 z hz) lessF_irrefl
      · exact hz'
    · intro hz
      rcases List.mem_cons.1 ((h z).2 (List.mem_cons_of_mem _ hz)) with e | hz'
      · subst e; exact absurd (b1 z hz) lessF_irrefl
      · exact hz'

/-- A list with one more, if it is not there: as the document goes through it. -/
def insT (x : T) : Bool → List T → List T
  | d, [] => if d = true then [] else [x]
  | d, y :: r => (if d = false ∧ cmpF x.fl y.fl ≠ .gt then [x] else []) ++ ((if cmpF x.fl y.fl ≠ .eq then [y] else []) ++ insT x (d || decide (cmpF x.fl y.fl ≠ .gt)) r)

theorem insT_past {x : T} : ∀ {l : List T}, (∀ y, y ∈ l → lessF x y) → insT x true l = l
  | [], _ => rfl
  | y :: r, h => by
    have hy : cmpF x.fl y.fl = .lt := h y (List.mem_cons_self ..)
    simp only [insT, hy]
    rw [if_neg (by simp), if_pos (by simp), Bool.true_or, insT_past fun z hz => h z (List.mem_cons_of_mem _ hz)]
    rfl

theorem insT_rising {x : T} (hx : x.ok) : ∀ {l : List T}, (∀ y, y ∈ l → y.ok) → RisF l → RisF (insT x false l) ∧ ∀ z, z ∈ insT x false l ↔ z = x ∨ z ∈ l
  | [], _, _ => by simp [insT, RisF]
  | y :: r, ho, h => by
    obtain ⟨h1, h2⟩ := List.pairwise_cons.1 h
    have hr := fun z hz => ho z (List.mem_cons_of_mem _ hz)
    cases hc : cmpF x.fl y.fl with
    | lt =>
      have e : insT x false (y :: r) = x :: y :: r := by
        simp only [insT, hc]
        rw [if_pos (by simp), if_pos (by simp)]
        rw [show (false || decide (Ordering.lt ≠ .gt)) = true by decide, insT_past fun z hz => lessF_trans hc (h1 z hz)]
        rfl
      rw [e]
      refine ⟨List.pairwise_cons.2 ⟨fun z hz => ?_, h⟩, fun z => by simp⟩
      rcases List.mem_cons.1 hz with rfl | hz
      · exact hc
      · exact lessF_trans hc (h1 z hz)
    | eq =>
      have exy := fl_eq hx (ho y (List.mem_cons_self ..)) (cmpF_eq.1 hc)
      subst exy
      have e : insT x false (x :: r) = x :: r := by
        simp only [insT, hc]
        rw [if_pos (by simp), if_neg (by simp)]
        rw [show (false || decide (Ordering.eq ≠ .gt)) = true by decide, insT_past h1]
        rfl
      rw [e]
      exact ⟨h, fun z => by simp⟩
    | gt =>
      have e : insT x false (y :: r) = y :: insT x false r := by
        simp only [insT, hc]
        rw [if_neg (by simp), if_pos (by simp)]
        rfl
      obtain ⟨i1, i2⟩ := insT_rising hx hr h2
      rw [e]
      refine ⟨List.pairwise_cons.2 ⟨fun z hz => ?_, i1⟩, fun z => ?_⟩
      · rcases (i2 z).1 hz with rfl | hz
        · exact cmpF_gt.1 hc
        · exact h1 z hz
      · rw [List.mem_cons, i2, List.mem_cons]
        constructor
        · rintro (h | h | h)
          · exact .inr (.inl h)
          · exact .inl h
          · exact .inr (.inr h)
        · rintro (h | h | h)
          · exact .inr (.inl h)
          · exact .inl h
          · exact .inr (.inr h)

def sortT (p : List T) : List T := p.foldl (fun acc x => insT x false acc) []
theorem foldT_aux : ∀ (p acc : List T), (∀ y, y ∈ p → y.ok) → (∀ y, y ∈ acc → y.ok) → RisF acc → RisF (p.foldl (fun acc x => insT x false acc) acc) ∧ ∀ z, z ∈ p.foldl (fun acc x => insT x false acc) acc ↔ z ∈ p ∨ z ∈ acc
  | [], acc, _, _, h => ⟨h, fun z => by simp⟩
  | x :: p, acc, hp, ha, h => by
    obtain ⟨i1, i2⟩ := insT_rising (hp x (List.mem_cons_self ..)) ha h
    obtain ⟨j1, j2⟩ := foldT_aux p (insT x false acc) (fun y hy => hp y (List.mem_cons_of_mem _ hy)) (fun y hy => ((i2 y).1 hy).elim (fun e => e ▸ hp x (List.mem_cons_self ..)) (ha y)) i1
    refine ⟨j1, fun z => ?_⟩
    rw [List.foldl_cons, j2, i2, List.mem_cons]
    constructor
    · rintro (h | h | h)
      · exact .inl (.inr h)
      · exact .inl (.inl h)
      · exact .inr h
    · rintro ((h | h) | h)
      · exact .inr (.inl h)
      · exact .inl h
      · exact .inr (.inr h)
theorem sortT_rising {p : List T} (hp : ∀ y, y ∈ p → y.ok) : RisF (sortT p) := (foldT_aux p [] hp (by simp) (by simp [RisF])).1
theorem mem_sortT {p : List T} (hp : ∀ y, y ∈ p → y.ok) {z : T} : z ∈ sortT p ↔ z ∈ p := by
  rw [sortT, (foldT_aux p [] hp (by simp) (by simp [RisF])).2]; simp

/-! ### Forms -/
def pcs (op : Int) : T → List T
  | .two x a b => if x.op = op then pcs op a ++ pcs op b else [.two x a b]
  | .one x a => [.one x a]
  | .leaf x => [.leaf x]
def zeroOf (op : Int) : Int := if op = 12 then 1 else 2
def unitOf (op : Int) : Int := if op = 12 then 2 else 1
def agst (l : List T) : Bool := l.any fun a => l.any fun b => decide (a.fl.length = 1 ∧ b.fl = nd 10 :: a.fl)
def foldO (op : Int) : List T → T
  | [] => .leaf (nd (unitOf op))
  | [x] => x
  | x :: y :: r => .two (nd op) x (foldO op (y :: r))
def normL (op : Int) (p : List T) : T :=
  if p.any (fun t => decide (t.root.op = zeroOf op)) = true then .leaf (nd (zeroOf op))
  else if agst (sortT (p.filter fun t => decide (t.root.op ≠ unitOf op))) = true then .leaf (nd (zeroOf op))
  else foldO op (sortT (p.filter fun t => decide (t.root.op ≠ unitOf op)))
def joinT (op : Int) (a b : T) : T := normL op (pcs op a ++ pcs op b)
def formT : T → Bool → T
  | .leaf x, tn => if x.op = 1 ∨ x.op = 2 then .leaf (nd (if tn = true then 3 - x.op else x.op)) else if tn = true then .one (nd 10) (.leaf x) else .leaf x
  | .one x a, tn => formT a (!tn)
  | .two x a b, tn => joinT (if tn = true then 23 - x.op else x.op) (formT a tn) (formT b tn)
end Go.Proofs.Ytielcgplbnlgbaa
