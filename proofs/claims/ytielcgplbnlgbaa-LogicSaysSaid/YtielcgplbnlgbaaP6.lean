/- Forms of filters: what they say, that they are forms. No program in sight. -/
import Derived.Test.YtielcgplbnlgbaaP5
set_option linter.unusedVariables false
set_option linter.unusedSimpArgs false
namespace Go.Proofs.Ytielcgplbnlgbaa

theorem parts_two {op : Int} (h : parts op = 2) : op = 11 ∨ op = 12 := by
  unfold parts at h
  split at h
  · omega
  · split at h
    · assumption
    · omega
theorem parts_one {op : Int} (h : parts op = 1) : op = 10 := by
  unfold parts at h
  split at h
  · assumption
  · split at h <;> omega
theorem parts_12 : parts 12 = 2 := by decide
theorem parts_11 : parts 11 = 2 := by decide
theorem parts_10 : parts 10 = 1 := by decide

theorem pcs_ok {op : Int} : ∀ {t : T}, t.ok → ∀ y, y ∈ pcs op t → y.ok
  | .leaf x, h, y, hy => by rw [pcs, List.mem_singleton] at hy; subst hy; exact h
  | .one x a, h, y, hy => by rw [pcs, List.mem_singleton] at hy; subst hy; exact h
  | .two x a b, h, y, hy => by
    rw [pcs] at hy
    split at hy
    · rcases List.mem_append.1 hy with hy | hy
      · exact pcs_ok h.2.1 y hy
      · exact pcs_ok h.2.2 y hy
    · rw [List.mem_singleton] at hy; subst hy; exact h

/-- A part that is no pair of parts. -/
def Irr (op : Int) (t : T) : Prop := pcs op t = [t]

theorem pcs_irr {op : Int} : ∀ {t : T}, ∀ y, y ∈ pcs op t → Irr op y
  | .leaf x, y, hy => by rw [pcs, List.mem_singleton] at hy; subst hy; rfl
  | .one x a, y, hy => by rw [pcs, List.mem_singleton] at hy; subst hy; rfl
  | .two x a b, y, hy => by
    rw [pcs] at hy
    split at hy
    · rcases List.mem_append.1 hy with hy | hy
      · exact pcs_irr y hy
      · exact pcs_irr y hy
    · rename_i hne
      rw [List.mem_singleton] at hy; subst hy; rw [Irr, pcs, if_neg hne]

theorem pcs_foldO {op : Int} : ∀ {l : List T}, l ≠ [] → (∀ y, y ∈ l → Irr op y) → pcs op (foldO op l) = l
  | [], h, _ => absurd rfl h
  | [x], _, h => h x (List.mem_cons_self ..)
  | x :: y :: r, _, h => by
    rw [foldO, pcs, if_pos (show (nd op).op = op from rfl), h x (List.mem_cons_self ..), pcs_foldO (by simp) fun z hz => h z (List.mem_cons_of_mem _ hz)]
    rfl

theorem sem_all (as : ND → Bool) : ∀ (t : T), t.ok → t.sem as = (pcs 11 t).all (·.sem as)
  | .leaf x, h => by simp [pcs]
  | .one x a, h => by simp [pcs]
  | .two x a b, h => by
    rw [pcs]
    split
    · rename_i e
      rw [List.all_append, ← sem_all as a h.2.1, ← sem_all as b h.2.2]
      simp [T.sem, e]
    · simp

theorem sem_any (as : ND → Bool) : ∀ (t : T), t.ok → t.sem as = (pcs 12 t).any (·.sem as)
  | .leaf x, h => by simp [pcs]
  | .one x a, h => by simp [pcs]
  | .two x a b, h => by
    rw [pcs]
    split
    · rename_i e
      rw [List.any_append, ← sem_any as a h.2.1, ← sem_any as b h.2.2]
      simp [T.sem, e]
    · simp

theorem root_leaf {t : T} (h : t.ok) {op : Int} (e : t.root.op = op) (hp : op = 1 ∨ op = 2) : ∃ x : ND, t = .leaf x ∧ x.op = op := by
  cases t with
  | leaf x => exact ⟨x, rfl, e⟩
  | one x a =>
    have := parts_one h.1
    simp only [T.root] at e; omega
  | two x a b =>
    have := parts_two h.1
    simp only [T.root] at e; omega

theorem sem_root1 {t : T} (h : t.ok) (e : t.root.op = 1) (as : ND → Bool) : t.sem as = true := by
  obtain ⟨x, rfl, hx⟩ := root_leaf h e (.inl rfl)
  simp [T.sem, hx]
theorem sem_root2 {t : T} (h : t.ok) (e : t.root.op = 2) (as : ND → Bool) : t.sem as = false := by
  obtain ⟨x, rfl, hx⟩ := root_leaf h e (.inr rfl)
  simp [T.sem, hx]

theorem fl_one {t : T} (h : t.fl.length = 1) : ∃ x : ND, t = .leaf x := by
  cases t with
  | leaf x => exact ⟨x, rfl⟩
  | one x a => have := a.fl_pos; simp only [T.fl, List.length_cons] at h; omega
  | two x a b => have := a.fl_pos; have := b.fl_pos; simp only [T.fl, List.length_cons, List.length_append] at h; omega

theorem agst_sem {l : List T} (ho : ∀ y, y ∈ l → y.ok) (h : agst l = true) : ∃ a b, a ∈ l ∧ b ∈ l ∧ ∀ as : ND → Bool, b.sem as = !a.sem as := by
  simp only [agst, List.any_eq_true, decide_eq_true_eq] at h
  obtain ⟨a, ha, b, hb, h1, h2⟩ := h
  refine ⟨a, b, ha, hb, fun as => ?_⟩
  obtain ⟨x, rfl⟩ := fl_one h1
  have e : b = .one (nd 10) (.leaf x) := fl_eq (ho b hb) ⟨by decide, ho _ ha⟩ h2
  subst e
  rfl

theorem foldO_all (as : ND → Bool) : ∀ (l : List T), (foldO 11 l).sem as = l.all (·.sem as)
  | [] => by simp [foldO, T.sem, nd, unitOf]
  | [x] => by simp [foldO]
  | x :: y :: r => by
    rw [foldO, T.sem, foldO_all as (y :: r)]
    simp [nd]
theorem foldO_any (as : ND → Bool) : ∀ (l : List T), (foldO 12 l).sem as = l.any (·.sem as)
  | [] => by simp [foldO, T.sem, nd, unitOf]
  | [x] => by simp [foldO]
  | x :: y :: r => by
    rw [foldO, T.sem, foldO_any as (y :: r)]
    simp [nd]

theorem normL_all {p : List T} (ho : ∀ y, y ∈ p → y.ok) (as : ND → Bool) : (normL 11 p).sem as = p.all (·.sem as) := by
  have hf : ∀ y, y ∈ p.filter (fun t => decide (t.root.op ≠ unitOf 11)) → y.ok := fun y hy => ho y (List.mem_filter.1 hy).1
  unfold normL
  split
  · rename_i h
    simp only [List.any_eq_true, decide_eq_true_eq] at h
    obtain ⟨z, hz, e⟩ := h
    have := sem_root2 (ho z hz) e as
    rw [show p.all (·.sem as) = false from List.all_eq_false.2 ⟨z, hz, by simp [this]⟩]
    simp [T.sem, nd, zeroOf]
  · split
    · rename_i h
      obtain ⟨a, b, ha, hb, e⟩ := agst_sem (fun y hy => hf y ((mem_sortT hf).1 hy)) h
      have ha' := (List.mem_filter.1 ((mem_sortT hf).1 ha)).1
      have hb' := (List.mem_filter.1 ((mem_sortT hf).1 hb)).1
      have : p.all (·.sem as) = false := by
        cases ea : a.sem as
        · exact List.all_eq_false.2 ⟨a, ha', by simp [ea]⟩
        · exact List.all_eq_false.2 ⟨b, hb', by simp [e as, ea]⟩
      rw [this]
      simp [T.sem, nd, zeroOf]
    · rw [foldO_all, Bool.eq_iff_iff, List.all_eq_true, List.all_eq_true]
      constructor
      · intro h x hx
        by_cases hu : x.root.op = unitOf 11
        · exact sem_root1 (ho x hx) hu as
        · exact h x ((mem_sortT hf).2 (List.mem_filter.2 ⟨hx, by simpa using hu⟩))
      · exact fun h x hx => h x (List.mem_filter.1 ((mem_sortT hf).1 hx)).1

theorem normL_any {p : List T} (ho : ∀ y, y ∈ p → y.ok) (as : ND → Bool) : (normL 12 p).sem as = p.any (·.sem as) := by
  have hf : ∀ y, y ∈ p.filter (fun t => decide (t.root.op ≠ unitOf 12)) → y.ok := fun y hy => ho y (List.mem_filter.1 hy).1
  unfold normL
  split
  · rename_i h
    simp only [List.any_eq_true, decide_eq_true_eq] at h
    obtain ⟨z, hz, e⟩ := h
    have := sem_root1 (ho z hz) e as
    rw [show p.any (·.sem as) = true from List.any_eq_true.2 ⟨z, hz, this⟩]
    simp [T.sem, nd, zeroOf]
  · split
    · rename_i h
      obtain ⟨a, b, ha, hb, e⟩ := agst_sem (fun y hy => hf y ((mem_sortT hf).1 hy)) h
      have ha' := (List.mem_filter.1 ((mem_sortT hf).1 ha)).1
      have hb' := (List.mem_filter.1 ((mem_sortT hf).1 hb)).1
      have : p.any (·.sem as) = true := by
        cases ea : a.sem as
        · exact List.any_eq_true.2 ⟨b, hb', by simp [e as, ea]⟩
        · exact List.any_eq_true.2 ⟨a, ha', ea⟩
      rw [this]
      simp [T.sem, nd, zeroOf]
    · rw [foldO_any, Bool.eq_iff_iff, List.any_eq_true, List.any_eq_true]
      constructor
      · rintro ⟨x, hx, h⟩
        exact ⟨x, (List.mem_filter.1 ((mem_sortT hf).1 hx)).1, h⟩
      · rintro ⟨x, hx, h⟩
        refine ⟨x, (mem_sortT hf).2 (List.mem_filter.2 ⟨hx, ?_⟩), h⟩
        simp only [ne_eq, decide_not, Bool.not_eq_eq_eq_not, Bool.not_true, decide_eq_false_iff_not]
        intro hu
        rw [sem_root2 (ho x hx) hu as] at h
        cases h

/-! ### Forms may be, and say what the tree says -/
def Good (t : T) : Prop := t.ok ∧ ∀ x, x ∈ t.fl → ndOk x = true
theorem ndOk_nd {op : Int} (h : op = 1 ∨ op = 2 ∨ op = 10 ∨ op = 11 ∨ op = 12) : ndOk (nd op) = true := by
  rcases h with rfl | rfl | rfl | rfl | rfl <;> decide
theorem good_leaf {x : ND} (h : parts x.op = 0) (k : ndOk x = true) : Good (.leaf x) := ⟨h, fun y hy => by rw [T.fl, List.mem_singleton] at hy; rw [hy]; exact k⟩
theorem good_nd {op : Int} (h : op = 1 ∨ op = 2) : Good (.leaf (nd op)) := good_leaf (by rcases h with rfl | rfl <;> decide) (ndOk_nd (by omega))
theorem good_one {x : ND} {a : T} : Good (.one x a) ↔ parts x.op = 1 ∧ ndOk x = true ∧ Good a := by
  simp only [Good, T.ok, T.fl, List.mem_cons]
  exact ⟨fun h => ⟨h.1.1, h.2 x (.inl rfl), h.1.2, fun y hy => h.2 y (.inr hy)⟩, fun h => ⟨⟨h.1, h.2.2.1⟩, fun y hy => hy.elim (fun e => e ▸ h.2.1) (h.2.2.2 y)⟩⟩
theorem good_two {x : ND} {a b : T} : Good (.two x a b) ↔ parts x.op = 2 ∧ ndOk x = true ∧ Good a ∧ Good b := by
  simp only [Good, T.ok, T.fl, List.mem_cons, List.mem_append]
  exact ⟨fun h => ⟨h.1.1, h.2 x (.inl rfl), ⟨h.1.2.1, fun y hy => h.2 y (.inr (.inl hy))⟩, h.1.2.2, fun y hy => h.2 y (.inr (.inr hy))⟩,
    fun h => ⟨⟨h.1, h.2.2.1.1, h.2.2.2.1⟩, fun y hy => hy.elim (fun e => e ▸ h.2.1) fun hy => hy.elim (h.2.2.1.2 y) (h.2.2.2.2 y)⟩⟩

theorem good_pcs {op : Int} : ∀ {t : T}, Good t → ∀ y, y ∈ pcs op t → Good y
  | .leaf x, h, y, hy => by rw [pcs, List.mem_singleton] at hy; subst hy; exact h
  | .one x a, h, y, hy => by rw [pcs, List.mem_singleton] at hy; subst hy; exact h
  | .two x a b, h, y, hy => by
    rw [pcs] at hy
    split at hy
    · rcases List.mem_append.1 hy with hy | hy
      · exact good_pcs (good_two.1 h).2.2.1 y hy
      · exact good_pcs (good_two.1 h).2.2.2 y hy
    · rw [List.mem_singleton] at hy; subst hy; exact h

theorem good_foldO {op : Int} (hop : op = 11 ∨ op = 12) : ∀ {l : List T}, (∀ y, y ∈ l → Good y) → Good (foldO op l)
  | [], _ => by rw [foldO]; exact good_nd (by unfold unitOf; split <;> simp)
  | [x], h => h x (List.mem_cons_self ..)
  | x :: y :: r, h => by
    rw [foldO, good_two]
    exact ⟨by rcases hop with rfl | rfl <;> decide, ndOk_nd (by omega), h x (List.mem_cons_self ..), good_foldO hop fun z hz => h z (List.mem_cons_of_mem _ hz)⟩

theorem good_normL {op : Int} (hop : op = 11 ∨ op = 12) {p : List T} (h : ∀ y, y ∈ p → Good y) : Good (normL op p) := by
  unfold normL
  have hz : Good (.leaf (nd (zeroOf op))) := good_nd (by unfold zeroOf; split <;> simp)
  split
  · exact hz
  · split
    · exact hz
    · have hf : ∀ y, y ∈ p.filter (fun t => decide (t.root.op ≠ unitOf op)) → Good y := fun y hy => h y (List.mem_filter.1 hy).1
      exact good_foldO hop fun y hy => hf y ((mem_sortT fun y hy => (hf y hy).1).1 hy)

theorem good_joinT {op : Int} (hop : op = 11 ∨ op = 12) {a b : T} (ha : Good a) (hb : Good b) : Good (joinT op a b) :=
  good_normL hop fun y hy => (List.mem_append.1 hy).elim (good_pcs ha y) (good_pcs hb y)

theorem sem_join11 {a b : T} (ha : a.ok) (hb : b.ok) (as : ND → Bool) : (joinT 11 a b).sem as = (a.sem as && b.sem as) := by
  rw [joinT, normL_all fun y hy => (List.mem_append.1 hy).elim (pcs_ok ha y) (pcs_ok hb y), List.all_append, ← sem_all as a ha, ← sem_all as b hb]
theorem sem_join12 {a b : T} (ha : a.ok) (hb : b.ok) (as : ND → Bool) : (joinT 12 a b).sem as = (a.sem as || b.sem as) := by
  rw [joinT, normL_any fun y hy => (List.mem_append.1 hy).elim (pcs_ok ha y) (pcs_ok hb y), List.any_append, ← sem_any as a ha, ← sem_any as b hb]

theorem op_turn {op : Int} (h : op = 11 ∨ op = 12) (tn : Bool) : (if tn = true then 23 - op else op) = 11 ∨ (if tn = true then 23 - op else op) = 12 := by
  cases tn
  · simpa using h
  · simp only [if_true]; omega

theorem good_form : ∀ {t : T} (tn : Bool), Good t → Good (formT t tn)
  | .leaf x, tn, h => by
    have hx := h.2 x (by simp [T.fl])
    rw [formT]
    split
    · rename_i hop
      refine good_nd ?_
      split <;> omega
    · split
      · exact good_one.2 ⟨by decide, ndOk_nd (by simp), h⟩
      · exact h
  | .one x a, tn, h => good_form (!tn) (good_one.1 h).2.2
  | .two x a b, tn, h => by
    obtain ⟨h1, h2, h3, h4⟩ := good_two.1 h
    rw [formT]
    exact good_joinT (op_turn (parts_two h1) tn) (good_form tn h3) (good_form tn h4)

theorem sem_form (as : ND → Bool) : ∀ {t : T} (tn : Bool), Good t → (formT t tn).sem as = (t.sem as ^^ tn)
  | .leaf x, tn, h => by
    rw [formT]
    split
    · rename_i hop
      rcases hop with e | e <;> cases tn <;> simp [T.sem, nd, e]
    · rename_i hop
      cases tn
      · simp
      · simp [T.sem]
  | .one x a, tn, h => by
    rw [formT, sem_form as (!tn) (good_one.1 h).2.2, T.sem]
    cases a.sem as <;> cases tn <;> rfl
  | .two x a b, tn, h => by
    obtain ⟨h1, h2, h3, h4⟩ := good_two.1 h
    have ga := good_form tn h3
    have gb := good_form tn h4
    have ea := sem_form as tn h3
    have eb := sem_form as tn h4
    rw [formT]
    rcases parts_two h1 with e | e <;> cases tn
    · simp only [e, Bool.false_eq_true, if_false]
      rw [sem_join11 ga.1 gb.1, ea, eb]; simp [T.sem, e]
    · simp only [e, if_true]
      rw [show (23 - 11 : Int) = 12 by decide, sem_join12 ga.1 gb.1, ea, eb]
      simp only [T.sem, e, if_true]
      cases a.sem as <;> cases b.sem as <;> rfl
    · simp only [e, Bool.false_eq_true, if_false]
      rw [sem_join12 ga.1 gb.1, ea, eb]; simp [T.sem, e]
    · simp only [e, if_true]
      rw [show (23 - 12 : Int) = 11 by decide, sem_join11 ga.1 gb.1, ea, eb]
      simp only [T.sem, e]
      cases a.sem as <;> cases b.sem as <;> rfl
end Go.Proofs.Ytielcgplbnlgbaa
