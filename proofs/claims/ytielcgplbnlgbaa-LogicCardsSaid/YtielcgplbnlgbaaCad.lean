/- Parts of the proof, joined: each part says what it proves, and under which conditions. -/
import Derived.Test.YtielcgplbnlgbaaCac
section
/- Forms of filters: what they say, that they are forms. No program in sight. -/
set_option linter.unusedVariables false
set_option linter.unusedSimpArgs false
namespace Go.Proofs.Ytielcgplbnlgbaa

theorem parts_two {op : Int} (h : parts op = 2) : op = 11 ∨ op = 12 := by
  unfold parts at h
  split at h
  · omega
  · split at h
    · assumption
    · omega
theorem parts_one {op : Int} (h : parts op = 1) : op = 10 := by
  unfold parts at h
  split at h
  · assumption
  · split at h <;> omega
theorem parts_12 : parts 12 = 2 := by decide
theorem parts_11 : parts 11 = 2 := by decide
theorem parts_10 : parts 10 = 1 := by decide

theorem pcs_ok {op : Int} : ∀ {t : T}, t.ok → ∀ y, y ∈ pcs op t → y.ok
  | .leaf x, h, y, hy => by rw [pcs, List.mem_singleton] at hy; subst hy; exact h
  | .one x a, h, y, hy => by rw [pcs, List.mem_singleton] at hy; subst hy; exact h
  | .two x a b, h, y, hy => by
    rw [pcs] at hy
    split at hy
    · rcases List.mem_append.1 hy with hy | hy
      · exact pcs_ok h.2.1 y hy
      · exact pcs_ok h.2.2 y hy
    · rw [List.mem_singleton] at hy; subst hy; exact h

/-- A part that is no pair of parts. -/
def Irr (op : Int) (t : T) : Prop := pcs op t = [t]

theorem pcs_irr {op : Int} : ∀ {t : T}, ∀ y, y ∈ pcs op t → Irr op y
  | .leaf x, y, hy => by rw [pcs, List.mem_singleton] at hy; subst hy; rfl
  | .one x a, y, hy => by rw [pcs, List.mem_singleton] at hy; subst hy; rfl
  | .two x a b, y, hy => by
    rw [pcs] at hy
    split at hy
    · rcases List.mem_append.1 hy with hy | hy
      · exact pcs_irr y hy
      · exact pcs_irr y hy
    · rename_i hne
      rw [List.mem_singleton] at hy; subst hy; rw [Irr, pcs, if_neg hne]

theorem pcs_foldO {op : Int} : ∀ {l : List T}, l ≠ [] → (∀ y, y ∈ l → Irr op y) → pcs op (foldO op l) = l
  | [], h, _ => absurd rfl h
  | [x], _, h => h x (List.mem_cons_self ..)
  | x :: y :: r, _, h => by
    rw [foldO, pcs, if_pos (show (nd op).op = op from rfl), h x (List.mem_cons_self ..), pcs_foldO (by simp) fun z hz => h z (List.mem_cons_of_mem _ hz)]
    rfl

theorem sem_all (av : ND → Bool) : ∀ (t : T), t.ok → t.sem av = (pcs 11 t).all (·.sem av)
  | .leaf x, h => by simp [pcs]
  | .one x a, h => by simp [pcs]
  | .two x a b, h => by
    rw [pcs]
    split
    · rename_i e
      rw [List.all_append, ← sem_all av a h.2.1, ← sem_all av b h.2.2]
      simp [T.sem, e]
    · simp

theorem sem_any (av : ND → Bool) : ∀ (t : T), t.ok → t.sem av = (pcs 12 t).any (·.sem av)
  | .leaf x, h => by simp [pcs]
  | .one x a, h => by simp [pcs]
  | .two x a b, h => by
    rw [pcs]
    split
    · rename_i e
      rw [List.any_append, ← sem_any av a h.2.1, ← sem_any av b h.2.2]
      simp [T.sem, e]
    · simp

theorem root_leaf {t : T} (h : t.ok) {op : Int} (e : t.root.op = op) (hp : op = 1 ∨ op = 2) : ∃ x : ND, t = .leaf x ∧ x.op = op := by
  cases t with
  | leaf x => exact ⟨x, rfl, e⟩
  | one x a =>
    have := parts_one h.1
    simp only [T.root] at e; omega
  | two x a b =>
    have := parts_two h.1
    simp only [T.root] at e; omega

theorem sem_root1 {t : T} (h : t.ok) (e : t.root.op = 1) (av : ND → Bool) : t.sem av = true := by
  obtain ⟨x, rfl, hx⟩ := root_leaf h e (.inl rfl)
  simp [T.sem, hx]
theorem sem_root2 {t : T} (h : t.ok) (e : t.root.op = 2) (av : ND → Bool) : t.sem av = false := by
  obtain ⟨x, rfl, hx⟩ := root_leaf h e (.inr rfl)
  simp [T.sem, hx]

theorem fl_one {t : T} (h : t.fl.length = 1) : ∃ x : ND, t = .leaf x := by
  cases t with
  | leaf x => exact ⟨x, rfl⟩
  | one x a => have := a.fl_pos; simp only [T.fl, List.length_cons] at h; omega
  | two x a b => have := a.fl_pos; have := b.fl_pos; simp only [T.fl, List.length_cons, List.length_append] at h; omega

theorem agst_sem {l : List T} (ho : ∀ y, y ∈ l → y.ok) (h : agst l = true) : ∃ a b, a ∈ l ∧ b ∈ l ∧ ∀ av : ND → Bool, b.sem av = !a.sem av := by
  simp only [agst, List.any_eq_true, decide_eq_true_eq] at h
  obtain ⟨a, ha, b, hb, h1, h2⟩ := h
  refine ⟨a, b, ha, hb, fun av => ?_⟩
  obtain ⟨x, rfl⟩ := fl_one h1
  have e : b = .one (nd 10) (.leaf x) := fl_eq (ho b hb) ⟨by decide, ho _ ha⟩ h2
  subst e
  rfl

theorem foldO_all (av : ND → Bool) : ∀ (l : List T), (foldO 11 l).sem av = l.all (·.sem av)
  | [] => by simp [foldO, T.sem, nd, unitOf]
  | [x] => by simp [foldO]
  | x :: y :: r => by
    rw [foldO, T.sem, foldO_all av (y :: r)]
    simp [nd]
theorem foldO_any (av : ND → Bool) : ∀ (l : List T), (foldO 12 l).sem av = l.any (·.sem av)
  | [] => by simp [foldO, T.sem, nd, unitOf]
  | [x] => by simp [foldO]
  | x :: y :: r => by
    rw [foldO, T.sem, foldO_any av (y :: r)]
    simp [nd]

theorem normL_all {p : List T} (ho : ∀ y, y ∈ p → y.ok) (av : ND → Bool) : (normL 11 p).sem av = p.all (·.sem av) := by
  have hf : ∀ y, y ∈ p.filter (fun t => decide (t.root.op ≠ unitOf 11)) → y.ok := fun y hy => ho y (List.mem_filter.1 hy).1
  unfold normL
  split
  · rename_i h
    simp only [List.any_eq_true, decide_eq_true_eq] at h
    obtain ⟨z, hz, e⟩ := h
    have := sem_root2 (ho z hz) e av
    rw [show p.all (·.sem av) = false from List.all_eq_false.2 ⟨z, hz, by simp [this]⟩]
    simp [T.sem, nd, zeroOf]
  · split
    · rename_i h
      obtain ⟨a, b, ha, hb, e⟩ := agst_sem (fun y hy => hf y ((mem_sortT hf).1 hy)) h
      have ha' := (List.mem_filter.1 ((mem_sortT hf).1 ha)).1
      have hb' := (List.mem_filter.1 ((mem_sortT hf).1 hb)).1
      have : p.all (·.sem av) = false := by
        cases ea : a.sem av
        · exact List.all_eq_false.2 ⟨a, ha', by simp [ea]⟩
        · exact List.all_eq_false.2 ⟨b, hb', by simp [e av, ea]⟩
      rw [this]
      simp [T.sem, nd, zeroOf]
    · rw [foldO_all, Bool.eq_iff_iff, List.all_eq_true, List.all_eq_true]
      constructor
      · intro h x hx
        by_cases hu : x.root.op = unitOf 11
        · exact sem_root1 (ho x hx) hu av
        · exact h x ((mem_sortT hf).2 (List.mem_filter.2 ⟨hx, by simpa using hu⟩))
      · exact fun h x hx => h x (List.mem_filter.1 ((mem_sortT hf).1 hx)).1

theorem normL_any {p : List T} (ho : ∀ y, y ∈ p → y.ok) (av : ND → Bool) : (normL 12 p).sem av = p.any (·.sem av) := by
  have hf : ∀ y, y ∈ p.filter (fun t => decide (t.root.op ≠ unitOf 12)) → y.ok := fun y hy => ho y (List.mem_filter.1 hy).1
  unfold normL
  split
  · rename_i h
    simp only [List.any_eq_true, decide_eq_true_eq] at h
    obtain ⟨z, hz, e⟩ := h
    have := sem_root1 (ho z hz) e av
    rw [show p.any (·.sem av) = true from List.any_eq_true.2 ⟨z, hz, this⟩]
    simp [T.sem, nd, zeroOf]
  · split
    · rename_i h
      obtain ⟨a, b, ha, hb, e⟩ := agst_sem (fun y hy => hf y ((mem_sortT hf).1 hy)) h
      have ha' := (List.mem_filter.1 ((mem_sortT hf).1 ha)).1
      have hb' := (List.mem_filter.1 ((mem_sortT hf).1 hb)).1
      have : p.any (·.sem av) = true := by
        cases ea : a.sem av
        · exact List.any_eq_true.2 ⟨b, hb', by simp [e av, ea]⟩
        · exact List.any_eq_true.2 ⟨a, ha', ea⟩
      rw [this]
      simp [T.sem, nd, zeroOf]
    · rw [foldO_any, Bool.eq_iff_iff, List.any_eq_true, List.any_eq_true]
      constructor
      · rintro ⟨x, hx, h⟩
        exact ⟨x, (List.mem_filter.1 ((mem_sortT hf).1 hx)).1, h⟩
      · rintro ⟨x, hx, h⟩
        refine ⟨x, (mem_sortT hf).2 (List.mem_filter.2 ⟨hx, ?_⟩), h⟩
        simp only [ne_eq, decide_not, Bool.not_eq_eq_eq_not, Bool.not_true, decide_eq_false_iff_not]
        intro hu
        rw [sem_root2 (ho x hx) hu av] at h
        cases h

/-! ### Forms may be, and say what the tree says -/
def Good (t : T) : Prop := t.ok ∧ ∀ x, x ∈ t.fl → ndOk x = true
theorem ndOk_nd {op : Int} (h : op = 1 ∨ op = 2 ∨ op = 10 ∨ op = 11 ∨ op = 12) : ndOk (nd op) = true := by
  rcases h with rfl | rfl | rfl | rfl | rfl <;> decide
theorem good_leaf {x : ND} (h : parts x.op = 0) (k : ndOk x = true) : Good (.leaf x) := ⟨h, fun y hy => by rw [T.fl, List.mem_singleton] at hy; rw [hy]; exact k⟩
theorem good_nd {op : Int} (h : op = 1 ∨ op = 2) : Good (.leaf (nd op)) := good_leaf (by rcases h with rfl | rfl <;> decide) (ndOk_nd (by omega))
theorem good_one {x : ND} {a : T} : Good (.one x a) ↔ parts x.op = 1 ∧ ndOk x = true ∧ Good a := by
  simp only [Good, T.ok, T.fl, List.mem_cons]
  exact ⟨fun h => ⟨h.1.1, h.2 x (.inl rfl), h.1.2, fun y hy => h.2 y (.inr hy)⟩, fun h => ⟨⟨h.1, h.2.2.1⟩, fun y hy => hy.elim (fun e => e ▸ h.2.1) (h.2.2.2 y)⟩⟩
theorem good_two {x : ND} {a b : T} : Good (.two x a b) ↔ parts x.op = 2 ∧ ndOk x = true ∧ Good a ∧ Good b := by
  simp only [Good, T.ok, T.fl, List.mem_cons, List.mem_append]
  exact ⟨fun h => ⟨h.1.1, h.2 x (.inl rfl), ⟨h.1.2.1, fun y hy => h.2 y (.inr (.inl hy))⟩, h.1.2.2, fun y hy => h.2 y (.inr (.inr hy))⟩,
    fun h => ⟨⟨h.1, h.2.2.1.1, h.2.2.2.1⟩, fun y hy => hy.elim (fun e => e ▸ h.2.1) fun hy => hy.elim (h.2.2.1.2 y) (h.2.2.2.2 y)⟩⟩

theorem good_pcs {op : Int} : ∀ {t : T}, Good t → ∀ y, y ∈ pcs op t → Good y
  | .leaf x, h, y, hy => by rw [pcs, List.mem_singleton] at hy; subst hy; exact h
  | .one x a, h, y, hy => by rw [pcs, List.mem_singleton] at hy; subst hy; exact h
  | .two x a b, h, y, hy => by
    rw [pcs] at hy
    split at hy
    · rcases List.mem_append.1 hy with hy | hy
      · exact good_pcs (good_two.1 h).2.2.1 y hy
      · exact good_pcs (good_two.1 h).2.2.2 y hy
    · rw [List.mem_singleton] at hy; subst hy; exact h

theorem good_foldO {op : Int} (hop : op = 11 ∨ op = 12) : ∀ {l : List T}, (∀ y, y ∈ l → Good y) → Good (foldO op l)
  | [], _ => by rw [foldO]; exact good_nd (by unfold unitOf; split <;> simp)
  | [x], h => h x (List.mem_cons_self ..)
  | x :: y :: r, h => by
    rw [foldO, good_two]
    exact ⟨by rcases hop with rfl | rfl <;> decide, ndOk_nd (by omega), h x (List.mem_cons_self ..), good_foldO hop fun z hz => h z (List.mem_cons_of_mem _ hz)⟩

theorem good_normL {op : Int} (hop : op = 11 ∨ op = 12) {p : List T} (h : ∀ y, y ∈ p → Good y) : Good (normL op p) := by
  unfold normL
  have hz : Good (.leaf (nd (zeroOf op))) := good_nd (by unfold zeroOf; split <;> simp)
  split
  · exact hz
  · split
    · exact hz
    · have hf : ∀ y, y ∈ p.filter (fun t => decide (t.root.op ≠ unitOf op)) → Good y := fun y hy => h y (List.mem_filter.1 hy).1
      exact good_foldO hop fun y hy => hf y ((mem_sortT fun y hy => (hf y hy).1).1 hy)

theorem good_joinT {op : Int} (hop : op = 11 ∨ op = 12) {a b : T} (ha : Good a) (hb : Good b) : Good (joinT op a b) :=
  good_normL hop fun y hy => (List.mem_append.1 hy).elim (good_pcs ha y) (good_pcs hb y)

theorem sem_join11 {a b : T} (ha : a.ok) (hb : b.ok) (av : ND → Bool) : (joinT 11 a b).sem av = (a.sem av && b.sem av) := by
  rw [joinT, normL_all fun y hy => (List.mem_append.1 hy).elim (pcs_ok ha y) (pcs_ok hb y), List.all_append, ← sem_all av a ha, ← sem_all av b hb]
theorem sem_join12 {a b : T} (ha : a.ok) (hb : b.ok) (av : ND → Bool) : (joinT 12 a b).sem av = (a.sem av || b.sem av) := by
  rw [joinT, normL_any fun y hy => (List.mem_append.1 hy).elim (pcs_ok ha y) (pcs_ok hb y), List.any_append, ← sem_any av a ha, ← sem_any av b hb]

theorem op_turn {op : Int} (h : op = 11 ∨ op = 12) (tn : Bool) : (if tn = true then 23 - op else op) = 11 ∨ (if tn = true then 23 - op else op) = 12 := by
  cases tn
  · simpa using h
  · simp only [if_true]; omega

theorem good_form : ∀ {t : T} (tn : Bool), Good t → Good (formT t tn)
  | .leaf x, tn, h => by
    have hx := h.2 x (by simp [T.fl])
    rw [formT]
    split
    · rename_i hop
      refine good_nd ?_
      split <;> omega
    · split
      · exact good_one.2 ⟨by decide, ndOk_nd (by simp), h⟩
      · exact h
  | .one x a, tn, h => good_form (!tn) (good_one.1 h).2.2
  | .two x a b, tn, h => by
    obtain ⟨h1, h2, h3, h4⟩ := good_two.1 h
    rw [formT]
    exact good_joinT (op_turn (parts_two h1) tn) (good_form tn h3) (good_form tn h4)

theorem sem_form (av : ND → Bool) : ∀ {t : T} (tn : Bool), Good t → (formT t tn).sem av = (t.sem av ^^ tn)
  | .leaf x, tn, h => by
    rw [formT]
    split
    · rename_i hop
      rcases hop with e | e <;> cases tn <;> simp [T.sem, nd, e]
    · rename_i hop
      cases tn
      · simp
      · simp [T.sem]
  | .one x a, tn, h => by
    rw [formT, sem_form av (!tn) (good_one.1 h).2.2, T.sem]
    cases a.sem av <;> cases tn <;> rfl
  | .two x a b, tn, h => by
    obtain ⟨h1, h2, h3, h4⟩ := good_two.1 h
    have ga := good_form tn h3
    have gb := good_form tn h4
    have ea := sem_form av tn h3
    have eb := sem_form av tn h4
    rw [formT]
    rcases parts_two h1 with e | e <;> cases tn
    · simp only [e, Bool.false_eq_true, if_false]
      rw [sem_join11 ga.1 gb.1, ea, eb]; simp [T.sem, e]
    · simp only [e, if_true]
      rw [show (23 - 11 : Int) = 12 by decide, sem_join12 ga.1 gb.1, ea, eb]
      simp only [T.sem, e, if_true]
      cases a.sem av <;> cases b.sem av <;> rfl
    · simp only [e, Bool.false_eq_true, if_false]
      rw [sem_join12 ga.1 gb.1, ea, eb]; simp [T.sem, e]
    · simp only [e, if_true]
      rw [show (23 - 12 : Int) = 11 by decide, sem_join11 ga.1 gb.1, ea, eb]
      simp only [T.sem, e]
      cases a.sem av <;> cases b.sem av <;> rfl
end Go.Proofs.Ytielcgplbnlgbaa
end

section
/- Contract of the document's Kids: the conditions that the theorem names. -/

set_option linter.unusedVariables false
set_option linter.unusedSimpArgs false
namespace Go.Proofs.Ytielcgplbnlgbaa

theorem app_flat' {α : Type} (D ex Y : List α) (m y : Nat) (h1 : D.length = m) (h2 : Y.length = y) : List.take m (D ++ ex) ++ Y ++ List.drop (m + y) (D ++ ex) = (D ++ Y) ++ ex.drop y := by
  subst h1 h2
  rw [List.take_left, List.drop_append, List.drop_eq_nil_of_le (by omega), List.nil_append, Nat.add_sub_cancel_left]

abbrev T.kl (t : T) : List (List MV) := t.kids.map fun k => [.lst 5 (k.fl.map ND.c) false]

theorem kid_end {t : T} (h : t.ok) {i : Nat} (hi : i < t.kids.length) :
    endS t.fl ((1 + ((t.kids.take i).map T.fl).flatten.length : Nat) : Int) = ((1 + ((t.kids.take (i + 1)).map T.fl).flatten.length : Nat) : Int) ∧
    (t.fl.take (1 + ((t.kids.take (i + 1)).map T.fl).flatten.length)).drop (1 + ((t.kids.take i).map T.fl).flatten.length) = (t.kids.getD i (.leaf nd0)).fl ∧
    1 + ((t.kids.take i).map T.fl).flatten.length ≤ 1 + ((t.kids.take (i + 1)).map T.fl).flatten.length ∧ 1 + ((t.kids.take (i + 1)).map T.fl).flatten.length ≤ t.fl.length ∧ (t.kids.getD i (.leaf nd0)).fl.length ≤ t.fl.length := by
  obtain ⟨h1, h2⟩ := T.ok_kids h
  obtain ⟨k, hk⟩ : ∃ k, t.kids.getD i (.leaf nd0) = k := ⟨_, rfl⟩
  have hg : t.kids[i] = k := by rw [← hk, getD_of_lt _ hi]
  have hko := h2 k (by rw [← hk]; exact getD_mem _ hi)
  have e1 : ((t.kids.take (i + 1)).map T.fl).flatten = ((t.kids.take i).map T.fl).flatten ++ k.fl := by
    rw [List.take_succ_eq_append_getElem hi, hg]; simp
  have e2 : t.fl = (t.root :: ((t.kids.take i).map T.fl).flatten) ++ (k.fl ++ ((t.kids.drop (i + 1)).map T.fl).flatten) := by
    rw [T.fl_kids]
    conv => lhs; rw [← List.take_append_drop i t.kids, List.drop_eq_getElem_cons hi, hg]
    simp
  have e3 : (t.root :: ((t.kids.take i).map T.fl).flatten).length = 1 + ((t.kids.take i).map T.fl).flatten.length := by rw [List.length_cons]; omega
  rw [e1, List.length_append, hk]
  generalize hA : t.root :: ((t.kids.take i).map T.fl).flatten = A at e2 e3
  have e4 := endS_fl hko A ((t.kids.drop (i + 1)).map T.fl).flatten
  rw [← e2, e3] at e4
  refine ⟨by rw [e4, Nat.add_assoc], ?_, by omega, by rw [e2]; simp only [List.length_append]; omega, by rw [e2]; simp only [List.length_append]; omega⟩
  rw [← Nat.add_assoc, ← e3, e2, ← List.append_assoc, ← List.length_append, List.take_left, List.drop_left]

set_option maxHeartbeats 2000000 in
theorem rkids_call (t : T) (h : t.ok) (hl : t.fl.length ≤ 1000) (tt : Bool) : MCalls Try.prog 38 [.lst 5 (t.fl.map ND.c) tt, .int .i64 0] St.none (fun r _ => r = .lst 1 t.kl false) := by
  refine MCalls.seen (MCalls.body 44 [.tmp 4] Try.func38 rfl rfl rfl rfl ?_)
  have hpos := t.fl_pos
  have hf0 : (t.fl.getD 0 nd0) = t.root := by rw [T.fl_kids]; rfl
  obtain ⟨h1, h2⟩ := T.ok_kids h
  have hb2 : t.kids.length ≤ 2 := by have := parts_cases t.root.op; omega
  repeat' (first | ((with_reducible refine wT ?_); (first | (fail_if_success (have := nl1)); with_reducible refine wN fun nl1 hnl => ?_ | (fail_if_success (have := nl2)); with_reducible refine wN fun nl2 hnl => ?_ | (fail_if_success (have := nl3)); with_reducible refine wN fun nl3 hnl => ?_ | (fail_if_success (have := nl4)); with_reducible refine wN fun nl4 hnl => ?_ | (fail_if_success (have := nl5)); with_reducible refine wN fun nl5 hnl => ?_ | with_reducible refine wN fun _ hnl => ?_); revert hnl; (repeat with_reducible refine wS fun _ _ => ?_); intro hnl) | (with_reducible first | refine mdraw_plain mixed (by decide +kernel) ?_ | refine wI (fun h => ?_) (fun h => ?_) | refine wF (fun h => ?_) (fun h => ?_) | refine wG (fun h => ?_) (fun h => ?_) | refine wH (fun h => ?_) (fun h => ?_)) | (with_reducible refine mfork_bool (fun h => ?_) (fun h => ?_) <;> simp only [h]) | (with_reducible refine mgfork_bool (fun h => ?_) (fun h => ?_) <;> simp only [h]) | (simp (config := { maxSteps := 4000000 }) (disch := first | decide | assumption | omega | (simp only [wL]; omega)) only [go_sem, Nat.reduceAdd, Nat.reduceSub, Nat.reduceMul, Nat.reduceDiv, Nat.reduceMod, Nat.reduceLT, Nat.reduceLeDiff, Nat.reduceEqDiff, Nat.reduceSucc, Nat.reduceGT, Int.reduceAdd, Int.reduceSub, Int.reduceMul, Int.reduceNeg, Int.reduceLT, Int.reduceLE, Int.reduceEq, Int.reduceToNat, reduceIte, Try.f38, getD_mapd nd0]))
  refine mloop_intro (α := Nat × Nat × List (List MV)) (fun a => ⟨44, [(7, .int .i64 (a.1 : Int)), (6, .int .i64 ((1 + ((t.kids.take a.1).map T.fl).flatten.length : Nat) : Int)), (5, .vec 1 a.2.1 0 a.1), (0, .lst 5 (t.fl.map ND.c) tt), (1, .int .i64 0)], []⟩)
    (fun a => St.none.set a.2.1 (.row 22 1 ((t.kl.take a.1) ++ a.2.2))) (fun a => a.1 ≤ t.kids.length) (fun a => t.kids.length - a.1) ?_ ?_
  · refine .of (.less ?_ (St.le_refl _)) ⟨(0, nl1, []), rfl, rfl, Nat.zero_le _⟩
    simp (config := { maxSteps := 4000000 }) (disch := first | decide | assumption | omega | (simp only [wL]; omega)) only [go_sem, Nat.reduceAdd, Nat.reduceSub, Nat.reduceMul, Nat.reduceDiv, Nat.reduceMod, Nat.reduceLT, Nat.reduceLeDiff, Nat.reduceEqDiff, Nat.reduceSucc, Nat.reduceGT, Int.reduceAdd, Int.reduceSub, Int.reduceMul, Int.reduceNeg, Int.reduceLT, Int.reduceLE, Int.reduceEq, Int.reduceToNat, reduceIte, weak_int, weak_same]
    exact ⟨rfl, rfl⟩
  · rintro ⟨i, q, ex⟩ hi
    simp only at hi ⊢
    by_cases hlt : i < t.kids.length
    · obtain ⟨k1, k2, k3, k4, k5⟩ := kid_end h hlt
      have hm : min i t.kids.length = i := Nat.min_eq_left hi
      have e1 : List.map (fun k => [MV.lst 5 (List.map ND.c k.fl) false]) (t.kids.take (i + 1)) = List.map (fun k => [MV.lst 5 (List.map ND.c k.fl) false]) (t.kids.take i) ++ [[.lst 5 ((t.kids.getD i (.leaf nd0)).fl.map ND.c) false]] := by
        rw [List.take_succ_eq_append_getElem hlt, List.map_append, ← getD_of_lt (.leaf nd0) hlt]; rfl
      repeat' (first | (with_reducible refine use_pure (rparts_call _) ?_) | (with_reducible refine use_pure (rend_call _ (by omega) _ _) ?_) | ((with_reducible refine wT ?_); (first | (fail_if_success (have := nl1)); with_reducible refine wN fun nl1 hnl => ?_ | (fail_if_success (have := nl2)); with_reducible refine wN fun nl2 hnl => ?_ | (fail_if_success (have := nl3)); with_reducible refine wN fun nl3 hnl => ?_ | (fail_if_success (have := nl4)); with_reducible refine wN fun nl4 hnl => ?_ | (fail_if_success (have := nl5)); with_reducible refine wN fun nl5 hnl => ?_ | with_reducible refine wN fun _ hnl => ?_); revert hnl; (repeat with_reducible refine wS fun _ _ => ?_); intro hnl) | (with_reducible first | refine mdraw_plain mixed (by decide +kernel) ?_ | refine wI (fun h => ?_) (fun h => ?_) | refine wF (fun h => ?_) (fun h => ?_) | refine wG (fun h => ?_) (fun h => ?_) | refine wH (fun h => ?_) (fun h => ?_)) | (with_reducible refine mfork_bool (fun h => ?_) (fun h => ?_) <;> simp only [h]) | (with_reducible refine mgfork_bool (fun h => ?_) (fun h => ?_) <;> simp only [h]) | (simp (config := { maxSteps := 4000000 }) (disch := first | decide | assumption | omega | (simp only [wL]; omega)) only [go_sem, Nat.reduceAdd, Nat.reduceSub, Nat.reduceMul, Nat.reduceDiv, Nat.reduceMod, Nat.reduceLT, Nat.reduceLeDiff, Nat.reduceEqDiff, Nat.reduceSucc, Nat.reduceGT, Int.reduceAdd, Int.reduceSub, Int.reduceMul, Int.reduceNeg, Int.reduceLT, Int.reduceLE, Int.reduceEq, Int.reduceToNat, reduceIte, getD_mapd nd0, hf0, k1, k2, hm]))
      · have hex : ex = [] := List.eq_nil_of_length_eq_zero (by omega)
        subst hex
        refine .of (Ghost.nest (t := 22) (t1 := 49) (e1 := 5) (ys := (t.kids.getD i (.leaf nd0)).fl.map ND.c) (n1 := (t.kids.getD i (.leaf nd0)).fl.length) (q := nl5) (m := nl3) (pre := List.map (fun k => [MV.lst 5 (List.map ND.c k.fl) false]) (t.kids.take i)) (post := []) St.none (by first | (simp (config := { maxSteps := 4000000 }) (disch := first | decide | assumption | omega | (simp only [wL]; omega)) only [go_sem, Nat.reduceAdd, Nat.reduceSub, Nat.reduceMul, Nat.reduceDiv, Nat.reduceMod, Nat.reduceLT, Nat.reduceLeDiff, Nat.reduceEqDiff, Nat.reduceSucc, Nat.reduceGT, Int.reduceAdd, Int.reduceSub, Int.reduceMul, Int.reduceNeg, Int.reduceLT, Int.reduceLE, Int.reduceEq, Int.reduceToNat, reduceIte]; done) | (simp (config := { maxSteps := 4000000 }) (disch := first | decide | assumption | omega | (simp only [wL]; omega)) only [go_sem, Nat.reduceAdd, Nat.reduceSub, Nat.reduceMul, Nat.reduceDiv, Nat.reduceMod, Nat.reduceLT, Nat.reduceLeDiff, Nat.reduceEqDiff, Nat.reduceSucc, Nat.reduceGT, Int.reduceAdd, Int.reduceSub, Int.reduceMul, Int.reduceNeg, Int.reduceLT, Int.reduceLE, Int.reduceEq, Int.reduceToNat, reduceIte]; rfl)) ((set_hit _ _ _).trans ?_) (by rw [List.length_map]) (St.none_le _) rfl (by assumption) ?_) ⟨(i + 1, nl5, []), rfl, ?_, by simp only; omega, by simp only; omega⟩
        · rw [List.append_nil]
        · simp (config := { maxSteps := 4000000 }) (disch := first | decide | assumption | omega | (simp only [wL]; omega)) only [go_sem, Nat.reduceAdd, Nat.reduceSub, Nat.reduceMul, Nat.reduceDiv, Nat.reduceMod, Nat.reduceLT, Nat.reduceLeDiff, Nat.reduceEqDiff, Nat.reduceSucc, Nat.reduceGT, Int.reduceAdd, Int.reduceSub, Int.reduceMul, Int.reduceNeg, Int.reduceLT, Int.reduceLE, Int.reduceEq, Int.reduceToNat, reduceIte, weak_int, weak_same]
          rfl
        · simp only
          rw [e1, List.append_nil]
      · refine .of (Ghost.nest (t := 22) (t1 := 49) (e1 := 5) (ys := (t.kids.getD i (.leaf nd0)).fl.map ND.c) (n1 := (t.kids.getD i (.leaf nd0)).fl.length) (q := nl5) (m := nl3) (pre := List.map (fun k => [MV.lst 5 (List.map ND.c k.fl) false]) (t.kids.take i)) (post := ex.drop 1) St.none (by first | (simp (config := { maxSteps := 4000000 }) (disch := first | decide | assumption | omega | (simp only [wL]; omega)) only [go_sem, Nat.reduceAdd, Nat.reduceSub, Nat.reduceMul, Nat.reduceDiv, Nat.reduceMod, Nat.reduceLT, Nat.reduceLeDiff, Nat.reduceEqDiff, Nat.reduceSucc, Nat.reduceGT, Int.reduceAdd, Int.reduceSub, Int.reduceMul, Int.reduceNeg, Int.reduceLT, Int.reduceLE, Int.reduceEq, Int.reduceToNat, reduceIte]; done) | (simp (config := { maxSteps := 4000000 }) (disch := first | decide | assumption | omega | (simp only [wL]; omega)) only [go_sem, Nat.reduceAdd, Nat.reduceSub, Nat.reduceMul, Nat.reduceDiv, Nat.reduceMod, Nat.reduceLT, Nat.reduceLeDiff, Nat.reduceEqDiff, Nat.reduceSucc, Nat.reduceGT, Int.reduceAdd, Int.reduceSub, Int.reduceMul, Int.reduceNeg, Int.reduceLT, Int.reduceLE, Int.reduceEq, Int.reduceToNat, reduceIte]; rfl)) ((set_hit _ _ _).trans ?_) (by rw [List.length_map]) (St.none_le _) rfl (by assumption) ?_) ⟨(i + 1, nl5, ex.drop 1), rfl, ?_, by simp only; omega, by simp only; omega⟩
        · rw [app_flat' (List.map (fun k => [MV.lst 5 (List.map ND.c (T.fl k)) false]) (t.kids.take i)) ex [[MV.vec 5 nl3 0 (t.kids.getD i (T.leaf nd0)).fl.length]] i 1 (by rw [List.length_map, List.length_take]; omega) rfl, List.append_assoc]
          rfl
        · simp (config := { maxSteps := 4000000 }) (disch := first | decide | assumption | omega | (simp only [wL]; omega)) only [go_sem, Nat.reduceAdd, Nat.reduceSub, Nat.reduceMul, Nat.reduceDiv, Nat.reduceMod, Nat.reduceLT, Nat.reduceLeDiff, Nat.reduceEqDiff, Nat.reduceSucc, Nat.reduceGT, Int.reduceAdd, Int.reduceSub, Int.reduceMul, Int.reduceNeg, Int.reduceLT, Int.reduceLE, Int.reduceEq, Int.reduceToNat, reduceIte, weak_int, weak_same]
          rfl
        · simp only
          rw [e1, List.append_assoc]
          rfl
    · have : i = t.kids.length := by omega
      subst this
      repeat' (first | (with_reducible refine use_pure (rparts_call _) ?_) | ((with_reducible refine wT ?_); (first | (fail_if_success (have := nl1)); with_reducible refine wN fun nl1 hnl => ?_ | (fail_if_success (have := nl2)); with_reducible refine wN fun nl2 hnl => ?_ | (fail_if_success (have := nl3)); with_reducible refine wN fun nl3 hnl => ?_ | (fail_if_success (have := nl4)); with_reducible refine wN fun nl4 hnl => ?_ | (fail_if_success (have := nl5)); with_reducible refine wN fun nl5 hnl => ?_ | with_reducible refine wN fun _ hnl => ?_); revert hnl; (repeat with_reducible refine wS fun _ _ => ?_); intro hnl) | (with_reducible first | refine mdraw_plain mixed (by decide +kernel) ?_ | refine wI (fun h => ?_) (fun h => ?_) | refine wF (fun h => ?_) (fun h => ?_) | refine wG (fun h => ?_) (fun h => ?_) | refine wH (fun h => ?_) (fun h => ?_)) | (with_reducible refine mfork_bool (fun h => ?_) (fun h => ?_) <;> simp only [h]) | (with_reducible refine mgfork_bool (fun h => ?_) (fun h => ?_) <;> simp only [h]) | (simp (config := { maxSteps := 4000000 }) (disch := first | decide | assumption | omega | (simp only [wL]; omega)) only [go_sem, Nat.reduceAdd, Nat.reduceSub, Nat.reduceMul, Nat.reduceDiv, Nat.reduceMod, Nat.reduceLT, Nat.reduceLeDiff, Nat.reduceEqDiff, Nat.reduceSucc, Nat.reduceGT, Int.reduceAdd, Int.reduceSub, Int.reduceMul, Int.reduceNeg, Int.reduceLT, Int.reduceLE, Int.reduceEq, Int.reduceToNat, reduceIte, getD_mapd nd0, hf0, List.take_length]))
      have hv := View.vec (σ := St.none.set q (.row 22 1 (t.kl ++ ex))) (l := q) (lo := 0) (n := t.kids.length) (set_hit _ _ _) (by rw [List.length_append, List.length_map]; omega)
      have e : ((t.kl ++ ex).drop 0).take t.kids.length = t.kl := by
        rw [List.drop_zero, List.take_append_of_le_length (by rw [List.length_map]; omega), List.take_of_length_le (by rw [List.length_map]; omega)]
      rw [e] at hv
      exact hv
end Go.Proofs.Ytielcgplbnlgbaa
end

section
/- Contracts of the library's search in a sorted list: the conditions that each theorem names. -/
set_option linter.unusedVariables false
set_option linter.unusedSimpArgs false
namespace Go.Proofs.Ytielcgplbnlgbaa

theorem posK_eq {l : List ND} {x : ND} {i : Nat} (h0 : i ≤ l.length) (h1 : ∀ q, q < i → lessK (l.getD q nd0).key x.key) (h2 : ∀ q, i ≤ q → q < l.length → ¬ lessK (l.getD q nd0).key x.key) : posK l x = i := by
  unfold posK
  by_cases hi : i < l.length
  · rw [List.findIdx_eq hi]
    refine ⟨?_, fun j hj => ?_⟩
    · have := h2 i (Nat.le_refl _) hi
      rw [getD_of_lt nd0 hi] at this
      simpa using this
    · have := h1 j hj
      rw [getD_of_lt nd0 (by omega)] at this
      simpa using this
  · have : i = l.length := by omega
    rw [this]
    refine List.findIdx_eq_length_of_false fun y hy => ?_
    obtain ⟨j, hj, rfl⟩ := List.mem_iff_getElem.1 hy
    have := h1 j (by omega)
    rw [getD_of_lt nd0 hj] at this
    simpa using this

theorem rising_lt {l : List ND} (h : Rising (l.map ND.key)) {a b : Nat} (hab : a < b) (hb : b < l.length) : lessK (l.getD a nd0).key (l.getD b nd0).key := by
  have := (List.pairwise_iff_getElem.1 h) a b (by simp; omega) (by simp; omega) hab
  simp only [List.getElem_map] at this
  rw [getD_of_lt nd0 (by omega), getD_of_lt nd0 hb]
  exact this

theorem half (i j : Nat) : Int.fdiv ((i : Int) + j) (2 ^ (min 1 64 : Nat)) = (((i + j) / 2 : Nat) : Int) := by
  rw [show ((2 : Int) ^ (min 1 64 : Nat)) = 2 by decide, Int.fdiv_eq_ediv_of_nonneg _ (by omega)]
  omega

theorem ordI_neg {o : Ordering} : ordI o < 0 ↔ o = .lt := by cases o <;> simp [ordI]

theorem mem_of_key {l : List ND} {x : ND} {i : Nat} (hi : i < l.length) (he : (l.getD i nd0).key = x.key) : x ∈ l := by
  have := ND.key_inj he
  rw [← this]
  exact getD_mem nd0 hi

theorem key_of_mem {l : List ND} {x : ND} {i : Nat} (h : Rising (l.map ND.key)) (hx : x ∈ l) (h1 : ∀ q, q < i → lessK (l.getD q nd0).key x.key) (h2 : ∀ q, i ≤ q → q < l.length → ¬ lessK (l.getD q nd0).key x.key) : i < l.length ∧ (l.getD i nd0).key = x.key := by
  obtain ⟨q, hq, rfl⟩ := List.mem_iff_getElem.1 hx
  have e := getD_of_lt nd0 hq
  rw [← e] at h1 h2 ⊢
  have hiq : i ≤ q := Nat.le_of_not_lt fun hlt => lessK_irrefl (h1 q hlt)
  rcases Nat.lt_or_ge i q with hlt | hge
  · exact absurd (rising_lt h hlt hq) (h2 i (Nat.le_refl _) (by omega))
  · have : i = q := by omega
    subst this
    exact ⟨hq, rfl⟩

theorem bsearch_call (l : List ND) (hl : l.length ≤ 1000000) (t : Bool) (x : ND) (h : Rising (l.map ND.key)) :
    MCalls Try.prog 64 [.lst 5 (l.map ND.c) t, .agg x.c, .fn (.func 44) [] []] St.none (fun r _ => r = .tup [.int .i64 (posK l x), .bool (decide (x ∈ l))]) := by
  refine (MCalls.body 49 [.tmp 6, .tmp 7] Try.func64 rfl rfl rfl rfl ?_)
  repeat' (first | ((with_reducible refine wN fun nl hnl => ?_); revert hnl; (repeat with_reducible refine wS fun _ _ => ?_); intro hnl) | (with_reducible first | refine mdraw_plain mixed (by decide +kernel) ?_ | refine wI (fun h => ?_) (fun h => ?_) | refine wF (fun h => ?_) (fun h => ?_) | refine wG (fun h => ?_) (fun h => ?_) | refine wH (fun h => ?_) (fun h => ?_)) | (with_reducible refine mfork_bool (fun h => ?_) (fun h => ?_) <;> simp only [h]) | (with_reducible refine mgfork_bool (fun h => ?_) (fun h => ?_) <;> simp only [h]) | (simp (config := { maxSteps := 4000000 }) (disch := first | decide | assumption | omega | (simp only [wL]; omega)) only [go_sem, Nat.reduceAdd, Nat.reduceSub, Nat.reduceMul, Nat.reduceDiv, Nat.reduceMod, Nat.reduceLT, Nat.reduceLeDiff, Nat.reduceEqDiff, Nat.reduceSucc, Nat.reduceGT, Int.reduceAdd, Int.reduceSub, Int.reduceMul, Int.reduceNeg, Int.reduceLT, Int.reduceLE, Int.reduceEq, Int.reduceToNat, reduceIte, Try.f64]))
  refine mloop_intro (α := Nat × Nat) (fun a => ⟨49, [(9, .int .i64 (a.1 : Int)), (10, .int .i64 (a.2 : Int)), (8, .int .i64 (l.length : Int)), (4, .ptr nl 0 0), (0, .lst 5 (l.map ND.c) t), (2, .fn (.func 44) [] [])], []⟩)
    (fun _ => St.none.set nl (.row 49 5 [x.c])) (fun a => a.1 ≤ a.2 ∧ a.2 ≤ l.length ∧ (∀ q, q < a.1 → lessK (l.getD q nd0).key x.key) ∧ (∀ q, a.2 ≤ q → q < l.length → ¬ lessK (l.getD q nd0).key x.key)) (fun a => a.2 - a.1) (.of (.less ?_ (St.le_refl _)) ⟨(0, l.length), rfl, rfl, by simp; omega⟩) ?_
  · simp (config := { maxSteps := 4000000 }) (disch := first | decide | assumption | omega | (simp only [wL]; omega)) only [go_sem, Nat.reduceAdd, Nat.reduceSub, Nat.reduceMul, Nat.reduceDiv, Nat.reduceMod, Nat.reduceLT, Nat.reduceLeDiff, Nat.reduceEqDiff, Nat.reduceSucc, Nat.reduceGT, Int.reduceAdd, Int.reduceSub, Int.reduceMul, Int.reduceNeg, Int.reduceLT, Int.reduceLE, Int.reduceEq, Int.reduceToNat, reduceIte, weak_int, weak_same]
    first | rfl | omega | simp
  · rintro ⟨i, j⟩ ⟨h1, h2, h3, h4⟩
    simp only at h1 h2 h3 h4 ⊢
    by_cases hij : i < j
    · have hh := half i j
      have hm1 : i ≤ (i + j) / 2 := by omega
      have hm2 : (i + j) / 2 < j := by omega
      obtain ⟨m, hm⟩ : ∃ m, (i + j) / 2 = m := ⟨_, rfl⟩
      rw [hm] at hh hm1 hm2
      have hml : m < l.length := by omega
      have hord := lorder_call (l.getD m nd0) x
      by_cases hless : lessK (l.getD m nd0).key x.key
      · have ho : ordI (cmpL (l.getD m nd0).key x.key) = -1 := by rw [show cmpL (l.getD m nd0).key x.key = .lt from hless]; rfl
        rw [ho] at hord
        repeat' (first | (with_reducible refine mdraw_know mixed (by decide +kernel) (fun g ms => if g = 44 then some ⟨[], fun v => v = .int .i64 (-1), none⟩ else none) ?_) | (with_reducible refine know_pure rfl hord ?_) | ((with_reducible refine wN fun nl hnl => ?_); revert hnl; (repeat with_reducible refine wS fun _ _ => ?_); intro hnl) | (with_reducible first | refine mdraw_plain mixed (by decide +kernel) ?_ | refine wI (fun h => ?_) (fun h => ?_) | refine wF (fun h => ?_) (fun h => ?_) | refine wG (fun h => ?_) (fun h => ?_) | refine wH (fun h => ?_) (fun h => ?_)) | (with_reducible refine mfork_bool (fun h => ?_) (fun h => ?_) <;> simp only [h]) | (with_reducible refine mgfork_bool (fun h => ?_) (fun h => ?_) <;> simp only [h]) | (simp (config := { maxSteps := 4000000 }) (disch := first | decide | assumption | omega | (simp only [wL]; omega)) only [go_sem, Nat.reduceAdd, Nat.reduceSub, Nat.reduceMul, Nat.reduceDiv, Nat.reduceMod, Nat.reduceLT, Nat.reduceLeDiff, Nat.reduceEqDiff, Nat.reduceSucc, Nat.reduceGT, Int.reduceAdd, Int.reduceSub, Int.reduceMul, Int.reduceNeg, Int.reduceLT, Int.reduceLE, Int.reduceEq, Int.reduceToNat, reduceIte, getD_mapd nd0, hh]))
        refine .of (.less (l1 := [(9, .int .i64 ((m + 1 : Nat) : Int)), (10, .int .i64 (j : Int)), (8, .int .i64 (l.length : Int)), (4, .ptr nl 0 0), (0, .lst 5 (l.map ND.c) t), (2, .fn (.func 44) [] [])]) ?_ (St.le_refl _)) ⟨(m + 1, j), rfl, rfl, ⟨by simp only; omega, h2, fun q hq => ?_, h4⟩, by simp only; omega⟩
        · simp (config := { maxSteps := 4000000 }) (disch := first | decide | assumption | omega | (simp only [wL]; omega)) only [go_sem, Nat.reduceAdd, Nat.reduceSub, Nat.reduceMul, Nat.reduceDiv, Nat.reduceMod, Nat.reduceLT, Nat.reduceLeDiff, Nat.reduceEqDiff, Nat.reduceSucc, Nat.reduceGT, Int.reduceAdd, Int.reduceSub, Int.reduceMul, Int.reduceNeg, Int.reduceLT, Int.reduceLE, Int.reduceEq, Int.reduceToNat, reduceIte, weak_int, weak_same]
          omega
        · simp only at hq
          rcases Nat.lt_or_ge q m with hlt | hge
          · exact lessK_trans (rising_lt h hlt hml) hless
          · have : q = m := by omega
            rw [this]; exact hless
      · have ho : ¬ ordI (cmpL (l.getD m nd0).key x.key) < 0 := fun hh => hless (ordI_neg.1 hh)
        repeat' (first | (with_reducible refine mdraw_know mixed (by decide +kernel) (fun g ms => if g = 44 then some ⟨[], fun v => v = .int .i64 (ordI (cmpL (l.getD m nd0).key x.key)), none⟩ else none) ?_) | (with_reducible refine know_pure rfl hord ?_) | ((with_reducible refine wN fun nl hnl => ?_); revert hnl; (repeat with_reducible refine wS fun _ _ => ?_); intro hnl) | (with_reducible first | refine mdraw_plain mixed (by decide +kernel) ?_ | refine wI (fun h => ?_) (fun h => ?_) | refine wF (fun h => ?_) (fun h => ?_) | refine wG (fun h => ?_) (fun h => ?_) | refine wH (fun h => ?_) (fun h => ?_)) | (with_reducible refine mfork_bool (fun h => ?_) (fun h => ?_) <;> simp only [h]) | (with_reducible refine mgfork_bool (fun h => ?_) (fun h => ?_) <;> simp only [h]) | (simp (config := { maxSteps := 4000000 }) (disch := first | decide | assumption | omega | (simp only [wL]; omega)) only [go_sem, Nat.reduceAdd, Nat.reduceSub, Nat.reduceMul, Nat.reduceDiv, Nat.reduceMod, Nat.reduceLT, Nat.reduceLeDiff, Nat.reduceEqDiff, Nat.reduceSucc, Nat.reduceGT, Int.reduceAdd, Int.reduceSub, Int.reduceMul, Int.reduceNeg, Int.reduceLT, Int.reduceLE, Int.reduceEq, Int.reduceToNat, reduceIte, getD_mapd nd0, hh]))
        refine .of (.less (l1 := [(9, .int .i64 (i : Int)), (10, .int .i64 (m : Int)), (8, .int .i64 (l.length : Int)), (4, .ptr nl 0 0), (0, .lst 5 (l.map ND.c) t), (2, .fn (.func 44) [] [])]) ?_ (St.le_refl _)) ⟨(i, m), rfl, rfl, ⟨hm1, by simp only; omega, h3, fun q hq hql => ?_⟩, by simp only; omega⟩
        · simp (config := { maxSteps := 4000000 }) (disch := first | decide | assumption | omega | (simp only [wL]; omega)) only [go_sem, Nat.reduceAdd, Nat.reduceSub, Nat.reduceMul, Nat.reduceDiv, Nat.reduceMod, Nat.reduceLT, Nat.reduceLeDiff, Nat.reduceEqDiff, Nat.reduceSucc, Nat.reduceGT, Int.reduceAdd, Int.reduceSub, Int.reduceMul, Int.reduceNeg, Int.reduceLT, Int.reduceLE, Int.reduceEq, Int.reduceToNat, reduceIte, weak_int, weak_same]
        · simp only at hq
          rcases Nat.lt_or_ge m q with hlt | hge
          · exact fun hl2 => hless (lessK_trans (rising_lt h hlt hql) hl2)
          · have : q = m := by omega
            rw [this]; exact hless
    · have : i = j := by omega
      subst this
      have hp := posK_eq h2 h3 h4
      rw [hp]
      by_cases hil : i < l.length
      · have hord := lorder_call (l.getD i nd0) x
        repeat' (first | (with_reducible refine mdraw_know mixed (by decide +kernel) (fun g ms => if g = 44 then some ⟨[], fun v => v = .int .i64 (ordI (cmpL (l.getD i nd0).key x.key)), none⟩ else none) ?_) | (with_reducible refine know_pure rfl hord ?_) | ((with_reducible refine wN fun nl hnl => ?_); revert hnl; (repeat with_reducible refine wS fun _ _ => ?_); intro hnl) | (with_reducible first | refine mdraw_plain mixed (by decide +kernel) ?_ | refine wI (fun h => ?_) (fun h => ?_) | refine wF (fun h => ?_) (fun h => ?_) | refine wG (fun h => ?_) (fun h => ?_) | refine wH (fun h => ?_) (fun h => ?_)) | (with_reducible refine mfork_bool (fun h => ?_) (fun h => ?_) <;> simp only [h]) | (with_reducible refine mgfork_bool (fun h => ?_) (fun h => ?_) <;> simp only [h]) | (simp (config := { maxSteps := 4000000 }) (disch := first | decide | assumption | omega | (simp only [wL]; omega)) only [go_sem, Nat.reduceAdd, Nat.reduceSub, Nat.reduceMul, Nat.reduceDiv, Nat.reduceMod, Nat.reduceLT, Nat.reduceLeDiff, Nat.reduceEqDiff, Nat.reduceSucc, Nat.reduceGT, Int.reduceAdd, Int.reduceSub, Int.reduceMul, Int.reduceNeg, Int.reduceLT, Int.reduceLE, Int.reduceEq, Int.reduceToNat, reduceIte, getD_mapd nd0]))
        have : (ordI (cmpL (l.getD i nd0).key x.key) = 0) ↔ x ∈ l := by
          rw [ordI_zero, cmpL_eq]
          exact ⟨fun he => mem_of_key hil he, fun hx => (key_of_mem h hx h3 h4).2⟩
        simp only [this]
      · repeat' (first | (with_reducible refine mdraw_know mixed (by decide +kernel) (fun g ms => none) ?_) | ((with_reducible refine wN fun nl hnl => ?_); revert hnl; (repeat with_reducible refine wS fun _ _ => ?_); intro hnl) | (with_reducible first | refine mdraw_plain mixed (by decide +kernel) ?_ | refine wI (fun h => ?_) (fun h => ?_) | refine wF (fun h => ?_) (fun h => ?_) | refine wG (fun h => ?_) (fun h => ?_) | refine wH (fun h => ?_) (fun h => ?_)) | (with_reducible refine mfork_bool (fun h => ?_) (fun h => ?_) <;> simp only [h]) | (with_reducible refine mgfork_bool (fun h => ?_) (fun h => ?_) <;> simp only [h]) | (simp (config := { maxSteps := 4000000 }) (disch := first | decide | assumption | omega | (simp only [wL]; omega)) only [go_sem, Nat.reduceAdd, Nat.reduceSub, Nat.reduceMul, Nat.reduceDiv, Nat.reduceMod, Nat.reduceLT, Nat.reduceLeDiff, Nat.reduceEqDiff, Nat.reduceSucc, Nat.reduceGT, Int.reduceAdd, Int.reduceSub, Int.reduceMul, Int.reduceNeg, Int.reduceLT, Int.reduceLE, Int.reduceEq, Int.reduceToNat, reduceIte, getD_mapd nd0]))
        have : ¬ x ∈ l := fun hx => hil (key_of_mem h hx h3 h4).1
        simp [this]
end Go.Proofs.Ytielcgplbnlgbaa
end

section
/- Contracts of the document's Says: the conditions that the theorem names. -/
set_option linter.unusedVariables false
set_option linter.unusedSimpArgs false
namespace Go.Proofs.Ytielcgplbnlgbaa

theorem hasB_bit {s i : Nat} (h : i ≤ 31) : hasB s (i : Int) = s.testBit i := by
  rw [hasB, Nat.testBit_eq_decide_div_mod_eq, Int.toNat_natCast]
  exact decide_eq_decide.mpr ⟨fun h => h.2.2, fun h => ⟨by omega, by omega, h⟩⟩

theorem asg_at {l : List ND} (h : Rising (l.map ND.key)) {i : Nat} (hi : i < l.length) (on : Nat) : asg l on (l.getD i nd0) = on.testBit i := by
  have hp : posK l (l.getD i nd0) = i := posK_eq (Nat.le_of_lt hi) (fun q hq => rising_lt h hq hi) (fun q hq hl => by
    rcases Nat.lt_or_ge i q with h1 | h1
    · exact lessK_asymm (rising_lt h h1 hl)
    · rw [show q = i by omega]; exact lessK_irrefl)
  rw [asg, hp, decide_eq_true (getD_mem nd0 hi), Bool.true_and]

theorem not_mem_of {l : List ND} {x : ND} (h : ∀ q, q < l.length → l.getD q nd0 ≠ x) : ¬ x ∈ l := fun hx => by
  obtain ⟨q, hq, e⟩ := List.mem_iff_getElem.1 hx
  exact h q hq (by rw [getD_of_lt nd0 hq]; exact e)

set_option maxHeartbeats 8000000 in
theorem rsays_call (al : List ND) (la : al.length ≤ 32) (hr : Rising (al.map ND.key)) (ta : Bool) (on : Nat) (hon : on < 4294967296) : ∀ (t : T), t.ok → t.fl.length ≤ 1000 → ∀ (tt : Bool),
    MCalls Try.prog 25 [.lst 5 (t.fl.map ND.c) tt, .lst 5 (al.map ND.c) ta, .int .u32 (on : Int)] St.none (fun r _ => r = .bool (t.sem (asg al on)))
  | .leaf x, h, hl, tt => by
    refine (MCalls.body 81 [.tmp 6] Try.func25 rfl rfl rfl rfl ?_)
    have hk := rkids_call (.leaf x) h hl tt
    have hp : x.op ≠ 10 ∧ x.op ≠ 11 ∧ x.op ≠ 12 := by
      refine ⟨fun e => ?_, fun e => ?_, fun e => ?_⟩ <;> (simp only [T.ok, e] at h; revert h; decide)
    obtain ⟨p1, p2, p3⟩ := hp
    simp only [T.fl, T.kl, T.kids, List.map_cons, List.map_nil] at hk ⊢
    by_cases h1 : x.op = 1
    · repeat' (first | (with_reducible refine use_pure hk ?_) | ((with_reducible refine wT ?_); (with_reducible refine wN fun _ hnl => ?_); revert hnl; (repeat with_reducible refine wS fun _ _ => ?_); intro hnl) | (with_reducible first | refine mdraw_plain mixed (by decide +kernel) ?_ | refine wI (fun h => ?_) (fun h => ?_) | refine wF (fun h => ?_) (fun h => ?_) | refine wG (fun h => ?_) (fun h => ?_) | refine wH (fun h => ?_) (fun h => ?_)) | (with_reducible refine mfork_bool (fun h => ?_) (fun h => ?_) <;> simp only [h]) | (with_reducible refine mgfork_bool (fun h => ?_) (fun h => ?_) <;> simp only [h]) | (simp (config := { maxSteps := 4000000 }) (disch := first | decide | assumption | omega | (simp only [wL]; omega)) only [go_sem, Nat.reduceAdd, Nat.reduceSub, Nat.reduceMul, Nat.reduceDiv, Nat.reduceMod, Nat.reduceLT, Nat.reduceLeDiff, Nat.reduceEqDiff, Nat.reduceSucc, Nat.reduceGT, Int.reduceAdd, Int.reduceSub, Int.reduceMul, Int.reduceNeg, Int.reduceLT, Int.reduceLE, Int.reduceEq, Int.reduceToNat, reduceIte, Try.f25]))
      simp [T.sem, h1]
    · by_cases h2 : x.op = 2
      · repeat' (first | (with_reducible refine use_pure hk ?_) | ((with_reducible refine wT ?_); (with_reducible refine wN fun _ hnl => ?_); revert hnl; (repeat with_reducible refine wS fun _ _ => ?_); intro hnl) | (with_reducible first | refine mdraw_plain mixed (by decide +kernel) ?_ | refine wI (fun h => ?_) (fun h => ?_) | refine wF (fun h => ?_) (fun h => ?_) | refine wG (fun h => ?_) (fun h => ?_) | refine wH (fun h => ?_) (fun h => ?_)) | (with_reducible refine mfork_bool (fun h => ?_) (fun h => ?_) <;> simp only [h]) | (with_reducible refine mgfork_bool (fun h => ?_) (fun h => ?_) <;> simp only [h]) | (simp (config := { maxSteps := 4000000 }) (disch := first | decide | assumption | omega | (simp only [wL]; omega)) only [go_sem, Nat.reduceAdd, Nat.reduceSub, Nat.reduceMul, Nat.reduceDiv, Nat.reduceMod, Nat.reduceLT, Nat.reduceLeDiff, Nat.reduceEqDiff, Nat.reduceSucc, Nat.reduceGT, Int.reduceAdd, Int.reduceSub, Int.reduceMul, Int.reduceNeg, Int.reduceLT, Int.reduceLE, Int.reduceEq, Int.reduceToNat, reduceIte, Try.f25]))
        simp [T.sem, h1, h2]
      · have e : (T.leaf x).sem (asg al on) = asg al on x := by simp [T.sem, h1, h2]
        rw [e]
        repeat' (first | (with_reducible refine use_pure hk ?_) | ((with_reducible refine wT ?_); (with_reducible refine wN fun _ hnl => ?_); revert hnl; (repeat with_reducible refine wS fun _ _ => ?_); intro hnl) | (with_reducible first | refine mdraw_plain mixed (by decide +kernel) ?_ | refine wI (fun h => ?_) (fun h => ?_) | refine wF (fun h => ?_) (fun h => ?_) | refine wG (fun h => ?_) (fun h => ?_) | refine wH (fun h => ?_) (fun h => ?_)) | (with_reducible refine mfork_bool (fun h => ?_) (fun h => ?_) <;> simp only [h]) | (with_reducible refine mgfork_bool (fun h => ?_) (fun h => ?_) <;> simp only [h]) | (simp (config := { maxSteps := 4000000 }) (disch := first | decide | assumption | omega | (simp only [wL]; omega)) only [go_sem, Nat.reduceAdd, Nat.reduceSub, Nat.reduceMul, Nat.reduceDiv, Nat.reduceMod, Nat.reduceLT, Nat.reduceLeDiff, Nat.reduceEqDiff, Nat.reduceSucc, Nat.reduceGT, Int.reduceAdd, Int.reduceSub, Int.reduceMul, Int.reduceNeg, Int.reduceLT, Int.reduceLE, Int.reduceEq, Int.reduceToNat, reduceIte, Try.f25]))
        refine mloop_intro (α := Nat) (fun i => ⟨81, [(8, .int .i64 (i : Int)), (0, .lst 5 [x.c] tt), (1, .lst 5 (al.map ND.c) ta), (2, .int .u32 (on : Int))], []⟩)
          (fun _ => St.none) (fun i => i ≤ al.length ∧ ∀ q, q < i → al.getD q nd0 ≠ x) (fun i => al.length - i) (.of (.less ?_ (St.le_refl _)) ⟨0, rfl, rfl, Nat.zero_le _, fun q hq => absurd hq (Nat.not_lt_zero _)⟩) ?_
        · simp (config := { maxSteps := 4000000 }) (disch := first | decide | assumption | omega | (simp only [wL]; omega)) only [go_sem, Nat.reduceAdd, Nat.reduceSub, Nat.reduceMul, Nat.reduceDiv, Nat.reduceMod, Nat.reduceLT, Nat.reduceLeDiff, Nat.reduceEqDiff, Nat.reduceSucc, Nat.reduceGT, Int.reduceAdd, Int.reduceSub, Int.reduceMul, Int.reduceNeg, Int.reduceLT, Int.reduceLE, Int.reduceEq, Int.reduceToNat, reduceIte, weak_int, weak_same]
          rfl
        · rintro i ⟨hi, hq⟩
          by_cases hlt : i < al.length
          · have hhas := rhas_call on (i : Int) hon
            rw [hasB_bit (by omega)] at hhas
            repeat' (first | (with_reducible refine use_pure hhas ?_) | ((with_reducible refine wT ?_); (with_reducible refine wN fun _ hnl => ?_); revert hnl; (repeat with_reducible refine wS fun _ _ => ?_); intro hnl) | (with_reducible first | refine mdraw_plain mixed (by decide +kernel) ?_ | refine wI (fun h => ?_) (fun h => ?_) | refine wF (fun h => ?_) (fun h => ?_) | refine wG (fun h => ?_) (fun h => ?_) | refine wH (fun h => ?_) (fun h => ?_)) | (with_reducible refine mfork_bool (fun h => ?_) (fun h => ?_) <;> simp only [h]) | (with_reducible refine mgfork_bool (fun h => ?_) (fun h => ?_) <;> simp only [h]) | (simp (config := { maxSteps := 4000000 }) (disch := first | decide | assumption | omega | (simp only [wL]; omega)) only [go_sem, Nat.reduceAdd, Nat.reduceSub, Nat.reduceMul, Nat.reduceDiv, Nat.reduceMod, Nat.reduceLT, Nat.reduceLeDiff, Nat.reduceEqDiff, Nat.reduceSucc, Nat.reduceGT, Int.reduceAdd, Int.reduceSub, Int.reduceMul, Int.reduceNeg, Int.reduceLT, Int.reduceLE, Int.reduceEq, Int.reduceToNat, reduceIte, getD_mapd nd0]))
            · have := nd_ext h
              rw [← this, asg_at hr hlt]
            · refine .of (.less ?_ (St.le_refl _)) ⟨i + 1, rfl, rfl, ⟨by omega, fun q hq' => ?_⟩, by omega⟩
              · simp (config := { maxSteps := 4000000 }) (disch := first | decide | assumption | omega | (simp only [wL]; omega)) only [go_sem, Nat.reduceAdd, Nat.reduceSub, Nat.reduceMul, Nat.reduceDiv, Nat.reduceMod, Nat.reduceLT, Nat.reduceLeDiff, Nat.reduceEqDiff, Nat.reduceSucc, Nat.reduceGT, Int.reduceAdd, Int.reduceSub, Int.reduceMul, Int.reduceNeg, Int.reduceLT, Int.reduceLE, Int.reduceEq, Int.reduceToNat, reduceIte, weak_int, weak_same]
                rfl
              · rcases Nat.lt_or_ge q i with h3 | h3
                · exact hq q h3
                · rw [show q = i by omega]
                  intro e
                  exact h (by rw [e]; exact ⟨rfl, rfl, rfl, rfl, rfl⟩)
          · have hie : i = al.length := by omega
            subst hie
            repeat' (first | ((with_reducible refine wT ?_); (with_reducible refine wN fun _ hnl => ?_); revert hnl; (repeat with_reducible refine wS fun _ _ => ?_); intro hnl) | (with_reducible first | refine mdraw_plain mixed (by decide +kernel) ?_ | refine wI (fun h => ?_) (fun h => ?_) | refine wF (fun h => ?_) (fun h => ?_) | refine wG (fun h => ?_) (fun h => ?_) | refine wH (fun h => ?_) (fun h => ?_)) | (with_reducible refine mfork_bool (fun h => ?_) (fun h => ?_) <;> simp only [h]) | (with_reducible refine mgfork_bool (fun h => ?_) (fun h => ?_) <;> simp only [h]) | (simp (config := { maxSteps := 4000000 }) (disch := first | decide | assumption | omega | (simp only [wL]; omega)) only [go_sem, Nat.reduceAdd, Nat.reduceSub, Nat.reduceMul, Nat.reduceDiv, Nat.reduceMod, Nat.reduceLT, Nat.reduceLeDiff, Nat.reduceEqDiff, Nat.reduceSucc, Nat.reduceGT, Int.reduceAdd, Int.reduceSub, Int.reduceMul, Int.reduceNeg, Int.reduceLT, Int.reduceLE, Int.reduceEq, Int.reduceToNat, reduceIte, getD_mapd nd0]))
            rw [asg, decide_eq_false (not_mem_of hq), Bool.false_and]
  | .one x a, h, hl, tt => by
    refine (MCalls.body 81 [.tmp 6] Try.func25 rfl rfl rfl rfl ?_)
    have hk := rkids_call (.one x a) h hl tt
    have h1 := parts_one h.1
    have hla : a.fl.length ≤ 1000 := by simp only [T.fl, List.length_cons] at hl; omega
    have ih := rsays_call al la hr ta on hon a h.2 hla false
    simp only [T.fl, T.kl, T.kids, List.map_cons, List.map_nil] at hk ⊢
    repeat' (first | (with_reducible refine use_pure hk ?_) | (with_reducible refine use_pure ih ?_) | ((with_reducible refine wT ?_); (with_reducible refine wN fun _ hnl => ?_); revert hnl; (repeat with_reducible refine wS fun _ _ => ?_); intro hnl) | (with_reducible first | refine mdraw_plain mixed (by decide +kernel) ?_ | refine wI (fun h => ?_) (fun h => ?_) | refine wF (fun h => ?_) (fun h => ?_) | refine wG (fun h => ?_) (fun h => ?_) | refine wH (fun h => ?_) (fun h => ?_)) | (with_reducible refine mfork_bool (fun h => ?_) (fun h => ?_) <;> simp only [h]) | (with_reducible refine mgfork_bool (fun h => ?_) (fun h => ?_) <;> simp only [h]) | (simp (config := { maxSteps := 4000000 }) (disch := first | decide | assumption | omega | (simp only [wL]; omega)) only [go_sem, Nat.reduceAdd, Nat.reduceSub, Nat.reduceMul, Nat.reduceDiv, Nat.reduceMod, Nat.reduceLT, Nat.reduceLeDiff, Nat.reduceEqDiff, Nat.reduceSucc, Nat.reduceGT, Int.reduceAdd, Int.reduceSub, Int.reduceMul, Int.reduceNeg, Int.reduceLT, Int.reduceLE, Int.reduceEq, Int.reduceToNat, reduceIte, Try.f25, h1]))
    simp [T.sem]
  | .two x a b, h, hl, tt => by
    refine (MCalls.body 81 [.tmp 6] Try.func25 rfl rfl rfl rfl ?_)
    have hk := rkids_call (.two x a b) h hl tt
    have hla : a.fl.length ≤ 1000 ∧ b.fl.length ≤ 1000 := by simp only [T.fl, List.length_cons, List.length_append] at hl; omega
    have iha := rsays_call al la hr ta on hon a h.2.1 hla.1 false
    have ihb := rsays_call al la hr ta on hon b h.2.2 hla.2 false
    simp only [T.fl, T.kl, T.kids, List.map_cons, List.map_nil] at hk ⊢
    rcases parts_two h.1 with h1 | h1
    · repeat' (first | (with_reducible refine use_pure hk ?_) | (with_reducible refine use_pure iha ?_) | (with_reducible refine use_pure ihb ?_) | ((with_reducible refine wT ?_); (with_reducible refine wN fun _ hnl => ?_); revert hnl; (repeat with_reducible refine wS fun _ _ => ?_); intro hnl) | (with_reducible first | refine mdraw_plain mixed (by decide +kernel) ?_ | refine wI (fun h => ?_) (fun h => ?_) | refine wF (fun h => ?_) (fun h => ?_) | refine wG (fun h => ?_) (fun h => ?_) | refine wH (fun h => ?_) (fun h => ?_)) | (with_reducible refine mfork_bool (fun h => ?_) (fun h => ?_) <;> simp only [h]) | (with_reducible refine mgfork_bool (fun h => ?_) (fun h => ?_) <;> simp only [h]) | (simp (config := { maxSteps := 4000000 }) (disch := first | decide | assumption | omega | (simp only [wL]; omega)) only [go_sem, Nat.reduceAdd, Nat.reduceSub, Nat.reduceMul, Nat.reduceDiv, Nat.reduceMod, Nat.reduceLT, Nat.reduceLeDiff, Nat.reduceEqDiff, Nat.reduceSucc, Nat.reduceGT, Int.reduceAdd, Int.reduceSub, Int.reduceMul, Int.reduceNeg, Int.reduceLT, Int.reduceLE, Int.reduceEq, Int.reduceToNat, reduceIte, Try.f25, h1]))
      all_goals simp [T.sem, *]
    · repeat' (first | (with_reducible refine use_pure hk ?_) | (with_reducible refine use_pure iha ?_) | (with_reducible refine use_pure ihb ?_) | ((with_reducible refine wT ?_); (with_reducible refine wN fun _ hnl => ?_); revert hnl; (repeat with_reducible refine wS fun _ _ => ?_); intro hnl) | (with_reducible first | refine mdraw_plain mixed (by decide +kernel) ?_ | refine wI (fun h => ?_) (fun h => ?_) | refine wF (fun h => ?_) (fun h => ?_) | refine wG (fun h => ?_) (fun h => ?_) | refine wH (fun h => ?_) (fun h => ?_)) | (with_reducible refine mfork_bool (fun h => ?_) (fun h => ?_) <;> simp only [h]) | (with_reducible refine mgfork_bool (fun h => ?_) (fun h => ?_) <;> simp only [h]) | (simp (config := { maxSteps := 4000000 }) (disch := first | decide | assumption | omega | (simp only [wL]; omega)) only [go_sem, Nat.reduceAdd, Nat.reduceSub, Nat.reduceMul, Nat.reduceDiv, Nat.reduceMod, Nat.reduceLT, Nat.reduceLeDiff, Nat.reduceEqDiff, Nat.reduceSucc, Nat.reduceGT, Int.reduceAdd, Int.reduceSub, Int.reduceMul, Int.reduceNeg, Int.reduceLT, Int.reduceLE, Int.reduceEq, Int.reduceToNat, reduceIte, Try.f25, h1]))
      all_goals simp [T.sem, *]
end Go.Proofs.Ytielcgplbnlgbaa
end

section
/- The form of a form is it; the order of parts does not matter. No program in sight. -/
set_option linter.unusedVariables false
set_option linter.unusedSimpArgs false
namespace Go.Proofs.Ytielcgplbnlgbaa

theorem agst_sub {l m : List T} (h : ∀ x, x ∈ l → x ∈ m) (k : agst l = true) : agst m = true := by
  simp only [agst, List.any_eq_true, decide_eq_true_eq] at k ⊢
  obtain ⟨a, ha, b, hb, e⟩ := k
  exact ⟨a, h a ha, b, h b hb, e⟩

theorem normL_ext2 {op : Int} {p p' : List T} (ho : ∀ y, y ∈ p → y.ok) (ho' : ∀ y, y ∈ p' → y.ok) (h1 : p.any (fun t => decide (t.root.op = zeroOf op)) = p'.any (fun t => decide (t.root.op = zeroOf op)))
    (h2 : ∀ z, z ∈ p.filter (fun t => decide (t.root.op ≠ unitOf op)) ↔ z ∈ p'.filter (fun t => decide (t.root.op ≠ unitOf op))) : normL op p = normL op p' := by
  have f1 : ∀ y, y ∈ p.filter (fun t => decide (t.root.op ≠ unitOf op)) → y.ok := fun y hy => ho y (List.mem_filter.1 hy).1
  have f2 : ∀ y, y ∈ p'.filter (fun t => decide (t.root.op ≠ unitOf op)) → y.ok := fun y hy => ho' y (List.mem_filter.1 hy).1
  have : sortT (p.filter fun t => decide (t.root.op ≠ unitOf op)) = sortT (p'.filter fun t => decide (t.root.op ≠ unitOf op)) :=
    risF_unique (sortT_rising f1) (sortT_rising f2) fun z => by rw [mem_sortT f1, mem_sortT f2]; exact h2 z
  unfold normL
  rw [h1, this]

theorem normL_ext {op : Int} {p p' : List T} (ho : ∀ y, y ∈ p → y.ok) (h : ∀ z, z ∈ p ↔ z ∈ p') : normL op p = normL op p' := by
  refine normL_ext2 ho (fun y hy => ho y ((h y).2 hy)) ?_ fun z => by rw [List.mem_filter, List.mem_filter, h]
  rw [Bool.eq_iff_iff, List.any_eq_true, List.any_eq_true]
  exact ⟨fun ⟨x, hx, e⟩ => ⟨x, (h x).1 hx, e⟩, fun ⟨x, hx, e⟩ => ⟨x, (h x).2 hx, e⟩⟩

theorem zero_unit (op : Int) : zeroOf op ≠ unitOf op ∧ (zeroOf op = 1 ∨ zeroOf op = 2) ∧ (unitOf op = 1 ∨ unitOf op = 2) := by
  unfold zeroOf unitOf
  split <;> simp

theorem normL_id {op : Int} {l : List T} (hr : RisF l) (ho : ∀ y, y ∈ l → y.ok) (hn : ∀ y, y ∈ l → y.root.op ≠ 1 ∧ y.root.op ≠ 2) (ha : agst l = false) : normL op l = foldO op l := by
  obtain ⟨z1, z2, z3⟩ := zero_unit op
  have e1 : l.any (fun t => decide (t.root.op = zeroOf op)) = false := by
    rw [List.any_eq_false]
    intro y hy
    have := hn y hy
    rw [decide_eq_true_eq]
    rcases z2 with e | e <;> rw [e] <;> omega
  have e2 : l.filter (fun t => decide (t.root.op ≠ unitOf op)) = l := by
    rw [List.filter_eq_self]
    intro y hy
    have := hn y hy
    rw [decide_eq_true_eq]
    rcases z3 with e | e <;> rw [e] <;> omega
  have e3 : sortT l = l := risF_unique (sortT_rising ho) hr fun z => mem_sortT ho
  unfold normL
  rw [e1, e2, e3, ha, if_neg (by simp), if_neg (by simp)]

inductive NF : T → Prop where
  | cst (op : Int) (h : op = 1 ∨ op = 2) : NF (.leaf (nd op))
  | atom (x : ND) (h0 : parts x.op = 0) (h1 : ¬ (x.op = 1 ∨ x.op = 2)) : NF (.leaf x)
  | nota (x : ND) (h0 : parts x.op = 0) (h1 : ¬ (x.op = 1 ∨ x.op = 2)) : NF (.one (nd 10) (.leaf x))
  | join (op : Int) (hop : op = 11 ∨ op = 12) (l : List T) (h2 : 2 ≤ l.length) (hr : RisF l) (hy : ∀ y, y ∈ l → NF y) (ho : ∀ y, y ∈ l → y.ok) (hi : ∀ y, y ∈ l → Irr op y)
      (hn : ∀ y, y ∈ l → y.root.op ≠ 1 ∧ y.root.op ≠ 2) (ha : agst l = false) : NF (foldO op l)

theorem NF.pcs {t : T} (h : NF t) {op : Int} (hop : op = 11 ∨ op = 12) : ∀ y, y ∈ pcs op t → NF y := by
  cases h with
  | cst o h => intro y hy; rw [Proofs.Ytielcgplbnlgbaa.pcs, List.mem_singleton] at hy; subst hy; exact .cst o h
  | atom x h0 h1 => intro y hy; rw [Proofs.Ytielcgplbnlgbaa.pcs, List.mem_singleton] at hy; subst hy; exact .atom x h0 h1
  | nota x h0 h1 => intro y hy; rw [Proofs.Ytielcgplbnlgbaa.pcs, List.mem_singleton] at hy; subst hy; exact .nota x h0 h1
  | join o ho' l h2 hr hy ho hi hn ha =>
    intro y hm
    by_cases e : o = op
    · subst e
      rw [pcs_foldO (by intro e; rw [e] at h2; simp at h2) hi] at hm
      exact hy y hm
    · have : Proofs.Ytielcgplbnlgbaa.pcs op (foldO o l) = [foldO o l] := by
        match l, h2 with
        | a :: b :: r, _ => rw [foldO, Proofs.Ytielcgplbnlgbaa.pcs, if_neg (by exact e)]
      rw [this, List.mem_singleton] at hm
      subst hm
      exact .join o ho' l h2 hr hy ho hi hn ha

theorem NF_normL {op : Int} (hop : op = 11 ∨ op = 12) {p : List T} (hp : ∀ y, y ∈ p → NF y) (ho : ∀ y, y ∈ p → y.ok) (hi : ∀ y, y ∈ p → Irr op y) : NF (normL op p) := by
  obtain ⟨z1, z2, z3⟩ := zero_unit op
  unfold normL
  split
  · exact .cst _ z2
  · rename_i hz
    split
    · exact .cst _ z2
    · rename_i hag
      have f1 : ∀ y, y ∈ p.filter (fun t => decide (t.root.op ≠ unitOf op)) → y.ok := fun y hy => ho y (List.mem_filter.1 hy).1
      have hm : ∀ y, y ∈ sortT (p.filter fun t => decide (t.root.op ≠ unitOf op)) → y ∈ p ∧ y.root.op ≠ unitOf op := fun y hy => by
        have := List.mem_filter.1 ((mem_sortT f1).1 hy)
        exact ⟨this.1, by simpa using this.2⟩
      have hr := sortT_rising f1
      generalize sortT (p.filter fun t => decide (t.root.op ≠ unitOf op)) = l at *
      match l, hm, hr, hag with
      | [], _, _, _ => rw [foldO]; exact .cst _ z3
      | [x], hm, _, _ => exact hp x (hm x (List.mem_cons_self ..)).1
      | x :: y :: r, hm, hr, hag =>
        refine .join op hop _ (by simp) hr (fun z hz' => hp z (hm z hz').1) (fun z hz' => ho z (hm z hz').1) (fun z hz' => hi z (hm z hz').1) (fun z hz' => ?_) (by simpa using hag)
        have h1 := (hm z hz').2
        have h2 : z.root.op ≠ zeroOf op := fun e => hz (List.any_eq_true.2 ⟨z, (hm z hz').1, by simpa using e⟩)
        unfold unitOf at h1
        unfold zeroOf at h2
        split at h1
        · rename_i h; rw [if_pos h] at h2; omega
        · rename_i h; rw [if_neg h] at h2; omega

theorem NF_form : ∀ {t : T} (tn : Bool), t.ok → Good t → NF (formT t tn)
  | .leaf x, tn, h, g => by
    rw [formT]
    split
    · rename_i hop
      refine .cst _ ?_
      split <;> omega
    · rename_i hop
      split
      · exact .nota x h hop
      · exact .atom x h hop
  | .one x a, tn, h, g => NF_form (!tn) h.2 (good_one.1 g).2.2
  | .two x a b, tn, h, g => by
    obtain ⟨h1, h2, h3, h4⟩ := good_two.1 g
    have hop := op_turn (parts_two h1) tn
    rw [formT, joinT]
    have ga := good_form tn h3
    have gb := good_form tn h4
    exact NF_normL hop (fun y hy => (List.mem_append.1 hy).elim ((NF_form tn h.2.1 h3).pcs hop y) ((NF_form tn h.2.2 h4).pcs hop y))
      (fun y hy => (List.mem_append.1 hy).elim (pcs_ok ga.1 y) (pcs_ok gb.1 y)) (fun y hy => (List.mem_append.1 hy).elim (pcs_irr y) (pcs_irr y))

theorem form_foldO {op : Int} (hop : op = 11 ∨ op = 12) : ∀ {l : List T}, l ≠ [] → RisF l → (∀ y, y ∈ l → y.ok) → (∀ y, y ∈ l → formT y false = y) → (∀ y, y ∈ l → Irr op y) →
    (∀ y, y ∈ l → y.root.op ≠ 1 ∧ y.root.op ≠ 2) → agst l = false → formT (foldO op l) false = foldO op l
  | [], h, _, _, _, _, _, _ => absurd rfl h
  | [x], _, _, _, hf, _, _, _ => hf x (List.mem_cons_self ..)
  | x :: y :: r, _, hr, ho, hf, hi, hn, ha => by
    have hr2 := (List.pairwise_cons.1 hr).2
    have ha2 : agst (y :: r) = false := by
      rw [← Bool.not_eq_true]
      intro k
      rw [agst_sub (fun z hz => List.mem_cons_of_mem _ hz) k] at ha
      cases ha
    have ih := form_foldO hop (l := y :: r) (by simp) hr2 (fun z hz => ho z (List.mem_cons_of_mem _ hz)) (fun z hz => hf z (List.mem_cons_of_mem _ hz)) (fun z hz => hi z (List.mem_cons_of_mem _ hz)) (fun z hz => hn z (List.mem_cons_of_mem _ hz)) ha2
    rw [foldO, formT, ih, hf x (List.mem_cons_self ..)]
    simp only [Bool.false_eq_true, if_false]
    show joinT op x (foldO op (y :: r)) = _
    rw [joinT, hi x (List.mem_cons_self ..), pcs_foldO (by simp) fun z hz => hi z (List.mem_cons_of_mem _ hz)]
    exact normL_id hr ho hn ha

theorem form_NF {t : T} (h : NF t) : formT t false = t := by
  induction h with
  | cst op h => rw [formT, if_pos (by exact h)]; rfl
  | atom x h0 h1 => rw [formT, if_neg h1]; rfl
  | nota x h0 h1 => rw [formT, formT, if_neg h1]; rfl
  | join op hop l h2 hr hy ho hi hn ha ih => exact form_foldO hop (by intro e; rw [e] at h2; simp at h2) hr ho ih hi hn ha

theorem form_form {t : T} (g : Good t) : formT (formT t false) false = formT t false := form_NF (NF_form false g.1 g)

/-! ### The order of parts -/
theorem normL_in {op : Int} {p q : List T} (hp : ∀ y, y ∈ p → y.ok) (hq : ∀ y, y ∈ q → y.ok) (hi : ∀ y, y ∈ p → Irr op y) : normL op (q ++ pcs op (normL op p)) = normL op (q ++ p) := by
  obtain ⟨z1, z2, z3⟩ := zero_unit op
  have hqp : ∀ y, y ∈ q ++ p → y.ok := fun y hy => (List.mem_append.1 hy).elim (hq y) (hp y)
  have lz : ∀ (r : List T), normL op (q ++ pcs op (.leaf (nd (zeroOf op)))) = .leaf (nd (zeroOf op)) := fun r => by
    unfold normL
    rw [if_pos (List.any_eq_true.2 ⟨.leaf (nd (zeroOf op)), by simp [pcs], by simp [T.root, nd]⟩)]
  have f1 : ∀ y, y ∈ p.filter (fun t => decide (t.root.op ≠ unitOf op)) → y.ok := fun y hy => hp y (List.mem_filter.1 hy).1
  have f2 : ∀ y, y ∈ (q ++ p).filter (fun t => decide (t.root.op ≠ unitOf op)) → y.ok := fun y hy => hqp y (List.mem_filter.1 hy).1
  by_cases hz : p.any (fun t => decide (t.root.op = zeroOf op)) = true
  · have e1 : normL op p = .leaf (nd (zeroOf op)) := by unfold normL; rw [if_pos hz]
    have e2 : normL op (q ++ p) = .leaf (nd (zeroOf op)) := by unfold normL; rw [if_pos (by rw [List.any_append, hz, Bool.or_true])]
    rw [e1, e2, lz p]
  · by_cases ha : agst (sortT (p.filter fun t => decide (t.root.op ≠ unitOf op))) = true
    · have e1 : normL op p = .leaf (nd (zeroOf op)) := by unfold normL; rw [if_neg hz, if_pos ha]
      have e2 : normL op (q ++ p) = .leaf (nd (zeroOf op)) := by
        unfold normL
        split
        · rfl
        · rw [if_pos (agst_sub (fun x hx => ?_) ha)]
          have := List.mem_filter.1 ((mem_sortT f1).1 hx)
          exact (mem_sortT f2).2 (List.mem_filter.2 ⟨List.mem_append.2 (.inr this.1), this.2⟩)
      rw [e1, e2, lz p]
    · have e1 : normL op p = foldO op (sortT (p.filter fun t => decide (t.root.op ≠ unitOf op))) := by unfold normL; rw [if_neg hz, if_neg ha]
      have hz' : p.any (fun t => decide (t.root.op = zeroOf op)) = false := by simpa using hz
      have hm : ∀ y, y ∈ sortT (p.filter fun t => decide (t.root.op ≠ unitOf op)) ↔ y ∈ p.filter (fun t => decide (t.root.op ≠ unitOf op)) := fun y => mem_sortT f1
      rw [e1]
      generalize sortT (p.filter fun t => decide (t.root.op ≠ unitOf op)) = l at *
      by_cases hl : l = []
      · subst hl
        have hpe : ∀ y, ¬ y ∈ p.filter (fun t => decide (t.root.op ≠ unitOf op)) := fun y hy => by have := (hm y).2 hy; cases this
        have hu : pcs op (foldO op []) = [.leaf (nd (unitOf op))] := rfl
        rw [hu]
        refine normL_ext2 (fun y hy => (List.mem_append.1 hy).elim (hq y) fun hy => ?_) hqp ?_ fun z => ?_
        · rw [List.mem_singleton] at hy; subst hy; exact (good_nd z3).1
        · rw [List.any_append, List.any_append, hz']
          simp [T.root, nd, Ne.symm z1]
        · rw [List.filter_append, List.filter_append, List.mem_append, List.mem_append]
          constructor
          · rintro (h | h)
            · exact .inl h
            · simp [T.root, nd] at h
          · rintro (h | h)
            · exact .inl h
            · exact absurd h (hpe z)
      · have hin : ∀ y, y ∈ l → y ∈ p ∧ y.root.op ≠ unitOf op := fun y hy => by
          have := List.mem_filter.1 ((hm y).1 hy)
          exact ⟨this.1, by simpa using this.2⟩
        rw [pcs_foldO hl fun y hy => hi y (hin y hy).1]
        refine normL_ext2 (fun y hy => (List.mem_append.1 hy).elim (hq y) fun hy => hp y (hin y hy).1) hqp ?_ fun z => ?_
        · rw [List.any_append, List.any_append, hz']
          have : l.any (fun t => decide (t.root.op = zeroOf op)) = false := by
            rw [List.any_eq_false] at hz' ⊢
            exact fun y hy => hz' y (hin y hy).1
          rw [this]
        · rw [List.filter_append, List.filter_append, List.mem_append, List.mem_append, ← hm]
          constructor
          · rintro (h | h)
            · exact .inl h
            · exact .inr (List.mem_filter.1 h).1
          · rintro (h | h)
            · exact .inl h
            · exact .inr (List.mem_filter.2 ⟨h, by simpa using (hin z h).2⟩)

theorem form_swap {op : Int} (hop : op = 11 ∨ op = 12) {a b : T} (ga : Good a) (gb : Good b) : formT (.two (nd op) a b) false = formT (.two (nd op) b a) false := by
  have ha := (good_form false ga).1
  have hb := (good_form false gb).1
  simp only [formT, joinT, Bool.false_eq_true, if_false]
  exact normL_ext (fun y hy => (List.mem_append.1 hy).elim (pcs_ok ha y) (pcs_ok hb y)) fun z => by rw [List.mem_append, List.mem_append, Or.comm]

theorem form_twice {op : Int} (hop : op = 11 ∨ op = 12) {a b : T} (ga : Good a) (gb : Good b) : formT (.two (nd op) a (.two (nd op) b a)) false = formT (.two (nd op) a b) false := by
  have ha := (good_form false ga).1
  have hb := (good_form false gb).1
  simp only [formT, joinT, Bool.false_eq_true, if_false]
  show normL op (pcs op (formT a false) ++ pcs op (normL op (pcs op (formT b false) ++ pcs op (formT a false)))) = normL op (pcs op (formT a false) ++ pcs op (formT b false))
  rw [normL_in (fun y hy => (List.mem_append.1 hy).elim (pcs_ok hb y) (pcs_ok ha y)) (pcs_ok ha) (fun y hy => (List.mem_append.1 hy).elim (pcs_irr y) (pcs_irr y))]
  refine normL_ext (fun y hy => (List.mem_append.1 hy).elim (pcs_ok ha y) fun hy => (List.mem_append.1 hy).elim (pcs_ok hb y) (pcs_ok ha y)) fun z => ?_
  simp only [List.mem_append]
  constructor
  · rintro (h | h | h)
    · exact .inl h
    · exact .inr h
    · exact .inl h
  · rintro (h | h)
    · exact .inl h
    · exact .inr (.inl h)
end Go.Proofs.Ytielcgplbnlgbaa
end

section
/- Forms of filters: how long they are. No program in sight. -/
set_option linter.unusedVariables false
set_option linter.unusedSimpArgs false
namespace Go.Proofs.Ytielcgplbnlgbaa

/-- How long parts are together, with one for each. -/
def wgt (l : List T) : Nat := (l.map fun t => t.fl.length + 1).sum
theorem wgt_nil : wgt [] = 0 := rfl
theorem wgt_cons (t : T) (l : List T) : wgt (t :: l) = t.fl.length + 1 + wgt l := by simp [wgt]
theorem wgt_append (l m : List T) : wgt (l ++ m) = wgt l + wgt m := by simp [wgt]
theorem wgt_len (l : List T) : l.length ≤ wgt l := by
  induction l with
  | nil => simp
  | cons t l ih => rw [wgt_cons, List.length_cons]; omega
theorem wgt_mem {l : List T} {t : T} (h : t ∈ l) : t.fl.length + 1 ≤ wgt l := by
  induction l with
  | nil => cases h
  | cons u l ih =>
    rw [wgt_cons]
    rcases List.mem_cons.1 h with rfl | h
    · omega
    · have := ih h; omega

theorem pcs_wgt {op : Int} : ∀ t : T, wgt (pcs op t) ≤ t.fl.length + 1
  | .leaf x => by simp [pcs, wgt_cons, wgt_nil, T.fl]
  | .one x a => by simp [pcs, wgt_cons, wgt_nil]
  | .two x a b => by
    unfold pcs
    split
    · have h1 := pcs_wgt (op := op) a
      have h2 := pcs_wgt (op := op) b
      rw [wgt_append]
      simp only [T.fl, List.length_cons, List.length_append]
      omega
    · rw [wgt_cons, wgt_nil]; omega

theorem insT_wgt {x : T} : ∀ (d : Bool) (l : List T), wgt (insT x d l) ≤ wgt l + (if d = true then 0 else x.fl.length + 1)
  | d, [] => by cases d <;> simp [insT, wgt_cons, wgt_nil]
  | d, y :: r => by
    have h := insT_wgt (x := x) (d || decide (cmpF x.fl y.fl ≠ .gt)) r
    simp only [insT, wgt_append, wgt_cons]
    cases d <;> cases hc : cmpF x.fl y.fl <;> rw [hc] at h <;> simp [wgt_cons, wgt_nil] at h ⊢ <;> omega

theorem sortT_wgt_aux : ∀ (p acc : List T), wgt (p.foldl (fun acc x => insT x false acc) acc) ≤ wgt acc + wgt p
  | [], acc => by simp [wgt_nil]
  | x :: p, acc => by
    have h1 := sortT_wgt_aux p (insT x false acc)
    have h2 := insT_wgt (x := x) false acc
    simp only [Bool.false_eq_true, if_false] at h2
    rw [List.foldl_cons, wgt_cons]
    omega
theorem sortT_wgt (p : List T) : wgt (sortT p) ≤ wgt p := by
  have := sortT_wgt_aux p []
  rw [wgt_nil, Nat.zero_add] at this
  exact this
theorem filter_wgt (f : T → Bool) : ∀ p : List T, wgt (p.filter f) ≤ wgt p
  | [] => by simp
  | x :: p => by
    have := filter_wgt f p
    rw [List.filter_cons]
    split <;> simp only [wgt_cons] <;> omega
theorem take_wgt (p : List T) (i : Nat) : wgt (p.take i) ≤ wgt p := by
  conv => rhs; rw [← List.take_append_drop i p, wgt_append]
  omega
theorem drop_wgt (p : List T) (i : Nat) : wgt (p.drop i) ≤ wgt p := by
  conv => rhs; rw [← List.take_append_drop i p, wgt_append]
  omega

theorem foldO_len (op : Int) : ∀ l : List T, (foldO op l).fl.length ≤ max 1 (wgt l - 1)
  | [] => by simp only [foldO, T.fl, List.length_cons, List.length_nil]; omega
  | [x] => by rw [foldO, wgt_cons, wgt_nil]; omega
  | x :: y :: r => by
    have h := foldO_len op (y :: r)
    have hp := y.fl_pos
    rw [foldO, wgt_cons]
    simp only [T.fl, List.length_cons, List.length_append]
    rw [wgt_cons] at h ⊢
    omega

theorem normL_len (op : Int) (p : List T) : (normL op p).fl.length ≤ max 1 (wgt p - 1) := by
  unfold normL
  split
  · simp only [T.fl, List.length_cons, List.length_nil]; omega
  · split
    · simp only [T.fl, List.length_cons, List.length_nil]; omega
    · have h1 := foldO_len op (sortT (p.filter fun t => decide (t.root.op ≠ unitOf op)))
      have h2 := sortT_wgt (p.filter fun t => decide (t.root.op ≠ unitOf op))
      have h3 := filter_wgt (fun t => decide (t.root.op ≠ unitOf op)) p
      omega

theorem joinT_len (op : Int) (a b : T) : (joinT op a b).fl.length ≤ a.fl.length + b.fl.length + 1 := by
  have h := normL_len op (pcs op a ++ pcs op b)
  have h1 := pcs_wgt (op := op) a
  have h2 := pcs_wgt (op := op) b
  rw [wgt_append] at h
  unfold joinT
  omega

theorem formT_len : ∀ (t : T) (tn : Bool), (formT t tn).fl.length ≤ 2 * t.fl.length
  | .leaf x, tn => by
    unfold formT
    split
    · simp [T.fl]
    · split <;> simp [T.fl]
  | .one x a, tn => by
    have := formT_len a (!tn)
    rw [formT]
    simp only [T.fl, List.length_cons]
    omega
  | .two x a b, tn => by
    have h1 := formT_len a tn
    have h2 := formT_len b tn
    rw [formT]
    have h3 := joinT_len (if tn = true then 23 - x.op else x.op) (formT a tn) (formT b tn)
    simp only [T.fl, List.length_cons, List.length_append]
    omega

theorem vaOk_size {v : VA} (h : vaOk v = true) : v.s.size ≤ 1000000 := by
  unfold vaOk at h
  split at h
  · simp only [decide_eq_true_eq] at h
    rw [h]; decide
  · split at h
    · simp only [decide_eq_true_eq] at h
      rw [h.2.2]; decide
    · split at h
      · simp only [decide_eq_true_eq] at h
        omega
      · cases h
theorem ndOk_size {x : ND} (h : ndOk x = true) : x.v.s.size ≤ 1000000 := by
  have h0 : va0.s.size ≤ 1000000 := by decide
  unfold ndOk at h
  split at h
  · simp only [decide_eq_true_eq] at h; rw [h.2]; exact h0
  · split at h
    · simp only [decide_eq_true_eq] at h; rw [h.2.2]; exact h0
    · split at h
      · simp only [decide_eq_true_eq] at h; rw [h.2.2]; exact h0
      · split at h
        · simp only [decide_eq_true_eq] at h; exact vaOk_size h.2.2.1
        · split at h
          · simp only [decide_eq_true_eq] at h; exact vaOk_size h.2.2.1
          · cases h
theorem good_size {t : T} (h : Good t) : ∀ x, x ∈ t.fl → x.v.s.size ≤ 1000000 := fun x hx => ndOk_size (h.2 x hx)

/-- The atoms of a form are the tree's. -/
theorem pcs_mem {op : Int} : ∀ {t y : T}, y ∈ pcs op t → ∀ x, x ∈ y.fl → x ∈ t.fl
  | .leaf z, y, h, x, hx => by simp only [pcs, List.mem_singleton] at h; rw [h] at hx; exact hx
  | .one z a, y, h, x, hx => by simp only [pcs, List.mem_singleton] at h; rw [h] at hx; exact hx
  | .two z a b, y, h, x, hx => by
    unfold pcs at h
    split at h
    · simp only [T.fl, List.mem_cons, List.mem_append]
      rcases List.mem_append.1 h with h | h
      · exact .inr (.inl (pcs_mem h x hx))
      · exact .inr (.inr (pcs_mem h x hx))
    · rw [List.mem_singleton] at h; rw [h] at hx; exact hx
theorem nd_noatom {op : Int} (h : op = 1 ∨ op = 2 ∨ op = 10 ∨ op = 11 ∨ op = 12) : isAtom (nd op) = false := by
  rcases h with rfl | rfl | rfl | rfl | rfl <;> decide
theorem foldO_atoms {op : Int} (hop : op = 11 ∨ op = 12) : ∀ {l : List T} {x : ND}, x ∈ (foldO op l).fl → isAtom x = true → ∃ y, y ∈ l ∧ x ∈ y.fl
  | [], x, hx, ha => by
    simp only [foldO, T.fl, List.mem_singleton] at hx
    rw [hx, nd_noatom (by unfold unitOf; split <;> omega)] at ha
    cases ha
  | [y], x, hx, ha => ⟨y, List.mem_cons_self .., hx⟩
  | y :: z :: r, x, hx, ha => by
    simp only [foldO, T.fl, List.mem_cons, List.mem_append] at hx
    rcases hx with rfl | hx | hx
    · rw [nd_noatom (by omega)] at ha; cases ha
    · exact ⟨y, List.mem_cons_self .., hx⟩
    · obtain ⟨w, hw, h⟩ := foldO_atoms hop hx ha
      exact ⟨w, List.mem_cons_of_mem _ hw, h⟩
theorem normL_atoms {op : Int} (hop : op = 11 ∨ op = 12) {p : List T} (ho : ∀ y, y ∈ p → y.ok) {x : ND} (hx : x ∈ (normL op p).fl) (ha : isAtom x = true) : ∃ y, y ∈ p ∧ x ∈ y.fl := by
  have hz : isAtom (nd (zeroOf op)) = false := nd_noatom (by unfold zeroOf; split <;> omega)
  unfold normL at hx
  split at hx
  · simp only [T.fl, List.mem_singleton] at hx
    rw [hx, hz] at ha; cases ha
  · split at hx
    · simp only [T.fl, List.mem_singleton] at hx
      rw [hx, hz] at ha; cases ha
    · obtain ⟨y, hy, h⟩ := foldO_atoms hop hx ha
      rw [mem_sortT (fun y hy => ho y (List.mem_filter.1 hy).1)] at hy
      exact ⟨y, (List.mem_filter.1 hy).1, h⟩
theorem form_atoms : ∀ {t : T} {tn : Bool} {x : ND}, Good t → x ∈ (formT t tn).fl → isAtom x = true → x ∈ t.fl
  | .leaf y, tn, x, g, hx, ha => by
    unfold formT at hx
    split at hx
    · rename_i h
      simp only [T.fl, List.mem_singleton] at hx
      rw [hx, nd_noatom (by split <;> omega)] at ha; cases ha
    · split at hx
      · simp only [T.fl, List.mem_cons, List.not_mem_nil, or_false] at hx
        rcases hx with rfl | rfl
        · rw [nd_noatom (by omega)] at ha; cases ha
        · simp [T.fl]
      · exact hx
  | .one y a, tn, x, g, hx, ha => by
    rw [formT] at hx
    exact List.mem_cons_of_mem _ (form_atoms (good_one.1 g).2.2 hx ha)
  | .two y a b, tn, x, g, hx, ha => by
    obtain ⟨h1, _, ga, gb⟩ := good_two.1 g
    rw [formT] at hx
    have hop := op_turn (parts_two h1) tn
    obtain ⟨w, hw, h⟩ := normL_atoms hop (fun y hy => by
      rcases List.mem_append.1 hy with hy | hy
      · exact pcs_ok (good_form tn ga).1 y hy
      · exact pcs_ok (good_form tn gb).1 y hy) hx ha
    simp only [T.fl, List.mem_cons, List.mem_append]
    rcases List.mem_append.1 hw with hw | hw
    · exact .inr (.inl (form_atoms ga (pcs_mem hw x h) ha))
    · exact .inr (.inr (form_atoms gb (pcs_mem hw x h) ha))
end Go.Proofs.Ytielcgplbnlgbaa
end

section
/- Contracts of the document's Join, insert and against: the conditions that the theorems name. -/
set_option linter.unusedVariables false
set_option linter.unusedSimpArgs false
namespace Go.Proofs.Ytielcgplbnlgbaa

abbrev lcell (l : List ND) : List MV := [.lst 5 (l.map ND.c) false]
abbrev tcell (t : T) : List MV := [.lst 5 (t.fl.map ND.c) false]

set_option maxHeartbeats 2000000 in
theorem rjoin_call (op : Int) (ls : List (List ND)) (tt : Bool) (hl : ls.length ≤ 1000) (hs : ∀ l, l ∈ ls → l.length ≤ 1000) :
    MCalls Try.prog 28 [.int .i64 op, .lst 1 (ls.map lcell) tt] St.none (fun r _ => r = .lst 5 ((nd op :: ls.flatten).map ND.c) false) := by
  refine MCalls.seen (MCalls.body 23 [.tmp 4] Try.func28 rfl rfl rfl rfl ?_)
  have h5 : 1 + (ls.take ls.length).flatten.length ≤ 1000001 := by have := flat_le hs (i := ls.length) (Nat.le_refl _); omega
  repeat' (first | ((with_reducible refine wT ?_); (first | (fail_if_success (have := nl1)); with_reducible refine wN fun nl1 hnl => ?_ | (fail_if_success (have := nl2)); with_reducible refine wN fun nl2 hnl => ?_ | (fail_if_success (have := nl3)); with_reducible refine wN fun nl3 hnl => ?_ | (fail_if_success (have := nl4)); with_reducible refine wN fun nl4 hnl => ?_ | (fail_if_success (have := nl5)); with_reducible refine wN fun nl5 hnl => ?_ | with_reducible refine wN fun _ hnl => ?_); revert hnl; (repeat with_reducible refine wS fun _ _ => ?_); intro hnl) | (with_reducible first | refine mdraw_plain mixed (by decide +kernel) ?_ | refine wI (fun h => ?_) (fun h => ?_) | refine wF (fun h => ?_) (fun h => ?_) | refine wG (fun h => ?_) (fun h => ?_) | refine wH (fun h => ?_) (fun h => ?_)) | (with_reducible refine mfork_bool (fun h => ?_) (fun h => ?_) <;> simp only [h]) | (with_reducible refine mgfork_bool (fun h => ?_) (fun h => ?_) <;> simp only [h]) | (simp (config := { maxSteps := 4000000 }) (disch := first | decide | assumption | omega | (simp only [wL]; omega)) only [go_sem, Nat.reduceAdd, Nat.reduceSub, Nat.reduceMul, Nat.reduceDiv, Nat.reduceMod, Nat.reduceLT, Nat.reduceLeDiff, Nat.reduceEqDiff, Nat.reduceSucc, Nat.reduceGT, Int.reduceAdd, Int.reduceSub, Int.reduceMul, Int.reduceNeg, Int.reduceLT, Int.reduceLE, Int.reduceEq, Int.reduceToNat, reduceIte, Try.f28]))
  refine mloop_intro (α := Nat × Nat × List ND) (fun a => ⟨23, [(6, .int .i64 (a.1 : Int)), (5, .vec 5 a.2.1 0 a.2.2.length), (0, .int .i64 op), (1, .lst 1 (ls.map lcell) tt)], []⟩)
    (fun a => St.none.set a.2.1 (.row 49 5 (a.2.2.map ND.c))) (fun a => a.1 ≤ ls.length ∧ a.2.2 = nd op :: (ls.take a.1).flatten) (fun a => ls.length - a.1) ?_ ?_
  · refine .of (.less ?_ (St.le_refl _)) ⟨(0, nl1, [nd op]), rfl, rfl, Nat.zero_le _, by simp⟩
    simp (config := { maxSteps := 4000000 }) (disch := first | decide | assumption | omega | (simp only [wL]; omega)) only [go_sem, Nat.reduceAdd, Nat.reduceSub, Nat.reduceMul, Nat.reduceDiv, Nat.reduceMod, Nat.reduceLT, Nat.reduceLeDiff, Nat.reduceEqDiff, Nat.reduceSucc, Nat.reduceGT, Int.reduceAdd, Int.reduceSub, Int.reduceMul, Int.reduceNeg, Int.reduceLT, Int.reduceLE, Int.reduceEq, Int.reduceToNat, reduceIte, weak_int, weak_same]
    all_goals rfl
  · rintro ⟨i, q, D⟩ ⟨hi, hD⟩
    simp only at hi hD ⊢
    have hDl : D.length = 1 + (ls.take i).flatten.length := by rw [hD, List.length_cons]; omega
    have h2 := flat_le hs hi
    by_cases hlt : i < ls.length
    · have h1 := hs _ (getD_mem [] hlt)
      have hD1 : D ++ ls.getD i [] = nd op :: (ls.take (i + 1)).flatten := by rw [hD, flat_take_succ hlt]; rfl
      obtain ⟨Y, hY⟩ : ∃ Y, ls.getD i [] = Y := ⟨_, rfl⟩
      rw [hY] at h1 hD1
      repeat' (first | ((with_reducible refine wT ?_); (first | (fail_if_success (have := nl1)); with_reducible refine wN fun nl1 hnl => ?_ | (fail_if_success (have := nl2)); with_reducible refine wN fun nl2 hnl => ?_ | (fail_if_success (have := nl3)); with_reducible refine wN fun nl3 hnl => ?_ | (fail_if_success (have := nl4)); with_reducible refine wN fun nl4 hnl => ?_ | (fail_if_success (have := nl5)); with_reducible refine wN fun nl5 hnl => ?_ | with_reducible refine wN fun _ hnl => ?_); revert hnl; (repeat with_reducible refine wS fun _ _ => ?_); intro hnl) | (with_reducible first | refine mdraw_plain mixed (by decide +kernel) ?_ | refine wI (fun h => ?_) (fun h => ?_) | refine wF (fun h => ?_) (fun h => ?_) | refine wG (fun h => ?_) (fun h => ?_) | refine wH (fun h => ?_) (fun h => ?_)) | (with_reducible refine mfork_bool (fun h => ?_) (fun h => ?_) <;> simp only [h]) | (with_reducible refine mgfork_bool (fun h => ?_) (fun h => ?_) <;> simp only [h]) | (simp (config := { maxSteps := 4000000 }) (disch := first | decide | assumption | omega | (simp only [wL]; omega)) only [go_sem, Nat.reduceAdd, Nat.reduceSub, Nat.reduceMul, Nat.reduceDiv, Nat.reduceMod, Nat.reduceLT, Nat.reduceLeDiff, Nat.reduceEqDiff, Nat.reduceSucc, Nat.reduceGT, Int.reduceAdd, Int.reduceSub, Int.reduceMul, Int.reduceNeg, Int.reduceLT, Int.reduceLE, Int.reduceEq, Int.reduceToNat, reduceIte, getD_mapd [], hY]))
      refine .of (.less ?_ (St.set_le (St.none_le _) (set_hit _ _ _))) ⟨(i + 1, nl2, D ++ Y), rfl, rfl, ⟨by simp only; omega, hD1⟩, by simp only; omega⟩
      rw [List.length_append]
      simp (config := { maxSteps := 4000000 }) (disch := first | decide | assumption | omega | (simp only [wL]; omega)) only [go_sem, Nat.reduceAdd, Nat.reduceSub, Nat.reduceMul, Nat.reduceDiv, Nat.reduceMod, Nat.reduceLT, Nat.reduceLeDiff, Nat.reduceEqDiff, Nat.reduceSucc, Nat.reduceGT, Int.reduceAdd, Int.reduceSub, Int.reduceMul, Int.reduceNeg, Int.reduceLT, Int.reduceLE, Int.reduceEq, Int.reduceToNat, reduceIte, weak_int, weak_same]
      all_goals rfl
    · have : i = ls.length := by omega
      subst this
      repeat' (first | ((with_reducible refine wT ?_); (first | (fail_if_success (have := nl1)); with_reducible refine wN fun nl1 hnl => ?_ | (fail_if_success (have := nl2)); with_reducible refine wN fun nl2 hnl => ?_ | (fail_if_success (have := nl3)); with_reducible refine wN fun nl3 hnl => ?_ | (fail_if_success (have := nl4)); with_reducible refine wN fun nl4 hnl => ?_ | (fail_if_success (have := nl5)); with_reducible refine wN fun nl5 hnl => ?_ | with_reducible refine wN fun _ hnl => ?_); revert hnl; (repeat with_reducible refine wS fun _ _ => ?_); intro hnl) | (with_reducible first | refine mdraw_plain mixed (by decide +kernel) ?_ | refine wI (fun h => ?_) (fun h => ?_) | refine wF (fun h => ?_) (fun h => ?_) | refine wG (fun h => ?_) (fun h => ?_) | refine wH (fun h => ?_) (fun h => ?_)) | (with_reducible refine mfork_bool (fun h => ?_) (fun h => ?_) <;> simp only [h]) | (with_reducible refine mgfork_bool (fun h => ?_) (fun h => ?_) <;> simp only [h]) | (simp (config := { maxSteps := 4000000 }) (disch := first | decide | assumption | omega | (simp only [wL]; omega)) only [go_sem, Nat.reduceAdd, Nat.reduceSub, Nat.reduceMul, Nat.reduceDiv, Nat.reduceMod, Nat.reduceLT, Nat.reduceLeDiff, Nat.reduceEqDiff, Nat.reduceSucc, Nat.reduceGT, Int.reduceAdd, Int.reduceSub, Int.reduceMul, Int.reduceNeg, Int.reduceLT, Int.reduceLE, Int.reduceEq, Int.reduceToNat, reduceIte]))
      rw [List.take_length] at hD
      subst hD
      exact .vecAll (set_hit _ _ _) (by simp only [List.length_map, List.length_cons])

/-- The same, of one part in a row that is held. -/
theorem rjoin_at (op : Int) (a : List ND) (ha : a.length ≤ 1000) (l0 : Nat) :
    MCalls Try.prog 28 [.int .i64 op, .vec 1 l0 0 1] (St.ofList [l0] [.row 22 1 [lcell a]]) (fun r σ' => r = .lst 5 ((nd op :: a).map ND.c) false ∧ σ' = St.ofList [l0] [.row 22 1 [lcell a]]) := by
  simp only [St.ofList]
  refine MCalls.gh (MCalls.body 23 [.tmp 4] Try.func28 rfl rfl rfl rfl ?_)
  repeat' (first | ((with_reducible refine wT ?_); (first | (fail_if_success (have := nl1)); with_reducible refine wN fun nl1 hnl => ?_ | (fail_if_success (have := nl2)); with_reducible refine wN fun nl2 hnl => ?_ | (fail_if_success (have := nl3)); with_reducible refine wN fun nl3 hnl => ?_ | (fail_if_success (have := nl4)); with_reducible refine wN fun nl4 hnl => ?_ | (fail_if_success (have := nl5)); with_reducible refine wN fun nl5 hnl => ?_ | with_reducible refine wN fun _ hnl => ?_); revert hnl; (repeat with_reducible refine wS fun _ _ => ?_); intro hnl) | (with_reducible first | refine mdraw_plain mixed (by decide +kernel) ?_ | refine wI (fun h => ?_) (fun h => ?_) | refine wF (fun h => ?_) (fun h => ?_) | refine wG (fun h => ?_) (fun h => ?_) | refine wH (fun h => ?_) (fun h => ?_)) | (with_reducible refine mfork_bool (fun h => ?_) (fun h => ?_) <;> simp only [h]) | (with_reducible refine mgfork_bool (fun h => ?_) (fun h => ?_) <;> simp only [h]) | (simp (config := { maxSteps := 4000000 }) (disch := first | decide | assumption | omega | (simp only [wL]; omega)) only [go_sem, Nat.reduceAdd, Nat.reduceSub, Nat.reduceMul, Nat.reduceDiv, Nat.reduceMod, Nat.reduceLT, Nat.reduceLeDiff, Nat.reduceEqDiff, Nat.reduceSucc, Nat.reduceGT, Int.reduceAdd, Int.reduceSub, Int.reduceMul, Int.reduceNeg, Int.reduceLT, Int.reduceLE, Int.reduceEq, Int.reduceToNat, reduceIte, Try.f28]))
  refine mloop_intro (α := Nat × Nat × List ND) (fun b => ⟨23, [(6, .int .i64 (b.1 : Int)), (5, .vec 5 b.2.1 0 b.2.2.length), (0, .int .i64 op), (1, .vec 1 l0 0 1)], []⟩)
    (fun b => (St.none.set l0 (.row 22 1 [lcell a])).set b.2.1 (.row 49 5 (b.2.2.map ND.c))) (fun b => b.2.1 ≠ l0 ∧ (b.1 = 0 ∧ b.2.2 = [nd op] ∨ b.1 = 1 ∧ b.2.2 = nd op :: a)) (fun b => 1 - b.1) ?_ ?_
  · refine .of (.less ?_ (St.le_refl _)) ⟨(0, nl1, [nd op]), rfl, rfl, ⟨by assumption, .inl ⟨rfl, rfl⟩⟩⟩
    simp (config := { maxSteps := 4000000 }) (disch := first | decide | assumption | omega | (simp only [wL]; omega)) only [go_sem, Nat.reduceAdd, Nat.reduceSub, Nat.reduceMul, Nat.reduceDiv, Nat.reduceMod, Nat.reduceLT, Nat.reduceLeDiff, Nat.reduceEqDiff, Nat.reduceSucc, Nat.reduceGT, Int.reduceAdd, Int.reduceSub, Int.reduceMul, Int.reduceNeg, Int.reduceLT, Int.reduceLE, Int.reduceEq, Int.reduceToNat, reduceIte, weak_int, weak_same]
    all_goals rfl
  · rintro ⟨i, q, D⟩ ⟨hq, h⟩
    simp only at hq h ⊢
    rcases h with ⟨rfl, rfl⟩ | ⟨rfl, rfl⟩
    · repeat' (first | ((with_reducible refine wT ?_); (first | (fail_if_success (have := nl1)); with_reducible refine wN fun nl1 hnl => ?_ | (fail_if_success (have := nl2)); with_reducible refine wN fun nl2 hnl => ?_ | (fail_if_success (have := nl3)); with_reducible refine wN fun nl3 hnl => ?_ | (fail_if_success (have := nl4)); with_reducible refine wN fun nl4 hnl => ?_ | (fail_if_success (have := nl5)); with_reducible refine wN fun nl5 hnl => ?_ | with_reducible refine wN fun _ hnl => ?_); revert hnl; (repeat with_reducible refine wS fun _ _ => ?_); intro hnl) | (with_reducible first | refine mdraw_plain mixed (by decide +kernel) ?_ | refine wI (fun h => ?_) (fun h => ?_) | refine wF (fun h => ?_) (fun h => ?_) | refine wG (fun h => ?_) (fun h => ?_) | refine wH (fun h => ?_) (fun h => ?_)) | (with_reducible refine mfork_bool (fun h => ?_) (fun h => ?_) <;> simp only [h]) | (with_reducible refine mgfork_bool (fun h => ?_) (fun h => ?_) <;> simp only [h]) | (simp (config := { maxSteps := 4000000 }) (disch := first | decide | assumption | omega | (simp only [wL]; omega)) only [go_sem, Nat.reduceAdd, Nat.reduceSub, Nat.reduceMul, Nat.reduceDiv, Nat.reduceMod, Nat.reduceLT, Nat.reduceLeDiff, Nat.reduceEqDiff, Nat.reduceSucc, Nat.reduceGT, Int.reduceAdd, Int.reduceSub, Int.reduceMul, Int.reduceNeg, Int.reduceLT, Int.reduceLE, Int.reduceEq, Int.reduceToNat, reduceIte]))
      refine .of (.less ?_ (St.le_refl _)) ⟨(1, nl2, nd op :: a), rfl, rfl, ⟨by assumption, .inr ⟨rfl, rfl⟩⟩, by simp⟩
      rw [List.length_cons, Nat.add_comm]
      simp (config := { maxSteps := 4000000 }) (disch := first | decide | assumption | omega | (simp only [wL]; omega)) only [go_sem, Nat.reduceAdd, Nat.reduceSub, Nat.reduceMul, Nat.reduceDiv, Nat.reduceMod, Nat.reduceLT, Nat.reduceLeDiff, Nat.reduceEqDiff, Nat.reduceSucc, Nat.reduceGT, Int.reduceAdd, Int.reduceSub, Int.reduceMul, Int.reduceNeg, Int.reduceLT, Int.reduceLE, Int.reduceEq, Int.reduceToNat, reduceIte, weak_int, weak_same]
      all_goals rfl
    · repeat' (first | ((with_reducible refine wT ?_); (first | (fail_if_success (have := nl1)); with_reducible refine wN fun nl1 hnl => ?_ | (fail_if_success (have := nl2)); with_reducible refine wN fun nl2 hnl => ?_ | (fail_if_success (have := nl3)); with_reducible refine wN fun nl3 hnl => ?_ | (fail_if_success (have := nl4)); with_reducible refine wN fun nl4 hnl => ?_ | (fail_if_success (have := nl5)); with_reducible refine wN fun nl5 hnl => ?_ | with_reducible refine wN fun _ hnl => ?_); revert hnl; (repeat with_reducible refine wS fun _ _ => ?_); intro hnl) | (with_reducible first | refine mdraw_plain mixed (by decide +kernel) ?_ | refine wI (fun h => ?_) (fun h => ?_) | refine wF (fun h => ?_) (fun h => ?_) | refine wG (fun h => ?_) (fun h => ?_) | refine wH (fun h => ?_) (fun h => ?_)) | (with_reducible refine mfork_bool (fun h => ?_) (fun h => ?_) <;> simp only [h]) | (with_reducible refine mgfork_bool (fun h => ?_) (fun h => ?_) <;> simp only [h]) | (simp (config := { maxSteps := 4000000 }) (disch := first | decide | assumption | omega | (simp only [wL]; omega)) only [go_sem, Nat.reduceAdd, Nat.reduceSub, Nat.reduceMul, Nat.reduceDiv, Nat.reduceMod, Nat.reduceLT, Nat.reduceLeDiff, Nat.reduceEqDiff, Nat.reduceSucc, Nat.reduceGT, Int.reduceAdd, Int.reduceSub, Int.reduceMul, Int.reduceNeg, Int.reduceLT, Int.reduceLE, Int.reduceEq, Int.reduceToNat, reduceIte]))
      refine .step (Ghost.freeze (l1 := [(0, .lst 5 ((nd op).c :: a.map ND.c) false)]) (σ1 := St.none.set l0 (.row 22 1 [lcell a])) (St.none.set q (.row 49 5 ((nd op).c :: a.map ND.c))) (St.set_le (St.none_le _) (set_hit _ _ _)) (St.set_le (St.none_le _) ((set_miss _ _ _ _ (Ne.symm hq)).trans (set_hit _ _ _))) ?_ ?_) (.done ⟨_, rfl, rfl, rfl⟩)
      · intro k o hk
        by_cases h : k = l0
        · subst h; exact set_miss _ _ _ _ (Ne.symm hq)
        · rw [set_miss _ _ _ _ h] at hk; cases hk
      · intro p hp
        simp only [List.mem_cons, List.not_mem_nil, or_false] at hp
        subst hp
        exact .vecAll (set_hit _ _ _) (by simp only [List.length_map, List.length_cons])

/-- The document's list with one more. -/
theorem insT_end {x : T} {d : Bool} : insT x d [] = if d = true then [] else [x] := rfl

set_option maxHeartbeats 4000000 in
theorem rinsert_call (l : List T) (x : T) (hl : l.length ≤ 1000) (hn : ∀ y, y ∈ l → y.fl.length ≤ 1000) (hx : x.fl.length ≤ 1000) (sl : ∀ y, y ∈ l → ∀ z, z ∈ y.fl → z.v.s.size ≤ 1000000) (sx : ∀ z, z ∈ x.fl → z.v.s.size ≤ 1000000) (tt : Bool) :
    MCalls Try.prog 81 [.lst 1 (l.map tcell) tt, .lst 5 (x.fl.map ND.c) false] St.none (fun r _ => r = .lst 1 ((insT x false l).map tcell) false) := by
  refine MCalls.seen (MCalls.body 48 [.tmp 4] Try.func81 rfl rfl rfl rfl ?_)
  repeat' (first | ((with_reducible refine wT ?_); (first | (fail_if_success (have := nl1)); with_reducible refine wN fun nl1 hnl => ?_ | (fail_if_success (have := nl2)); with_reducible refine wN fun nl2 hnl => ?_ | (fail_if_success (have := nl3)); with_reducible refine wN fun nl3 hnl => ?_ | (fail_if_success (have := nl4)); with_reducible refine wN fun nl4 hnl => ?_ | (fail_if_success (have := nl5)); with_reducible refine wN fun nl5 hnl => ?_ | with_reducible refine wN fun _ hnl => ?_); revert hnl; (repeat with_reducible refine wS fun _ _ => ?_); intro hnl) | (with_reducible first | refine mdraw_plain mixed (by decide +kernel) ?_ | refine wI (fun h => ?_) (fun h => ?_) | refine wF (fun h => ?_) (fun h => ?_) | refine wG (fun h => ?_) (fun h => ?_) | refine wH (fun h => ?_) (fun h => ?_)) | (with_reducible refine mfork_bool (fun h => ?_) (fun h => ?_) <;> simp only [h]) | (with_reducible refine mgfork_bool (fun h => ?_) (fun h => ?_) <;> simp only [h]) | (simp (config := { maxSteps := 4000000 }) (disch := first | decide | assumption | omega | (simp only [wL]; omega)) only [go_sem, Nat.reduceAdd, Nat.reduceSub, Nat.reduceMul, Nat.reduceDiv, Nat.reduceMod, Nat.reduceLT, Nat.reduceLeDiff, Nat.reduceEqDiff, Nat.reduceSucc, Nat.reduceGT, Int.reduceAdd, Int.reduceSub, Int.reduceMul, Int.reduceNeg, Int.reduceLT, Int.reduceLE, Int.reduceEq, Int.reduceToNat, reduceIte, Try.f81]))
  refine mloop_intro (α := Nat × Nat × Bool × List T) (fun a => ⟨48, [(7, .int .i64 (a.1 : Int)), (6, .bool a.2.2.1), (5, .vec 1 a.2.1 0 a.2.2.2.length), (0, .lst 1 (l.map tcell) tt), (1, .lst 5 (x.fl.map ND.c) false)], []⟩)
    (fun a => St.none.set a.2.1 (.row 22 1 (a.2.2.2.map tcell))) (fun a => a.1 ≤ l.length ∧ a.2.2.2.length ≤ 2 * a.1 ∧ insT x false l = a.2.2.2 ++ insT x a.2.2.1 (l.drop a.1)) (fun a => l.length - a.1) ?_ ?_
  · refine .of (.less ?_ (St.le_refl _)) ⟨(0, nl1, false, []), rfl, rfl, Nat.zero_le _, Nat.zero_le _, rfl⟩
    simp (config := { maxSteps := 4000000 }) (disch := first | decide | assumption | omega | (simp only [wL]; omega)) only [go_sem, Nat.reduceAdd, Nat.reduceSub, Nat.reduceMul, Nat.reduceDiv, Nat.reduceMod, Nat.reduceLT, Nat.reduceLeDiff, Nat.reduceEqDiff, Nat.reduceSucc, Nat.reduceGT, Int.reduceAdd, Int.reduceSub, Int.reduceMul, Int.reduceNeg, Int.reduceLT, Int.reduceLE, Int.reduceEq, Int.reduceToNat, reduceIte, weak_int, weak_same]
    all_goals rfl
  · rintro ⟨i, q, d, D⟩ ⟨hi, hDl, hD⟩
    simp only at hi hDl hD ⊢
    by_cases hlt : i < l.length
    · have hy := getD_mem (.leaf nd0) hlt
      have hdr : l.drop i = l.getD i (.leaf nd0) :: l.drop (i + 1) := by rw [List.drop_eq_getElem_cons hlt, getD_of_lt _ hlt]
      obtain ⟨y, hyE⟩ : ∃ y, l.getD i (.leaf nd0) = y := ⟨_, rfl⟩
      rw [hyE] at hy hdr
      have c1 := rcompare_call x.fl y.fl (by omega) (by have := hn y hy; omega) sx (sl y hy) false false
      rw [hdr] at hD
      simp only [insT] at hD
      cases d <;> cases hc : cmpF x.fl y.fl <;> rw [hc] at c1 hD <;> simp (config := { decide := true }) only [ordI, if_true, if_false, Bool.or_true, Bool.or_false, Bool.false_or, Bool.true_or, decide_true, decide_false, List.nil_append, List.cons_append] at c1 hD
      all_goals repeat' (first | (with_reducible refine use_pure c1 ?_) | ((with_reducible refine wT ?_); (first | (fail_if_success (have := nl1)); with_reducible refine wN fun nl1 hnl => ?_ | (fail_if_success (have := nl2)); with_reducible refine wN fun nl2 hnl => ?_ | (fail_if_success (have := nl3)); with_reducible refine wN fun nl3 hnl => ?_ | (fail_if_success (have := nl4)); with_reducible refine wN fun nl4 hnl => ?_ | (fail_if_success (have := nl5)); with_reducible refine wN fun nl5 hnl => ?_ | with_reducible refine wN fun _ hnl => ?_); revert hnl; (repeat with_reducible refine wS fun _ _ => ?_); intro hnl) | (with_reducible first | refine mdraw_plain mixed (by decide +kernel) ?_ | refine wI (fun h => ?_) (fun h => ?_) | refine wF (fun h => ?_) (fun h => ?_) | refine wG (fun h => ?_) (fun h => ?_) | refine wH (fun h => ?_) (fun h => ?_)) | (with_reducible refine mfork_bool (fun h => ?_) (fun h => ?_) <;> simp only [h]) | (with_reducible refine mgfork_bool (fun h => ?_) (fun h => ?_) <;> simp only [h]) | (simp (config := { maxSteps := 4000000 }) (disch := first | decide | assumption | omega | (simp only [wL]; omega)) only [go_sem, Nat.reduceAdd, Nat.reduceSub, Nat.reduceMul, Nat.reduceDiv, Nat.reduceMod, Nat.reduceLT, Nat.reduceLeDiff, Nat.reduceEqDiff, Nat.reduceSucc, Nat.reduceGT, Int.reduceAdd, Int.reduceSub, Int.reduceMul, Int.reduceNeg, Int.reduceLT, Int.reduceLE, Int.reduceEq, Int.reduceToNat, reduceIte, getD_mapd (T.leaf nd0), hyE]))
      · refine .of (.less ?_ (St.set_le (St.none_le _) ((set_hit _ _ _).trans ?_))) ⟨(i + 1, nl5, true, D ++ [x, y]), rfl, rfl, ⟨by simp only; omega, by (try simp only [List.length_append, List.length_cons, List.length_nil]); omega, by rw [hD]; try simp⟩, by simp only; omega⟩
        · rw [show (D ++ [x, y]).length = D.length + 1 + 1 by simp]
          simp (config := { maxSteps := 4000000 }) (disch := first | decide | assumption | omega | (simp only [wL]; omega)) only [go_sem, Nat.reduceAdd, Nat.reduceSub, Nat.reduceMul, Nat.reduceDiv, Nat.reduceMod, Nat.reduceLT, Nat.reduceLeDiff, Nat.reduceEqDiff, Nat.reduceSucc, Nat.reduceGT, Int.reduceAdd, Int.reduceSub, Int.reduceMul, Int.reduceNeg, Int.reduceLT, Int.reduceLE, Int.reduceEq, Int.reduceToNat, reduceIte, weak_int, weak_same]
          all_goals rfl
        · simp
      · refine .of (.less ?_ (St.set_le (St.none_le _) ((set_hit _ _ _).trans ?_))) ⟨(i + 1, nl3, true, D ++ [x]), rfl, rfl, ⟨by simp only; omega, by (try simp only [List.length_append, List.length_cons, List.length_nil]); omega, by rw [hD]; try simp⟩, by simp only; omega⟩
        · rw [show (D ++ [x]).length = D.length + 1 by simp]
          simp (config := { maxSteps := 4000000 }) (disch := first | decide | assumption | omega | (simp only [wL]; omega)) only [go_sem, Nat.reduceAdd, Nat.reduceSub, Nat.reduceMul, Nat.reduceDiv, Nat.reduceMod, Nat.reduceLT, Nat.reduceLeDiff, Nat.reduceEqDiff, Nat.reduceSucc, Nat.reduceGT, Int.reduceAdd, Int.reduceSub, Int.reduceMul, Int.reduceNeg, Int.reduceLT, Int.reduceLE, Int.reduceEq, Int.reduceToNat, reduceIte, weak_int, weak_same]
          all_goals rfl
        · simp
      · refine .of (.less ?_ (St.set_le (St.none_le _) ((set_hit _ _ _).trans ?_))) ⟨(i + 1, nl3, false, D ++ [y]), rfl, rfl, ⟨by simp only; omega, by (try simp only [List.length_append, List.length_cons, List.length_nil]); omega, by rw [hD]; try simp⟩, by simp only; omega⟩
        · rw [show (D ++ [y]).length = D.length + 1 by simp]
          simp (config := { maxSteps := 4000000 }) (disch := first | decide | assumption | omega | (simp only [wL]; omega)) only [go_sem, Nat.reduceAdd, Nat.reduceSub, Nat.reduceMul, Nat.reduceDiv, Nat.reduceMod, Nat.reduceLT, Nat.reduceLeDiff, Nat.reduceEqDiff, Nat.reduceSucc, Nat.reduceGT, Int.reduceAdd, Int.reduceSub, Int.reduceMul, Int.reduceNeg, Int.reduceLT, Int.reduceLE, Int.reduceEq, Int.reduceToNat, reduceIte, weak_int, weak_same]
          all_goals rfl
        · simp
      · refine .of (.less ?_ (St.set_le (St.none_le _) ((set_hit _ _ _).trans ?_))) ⟨(i + 1, nl3, true, D ++ [y]), rfl, rfl, ⟨by simp only; omega, by (try simp only [List.length_append, List.length_cons, List.length_nil]); omega, by rw [hD]; try simp⟩, by simp only; omega⟩
        · rw [show (D ++ [y]).length = D.length + 1 by simp]
          simp (config := { maxSteps := 4000000 }) (disch := first | decide | assumption | omega | (simp only [wL]; omega)) only [go_sem, Nat.reduceAdd, Nat.reduceSub, Nat.reduceMul, Nat.reduceDiv, Nat.reduceMod, Nat.reduceLT, Nat.reduceLeDiff, Nat.reduceEqDiff, Nat.reduceSucc, Nat.reduceGT, Int.reduceAdd, Int.reduceSub, Int.reduceMul, Int.reduceNeg, Int.reduceLT, Int.reduceLE, Int.reduceEq, Int.reduceToNat, reduceIte, weak_int, weak_same]
          all_goals rfl
        · simp
      · refine .of (.less ?_ (St.set_le (St.none_le _) ((set_hit _ _ _).trans ?_))) ⟨(i + 1, q, true, D), rfl, rfl, ⟨by simp only; omega, by (try simp only [List.length_append, List.length_cons, List.length_nil]); omega, by rw [hD]; try simp⟩, by simp only; omega⟩
        · rw [show (D).length = D.length by simp]
          simp (config := { maxSteps := 4000000 }) (disch := first | decide | assumption | omega | (simp only [wL]; omega)) only [go_sem, Nat.reduceAdd, Nat.reduceSub, Nat.reduceMul, Nat.reduceDiv, Nat.reduceMod, Nat.reduceLT, Nat.reduceLeDiff, Nat.reduceEqDiff, Nat.reduceSucc, Nat.reduceGT, Int.reduceAdd, Int.reduceSub, Int.reduceMul, Int.reduceNeg, Int.reduceLT, Int.reduceLE, Int.reduceEq, Int.reduceToNat, reduceIte, weak_int, weak_same]
          all_goals rfl
        · simp
      · refine .of (.less ?_ (St.set_le (St.none_le _) ((set_hit _ _ _).trans ?_))) ⟨(i + 1, nl3, true, D ++ [y]), rfl, rfl, ⟨by simp only; omega, by (try simp only [List.length_append, List.length_cons, List.length_nil]); omega, by rw [hD]; try simp⟩, by simp only; omega⟩
        · rw [show (D ++ [y]).length = D.length + 1 by simp]
          simp (config := { maxSteps := 4000000 }) (disch := first | decide | assumption | omega | (simp only [wL]; omega)) only [go_sem, Nat.reduceAdd, Nat.reduceSub, Nat.reduceMul, Nat.reduceDiv, Nat.reduceMod, Nat.reduceLT, Nat.reduceLeDiff, Nat.reduceEqDiff, Nat.reduceSucc, Nat.reduceGT, Int.reduceAdd, Int.reduceSub, Int.reduceMul, Int.reduceNeg, Int.reduceLT, Int.reduceLE, Int.reduceEq, Int.reduceToNat, reduceIte, weak_int, weak_same]
          all_goals rfl
        · simp
    · have hie : i = l.length := by omega
      subst hie
      rw [List.drop_length, insT_end] at hD
      cases d <;> simp only [if_true, Bool.false_eq_true, if_false, List.append_nil] at hD
      · repeat' (first | ((with_reducible refine wT ?_); (first | (fail_if_success (have := nl1)); with_reducible refine wN fun nl1 hnl => ?_ | (fail_if_success (have := nl2)); with_reducible refine wN fun nl2 hnl => ?_ | (fail_if_success (have := nl3)); with_reducible refine wN fun nl3 hnl => ?_ | (fail_if_success (have := nl4)); with_reducible refine wN fun nl4 hnl => ?_ | (fail_if_success (have := nl5)); with_reducible refine wN fun nl5 hnl => ?_ | with_reducible refine wN fun _ hnl => ?_); revert hnl; (repeat with_reducible refine wS fun _ _ => ?_); intro hnl) | (with_reducible first | refine mdraw_plain mixed (by decide +kernel) ?_ | refine wI (fun h => ?_) (fun h => ?_) | refine wF (fun h => ?_) (fun h => ?_) | refine wG (fun h => ?_) (fun h => ?_) | refine wH (fun h => ?_) (fun h => ?_)) | (with_reducible refine mfork_bool (fun h => ?_) (fun h => ?_) <;> simp only [h]) | (with_reducible refine mgfork_bool (fun h => ?_) (fun h => ?_) <;> simp only [h]) | (simp (config := { maxSteps := 4000000 }) (disch := first | decide | assumption | omega | (simp only [wL]; omega)) only [go_sem, Nat.reduceAdd, Nat.reduceSub, Nat.reduceMul, Nat.reduceDiv, Nat.reduceMod, Nat.reduceLT, Nat.reduceLeDiff, Nat.reduceEqDiff, Nat.reduceSucc, Nat.reduceGT, Int.reduceAdd, Int.reduceSub, Int.reduceMul, Int.reduceNeg, Int.reduceLT, Int.reduceLE, Int.reduceEq, Int.reduceToNat, reduceIte]))
        rw [hD, List.map_append]
        exact .vecAll (set_hit _ _ _) (by simp)
      · repeat' (first | ((with_reducible refine wT ?_); (first | (fail_if_success (have := nl1)); with_reducible refine wN fun nl1 hnl => ?_ | (fail_if_success (have := nl2)); with_reducible refine wN fun nl2 hnl => ?_ | (fail_if_success (have := nl3)); with_reducible refine wN fun nl3 hnl => ?_ | (fail_if_success (have := nl4)); with_reducible refine wN fun nl4 hnl => ?_ | (fail_if_success (have := nl5)); with_reducible refine wN fun nl5 hnl => ?_ | with_reducible refine wN fun _ hnl => ?_); revert hnl; (repeat with_reducible refine wS fun _ _ => ?_); intro hnl) | (with_reducible first | refine mdraw_plain mixed (by decide +kernel) ?_ | refine wI (fun h => ?_) (fun h => ?_) | refine wF (fun h => ?_) (fun h => ?_) | refine wG (fun h => ?_) (fun h => ?_) | refine wH (fun h => ?_) (fun h => ?_)) | (with_reducible refine mfork_bool (fun h => ?_) (fun h => ?_) <;> simp only [h]) | (with_reducible refine mgfork_bool (fun h => ?_) (fun h => ?_) <;> simp only [h]) | (simp (config := { maxSteps := 4000000 }) (disch := first | decide | assumption | omega | (simp only [wL]; omega)) only [go_sem, Nat.reduceAdd, Nat.reduceSub, Nat.reduceMul, Nat.reduceDiv, Nat.reduceMod, Nat.reduceLT, Nat.reduceLeDiff, Nat.reduceEqDiff, Nat.reduceSucc, Nat.reduceGT, Int.reduceAdd, Int.reduceSub, Int.reduceMul, Int.reduceNeg, Int.reduceLT, Int.reduceLE, Int.reduceEq, Int.reduceToNat, reduceIte]))
        rw [hD]
        exact .vecAll (set_hit _ _ _) (by simp)

end Go.Proofs.Ytielcgplbnlgbaa
end

section
/- Contract of the document's pieces: the conditions that the theorem names. -/
set_option linter.unusedVariables false
set_option linter.unusedSimpArgs false
namespace Go.Proofs.Ytielcgplbnlgbaa

/-- A call that answers a new place. -/
theorem use_new {P : Program} {g : FuncId} {ms : List MV} {σ : St} {o : MObj} {u : Nat → MV} {k : MV → St → Prop} (h : MCalls P g ms St.none fun v σ' => ∃ l, v = u l ∧ σ' = St.none.set l o) (hk : ∀ l, σ l = none → R (mlet (u l) (σ.set l o) k)) : R (mcallE P g ms σ k) :=
  use_frame h (St.none_le σ) fun v σ' hv hf => by
    obtain ⟨l, rfl, rfl⟩ := hv
    rw [minus_none, over_set, over_none]
    refine hk l ?_
    rcases hf l o (set_hit _ _ _) with h | ⟨o', h⟩
    · exact h
    · simp [St.none] at h

theorem nd_cinj {x y : ND} (h : x.c = y.c) : x = y := by
  obtain ⟨a, b, c, d, e⟩ := x
  obtain ⟨a', b', c', d', e'⟩ := y
  simp only [ND.c, List.cons.injEq, MV.int.injEq, MV.str.injEq, true_and, and_true] at h
  obtain ⟨rfl, rfl, rfl, rfl, rfl⟩ := h
  rfl
theorem nds_cinj : ∀ {l m : List ND}, l.map ND.c = m.map ND.c → l = m
  | [], [], _ => rfl
  | [], _ :: _, h => by simp at h
  | _ :: _, [], h => by simp at h
  | x :: l, y :: m, h => by
    rw [List.map_cons, List.map_cons, List.cons.injEq] at h
    rw [nd_cinj h.1, nds_cinj h.2]

/-- What pieces answers. -/
abbrev pcO (op : Int) (t : T) : MObj := .row 22 1 ((pcs op t).map tcell)
abbrev pcU (op : Int) (t : T) (l : Nat) : MV := .vec 1 l 0 (pcs op t).length
noncomputable def pcC (op : Int) (a b : T) : Know :=
  kn [(80, [.lst 5 (a.fl.map ND.c) false, .int .i64 op], ⟨[], fun _ => True, some (pcO op a, pcU op a)⟩), (80, [.lst 5 (b.fl.map ND.c) false, .int .i64 op], ⟨[], fun _ => True, some (pcO op b, pcU op b)⟩)]
theorem pcC_a {op : Int} {a b : T} : pcC op a b 80 [.lst 5 (a.fl.map ND.c) false, .int .i64 op] = some ⟨[], fun _ => True, some (pcO op a, pcU op a)⟩ := kn_hit
theorem pcC_b {op : Int} {a b : T} (ha : a.ok) (hb : b.ok) : pcC op a b 80 [.lst 5 (b.fl.map ND.c) false, .int .i64 op] = some ⟨[], fun _ => True, some (pcO op b, pcU op b)⟩ :=
  kn_skip (fun h => by
    have h := h.2
    simp only [List.cons.injEq, MV.lst.injEq, true_and, and_true] at h
    rw [fl_eq ha hb (nds_cinj h)]) kn_hit

set_option maxRecDepth 20000 in
set_option maxHeartbeats 2000000 in
theorem rpieces_call (op : Int) (hop : op = 11 ∨ op = 12) : ∀ t : T, t.ok → t.fl.length ≤ 1000 → MCalls Try.prog 80 [.lst 5 (t.fl.map ND.c) false, .int .i64 op] St.none (fun v σ' => ∃ l, v = pcU op t l ∧ σ' = St.none.set l (pcO op t))
  | .leaf x, h, hl => by
    refine MCalls.drops (MCalls.body 27 [.tmp 4] Try.func80 rfl rfl rfl rfl ?_)
    have hne : x.op ≠ op := fun e => by
      simp only [T.ok, e] at h
      rcases hop with rfl | rfl <;> (revert h; decide)
    have e : pcs op (.leaf x) = [.leaf x] := by rw [pcs]
    simp only [pcU, pcO, e, T.fl, List.map_cons, List.map_nil, List.length_cons, List.length_nil] at hl ⊢
    repeat' (first | ((with_reducible refine wT ?_); (first | (fail_if_success (have := nl1)); with_reducible refine wN fun nl1 hnl => ?_ | with_reducible refine wN fun _ hnl => ?_); revert hnl; (repeat with_reducible refine wS fun _ _ => ?_); intro hnl) | (with_reducible first | refine mdraw_plain mixed (by decide +kernel) ?_ | refine wI (fun h => ?_) (fun h => ?_) | refine wF (fun h => ?_) (fun h => ?_) | refine wG (fun h => ?_) (fun h => ?_) | refine wH (fun h => ?_) (fun h => ?_)) | (with_reducible refine mfork_bool (fun h => ?_) (fun h => ?_) <;> simp only [h]) | (with_reducible refine mgfork_bool (fun h => ?_) (fun h => ?_) <;> simp only [h]) | (simp (config := { maxSteps := 4000000 }) (disch := first | decide | assumption | omega | (simp only [wL]; omega)) only [go_sem, Nat.reduceAdd, Nat.reduceSub, Nat.reduceMul, Nat.reduceDiv, Nat.reduceMod, Nat.reduceLT, Nat.reduceLeDiff, Nat.reduceEqDiff, Nat.reduceSucc, Nat.reduceGT, Int.reduceAdd, Int.reduceSub, Int.reduceMul, Int.reduceNeg, Int.reduceLT, Int.reduceLE, Int.reduceEq, Int.reduceToNat, reduceIte, Try.f80]))
    exact ⟨_, St.le_refl _, _, rfl, rfl⟩
  | .one x a, h, hl => by
    refine MCalls.drops (MCalls.body 27 [.tmp 4] Try.func80 rfl rfl rfl rfl ?_)
    have h1 := parts_one h.1
    have hne : x.op ≠ op := by omega
    have e : pcs op (.one x a) = [.one x a] := by rw [pcs]
    simp only [pcU, pcO, e, List.map_cons, List.map_nil, List.length_cons, List.length_nil]
    simp only [T.fl] at hl ⊢
    repeat' (first | ((with_reducible refine wT ?_); (first | (fail_if_success (have := nl1)); with_reducible refine wN fun nl1 hnl => ?_ | with_reducible refine wN fun _ hnl => ?_); revert hnl; (repeat with_reducible refine wS fun _ _ => ?_); intro hnl) | (with_reducible first | refine mdraw_plain mixed (by decide +kernel) ?_ | refine wI (fun h => ?_) (fun h => ?_) | refine wF (fun h => ?_) (fun h => ?_) | refine wG (fun h => ?_) (fun h => ?_) | refine wH (fun h => ?_) (fun h => ?_)) | (with_reducible refine mfork_bool (fun h => ?_) (fun h => ?_) <;> simp only [h]) | (with_reducible refine mgfork_bool (fun h => ?_) (fun h => ?_) <;> simp only [h]) | (simp (config := { maxSteps := 4000000 }) (disch := first | decide | assumption | omega | (simp only [wL]; omega)) only [go_sem, Nat.reduceAdd, Nat.reduceSub, Nat.reduceMul, Nat.reduceDiv, Nat.reduceMod, Nat.reduceLT, Nat.reduceLeDiff, Nat.reduceEqDiff, Nat.reduceSucc, Nat.reduceGT, Int.reduceAdd, Int.reduceSub, Int.reduceMul, Int.reduceNeg, Int.reduceLT, Int.reduceLE, Int.reduceEq, Int.reduceToNat, reduceIte, Try.f80]))
    exact ⟨_, St.le_refl _, _, rfl, rfl⟩
  | .two x a b, h, hl => by
    refine MCalls.drops (MCalls.body 27 [.tmp 4] Try.func80 rfl rfl rfl rfl ?_)
    have hk := rkids_call (.two x a b) h hl false
    simp only [T.fl, T.kl, T.kids, List.map_cons, List.map_nil] at hl hk ⊢
    by_cases hop' : x.op = op
    · have hla : a.fl.length ≤ 1000 ∧ b.fl.length ≤ 1000 := by simp only [List.length_cons, List.length_append] at hl; omega
      have iha := rpieces_call op hop a h.2.1 hla.1
      have ihb := rpieces_call op hop b h.2.2 hla.2
      have e : pcs op (.two x a b) = pcs op a ++ pcs op b := by rw [pcs, if_pos hop']
      have hwa := Nat.le_trans (wgt_len _) (pcs_wgt (op := op) a)
      have hwb := Nat.le_trans (wgt_len _) (pcs_wgt (op := op) b)
      repeat' (first | (with_reducible refine use_pure hk ?_) | ((with_reducible refine wT ?_); (first | (fail_if_success (have := nl1)); with_reducible refine wN fun nl1 hnl => ?_ | with_reducible refine wN fun _ hnl => ?_); revert hnl; (repeat with_reducible refine wS fun _ _ => ?_); intro hnl) | (with_reducible first | refine mdraw_plain mixed (by decide +kernel) ?_ | refine wI (fun h => ?_) (fun h => ?_) | refine wF (fun h => ?_) (fun h => ?_) | refine wG (fun h => ?_) (fun h => ?_) | refine wH (fun h => ?_) (fun h => ?_)) | (with_reducible refine mfork_bool (fun h => ?_) (fun h => ?_) <;> simp only [h]) | (with_reducible refine mgfork_bool (fun h => ?_) (fun h => ?_) <;> simp only [h]) | (simp (config := { maxSteps := 4000000 }) (disch := first | decide | assumption | omega | (simp only [wL]; omega)) only [go_sem, Nat.reduceAdd, Nat.reduceSub, Nat.reduceMul, Nat.reduceDiv, Nat.reduceMod, Nat.reduceLT, Nat.reduceLeDiff, Nat.reduceEqDiff, Nat.reduceSucc, Nat.reduceGT, Int.reduceAdd, Int.reduceSub, Int.reduceMul, Int.reduceNeg, Int.reduceLT, Int.reduceLE, Int.reduceEq, Int.reduceToNat, reduceIte, Try.f80]))
      refine mdraw_know mixed (by decide +kernel) (pcC op a b) ?_
      repeat' (first | ((with_reducible refine wT ?_); (first | (fail_if_success (have := nl1)); with_reducible refine wN fun nl1 hnl => ?_ | with_reducible refine wN fun _ hnl => ?_); revert hnl; (repeat with_reducible refine wS fun _ _ => ?_); intro hnl) | (with_reducible first | refine mdraw_plain mixed (by decide +kernel) ?_ | refine wI (fun h => ?_) (fun h => ?_) | refine wF (fun h => ?_) (fun h => ?_) | refine wG (fun h => ?_) (fun h => ?_) | refine wH (fun h => ?_) (fun h => ?_)) | (with_reducible refine mfork_bool (fun h => ?_) (fun h => ?_) <;> simp only [h]) | (with_reducible refine mgfork_bool (fun h => ?_) (fun h => ?_) <;> simp only [h]) | (simp (config := { maxSteps := 4000000 }) (disch := first | decide | assumption | omega | (simp only [wL]; omega)) only [go_sem, Nat.reduceAdd, Nat.reduceSub, Nat.reduceMul, Nat.reduceDiv, Nat.reduceMod, Nat.reduceLT, Nat.reduceLeDiff, Nat.reduceEqDiff, Nat.reduceSucc, Nat.reduceGT, Int.reduceAdd, Int.reduceSub, Int.reduceMul, Int.reduceNeg, Int.reduceLT, Int.reduceLE, Int.reduceEq, Int.reduceToNat, reduceIte]))
      refine know_new pcC_a iha fun qa hqa => ?_
      repeat' (first | ((with_reducible refine wT ?_); (first | (fail_if_success (have := nl1)); with_reducible refine wN fun nl1 hnl => ?_ | with_reducible refine wN fun _ hnl => ?_); revert hnl; (repeat with_reducible refine wS fun _ _ => ?_); intro hnl) | (with_reducible first | refine mdraw_plain mixed (by decide +kernel) ?_ | refine wI (fun h => ?_) (fun h => ?_) | refine wF (fun h => ?_) (fun h => ?_) | refine wG (fun h => ?_) (fun h => ?_) | refine wH (fun h => ?_) (fun h => ?_)) | (with_reducible refine mfork_bool (fun h => ?_) (fun h => ?_) <;> simp only [h]) | (with_reducible refine mgfork_bool (fun h => ?_) (fun h => ?_) <;> simp only [h]) | (simp (config := { maxSteps := 4000000 }) (disch := first | decide | assumption | omega | (simp only [wL]; omega)) only [go_sem, Nat.reduceAdd, Nat.reduceSub, Nat.reduceMul, Nat.reduceDiv, Nat.reduceMod, Nat.reduceLT, Nat.reduceLeDiff, Nat.reduceEqDiff, Nat.reduceSucc, Nat.reduceGT, Int.reduceAdd, Int.reduceSub, Int.reduceMul, Int.reduceNeg, Int.reduceLT, Int.reduceLE, Int.reduceEq, Int.reduceToNat, reduceIte]))
      refine know_new (pcC_b h.2.1 h.2.2) ihb fun qb hqb => ?_
      revert hqb; (repeat (with_reducible refine set_none_intro fun _ _ => ?_)); intro hqb
      repeat' (first | ((with_reducible refine wT ?_); (first | (fail_if_success (have := nl1)); with_reducible refine wN fun nl1 hnl => ?_ | with_reducible refine wN fun _ hnl => ?_); revert hnl; (repeat with_reducible refine wS fun _ _ => ?_); intro hnl) | (with_reducible first | refine mdraw_plain mixed (by decide +kernel) ?_ | refine wI (fun h => ?_) (fun h => ?_) | refine wF (fun h => ?_) (fun h => ?_) | refine wG (fun h => ?_) (fun h => ?_) | refine wH (fun h => ?_) (fun h => ?_)) | (with_reducible refine mfork_bool (fun h => ?_) (fun h => ?_) <;> simp only [h]) | (with_reducible refine mgfork_bool (fun h => ?_) (fun h => ?_) <;> simp only [h]) | (simp (config := { maxSteps := 4000000 }) (disch := first | decide | assumption | omega | (simp only [wL]; omega)) only [go_sem, Nat.reduceAdd, Nat.reduceSub, Nat.reduceMul, Nat.reduceDiv, Nat.reduceMod, Nat.reduceLT, Nat.reduceLeDiff, Nat.reduceEqDiff, Nat.reduceSucc, Nat.reduceGT, Int.reduceAdd, Int.reduceSub, Int.reduceMul, Int.reduceNeg, Int.reduceLT, Int.reduceLE, Int.reduceEq, Int.reduceToNat, reduceIte, List.take_length, Nat.min_self]))
      refine ⟨St.none.set nl1 (pcO op (.two x a b)), St.set_le (St.none_le _) ((set_hit _ _ _).trans ?_), nl1, ?_, rfl⟩
      · rw [pcO, e]
      · rw [pcU, e, List.length_append]
    · have e : pcs op (.two x a b) = [.two x a b] := by rw [pcs, if_neg hop']
      simp only [pcU, pcO, e, List.map_cons, List.map_nil, List.length_cons, List.length_nil]
      repeat' (first | ((with_reducible refine wT ?_); (first | (fail_if_success (have := nl1)); with_reducible refine wN fun nl1 hnl => ?_ | with_reducible refine wN fun _ hnl => ?_); revert hnl; (repeat with_reducible refine wS fun _ _ => ?_); intro hnl) | (with_reducible first | refine mdraw_plain mixed (by decide +kernel) ?_ | refine wI (fun h => ?_) (fun h => ?_) | refine wF (fun h => ?_) (fun h => ?_) | refine wG (fun h => ?_) (fun h => ?_) | refine wH (fun h => ?_) (fun h => ?_)) | (with_reducible refine mfork_bool (fun h => ?_) (fun h => ?_) <;> simp only [h]) | (with_reducible refine mgfork_bool (fun h => ?_) (fun h => ?_) <;> simp only [h]) | (simp (config := { maxSteps := 4000000 }) (disch := first | decide | assumption | omega | (simp only [wL]; omega)) only [go_sem, Nat.reduceAdd, Nat.reduceSub, Nat.reduceMul, Nat.reduceDiv, Nat.reduceMod, Nat.reduceLT, Nat.reduceLeDiff, Nat.reduceEqDiff, Nat.reduceSucc, Nat.reduceGT, Int.reduceAdd, Int.reduceSub, Int.reduceMul, Int.reduceNeg, Int.reduceLT, Int.reduceLE, Int.reduceEq, Int.reduceToNat, reduceIte, Try.f80]))
      exact ⟨_, St.le_refl _, _, rfl, rfl⟩
end Go.Proofs.Ytielcgplbnlgbaa
end

section
/- Contracts of the document's Match, and of Large at cards: the conditions that the theorems name. -/
set_option linter.unusedVariables false
set_option linter.unusedSimpArgs false
namespace Go.Proofs.Ytielcgplbnlgbaa

/-- A card. -/
structure CD where
  id : Int
  ver : Int
  lab : Nat
  f : List VA
abbrev fcs (f : List VA) : List MV := (f.map VA.c).flatten
abbrev CD.c (c : CD) : List MV := .int .i64 c.id :: .int .i64 c.ver :: .int .u32 (c.lab : Int) :: fcs c.f

theorem fcs_len : ∀ f : List VA, (fcs f).length = 3 * f.length
  | [] => rfl
  | v :: f => by have := fcs_len f; simp only [fcs, List.map_cons, List.flatten_cons, List.length_append, List.length_cons, List.length_nil] at this ⊢; omega
theorem fcs_drop : ∀ (f : List VA) (i : Nat), (fcs f).drop (3 * i) = fcs (f.drop i)
  | f, 0 => by simp
  | [], i + 1 => by simp [fcs]
  | v :: f, i + 1 => by
    have := fcs_drop f i
    rw [show 3 * (i + 1) = 3 * i + 1 + 1 + 1 by omega]
    simp only [fcs, List.map_cons, List.flatten_cons, List.cons_append, List.nil_append, List.drop_succ_cons] at this ⊢
    exact this
theorem fcs_at {f : List VA} {i : Nat} (h : i < f.length) : (fcs f).drop (3 * i) = .int .i64 (f.getD i va0).kd :: .int .i64 (f.getD i va0).n :: .str (f.getD i va0).s :: fcs (f.drop (i + 1)) := by
  rw [fcs_drop, List.drop_eq_getElem_cons h, getD_of_lt va0 h]; rfl
theorem card_drop (c : CD) {i : Nat} (h : i < c.f.length) : c.c.drop (3 + i * 3) = .int .i64 (c.f.getD i va0).kd :: .int .i64 (c.f.getD i va0).n :: .str (c.f.getD i va0).s :: fcs (c.f.drop (i + 1)) := by
  rw [show 3 + i * 3 = 3 * i + 1 + 1 + 1 by omega]
  simp only [CD.c, List.drop_succ_cons]
  exact fcs_at h
theorem card_get (c : CD) {i : Nat} (h : i < c.f.length) {d : MV} : c.c.getD (3 + i * 3) d = .int .i64 (c.f.getD i va0).kd := by
  have := card_drop c h
  rw [List.getD_eq_getElem?_getD, ← List.head?_drop, this]; rfl
theorem card_take (c : CD) {i : Nat} (h : i < c.f.length) : (c.c.drop (3 + i * 3)).take 3 = (c.f.getD i va0).c := by
  rw [card_drop c h]; rfl
theorem fcs_cell : ∀ f : List VA, (fcs f).all MV.isCell = true
  | [] => rfl
  | v :: f => by
    have := fcs_cell f
    simp only [fcs, List.map_cons, List.flatten_cons, List.cons_append, List.nil_append, List.all_cons] at this ⊢
    rw [this]; rfl
theorem card_cell (c : CD) : c.c.all MV.isCell = true := by
  simp only [CD.c, List.all_cons, fcs_cell]; rfl
theorem card_len (c : CD) : c.c.length = 3 + 3 * c.f.length := by simp only [CD.c, List.length_cons, fcs_len]; omega

theorem va_decide {v w : VA} : decide (v.kd = w.kd ∧ v.n = w.n ∧ v.s = w.s) = decide (v = w) :=
  decide_eq_decide.2 ⟨fun ⟨h1, h2, h3⟩ => by cases v; cases w; simp only at h1 h2 h3; rw [h1, h2, h3], fun h => by rw [h]; exact ⟨rfl, rfl, rfl⟩⟩
def leafB (c : CD) (g : Nat) (n : ND) : Bool :=
  if n.op = 1 then true else if n.op = 3 then hasB c.lab n.n else if n.op = 4 then hasB g n.n
  else if n.op = 5 then !decide ((c.f.getD n.n.toNat va0).kd = 0)
  else if n.op = 6 then decide (c.f.getD n.n.toNat va0 = n.v)
  else if n.op = 7 then lessB (c.f.getD n.n.toNat va0) n.v
  else if n.op = 8 then lessB n.v (c.f.getD n.n.toNat va0)
  else if n.op = 9 then holdsB (c.f.getD n.n.toNat va0) n.v
  else false

structure CF (c : CD) : Prop where
  len : c.f.length = 8
  size : ∀ v, v ∈ c.f → v.s.size ≤ 1000000
  lab : c.lab < 4294967296

set_option maxHeartbeats 4000000 in
theorem rleaf_call (x : ND) (hx : ndOk x = true) (c : CD) (hc : CF c) (g : Nat) (hg : g < 4294967296) : MCalls Try.prog 39 [.agg x.c, .agg c.c, .int .u32 (g : Int)] St.none (fun r _ => r = .bool (leafB c g x)) := by
  refine (MCalls.body 73 [.tmp 6] Try.func39 rfl rfl rfl rfl ?_)
  have hlen := card_len c
  rw [hc.len] at hlen
  have hlab := rhas_call c.lab x.n hc.lab
  have hgrp := rhas_call g x.n hg
  have hcell := card_cell c
  obtain ⟨cells, hcells⟩ : ∃ cells, c.c = cells := ⟨_, rfl⟩
  by_cases h5 : 5 ≤ x.op ∧ x.op ≤ 9
  · have hn : 0 ≤ x.n ∧ x.n < 8 := by
      have h := hx
      have e : x.op = 5 ∨ x.op = 6 ∨ x.op = 7 ∨ x.op = 8 ∨ x.op = 9 := by omega
      rcases e with e | e | e | e | e <;> simp [ndOk, e] at h <;> omega
    obtain ⟨k, hk⟩ : ∃ k : Nat, x.n = k := ⟨x.n.toNat, by omega⟩
    have hk8 : k < 8 := by omega
    have hkl : k < c.f.length := by rw [hc.len]; omega
    have hget := card_get c hkl (d := .junk)
    have htake := card_take c hkl
    have hvm := getD_mem va0 hkl
    have hvs := hc.size _ hvm
    have hxs := ndOk_size hx
    have hle1 := rvless_call (c.f.getD k va0) x.v hvs hxs
    have hle2 := rvless_call x.v (c.f.getD k va0) hxs hvs
    have hho := rvholds_call (c.f.getD k va0) x.v hvs hxs
    have hlb : leafB c g x = (if x.op = 5 then !decide ((c.f.getD k va0).kd = 0)
      else if x.op = 6 then decide (c.f.getD k va0 = x.v)
      else if x.op = 7 then lessB (c.f.getD k va0) x.v
      else if x.op = 8 then lessB x.v (c.f.getD k va0)
      else holdsB (c.f.getD k va0) x.v) := by
      unfold leafB
      rw [if_neg (by omega), if_neg (by omega), if_neg (by omega), hk]
      simp only [Int.toNat_natCast]
      by_cases e5 : x.op = 5
      · rw [if_pos e5, if_pos e5]
      · rw [if_neg e5, if_neg e5]
        by_cases e6 : x.op = 6
        · rw [if_pos e6, if_pos e6]
        · rw [if_neg e6, if_neg e6]
          by_cases e7 : x.op = 7
          · rw [if_pos e7, if_pos e7]
          · rw [if_neg e7, if_neg e7]
            by_cases e8 : x.op = 8
            · rw [if_pos e8, if_pos e8]
            · rw [if_neg e8, if_neg e8, if_pos (by omega)]
    rw [hlb]
    rw [hcells] at hget htake hlen hcell ⊢
    clear hlab hgrp hlb
    generalize c.f.getD k va0 = v at hget htake hvs hle1 hle2 hho ⊢
    have hop : x.op = 5 ∨ x.op = 6 ∨ x.op = 7 ∨ x.op = 8 ∨ x.op = 9 := by omega
    rcases hop with h | h | h | h | h
    all_goals
      simp (config := { decide := true }) only [h, if_true, if_false]
      repeat' (first | (with_reducible first | refine up hle1 ?_ | refine up hle2 ?_ | refine up hho ?_) | ((with_reducible refine wT ?_); (with_reducible refine wN fun _ hnl => ?_); revert hnl; (repeat with_reducible refine wS fun _ _ => ?_); intro hnl) | (with_reducible first | refine mdraw_plain mixed (by decide +kernel) ?_ | refine wI (fun h => ?_) (fun h => ?_) | refine wF (fun h => ?_) (fun h => ?_) | refine wG (fun h => ?_) (fun h => ?_) | refine wH (fun h => ?_) (fun h => ?_)) | (with_reducible refine mfork_bool (fun h => ?_) (fun h => ?_) <;> simp only [h]) | (with_reducible refine mgfork_bool (fun h => ?_) (fun h => ?_) <;> simp only [h]) | (simp (config := { maxSteps := 4000000 }) (disch := first | decide | assumption | omega | (simp only [wL]; omega)) only [go_sem, Nat.reduceAdd, Nat.reduceSub, Nat.reduceMul, Nat.reduceDiv, Nat.reduceMod, Nat.reduceLT, Nat.reduceLeDiff, Nat.reduceEqDiff, Nat.reduceSucc, Nat.reduceGT, Int.reduceAdd, Int.reduceSub, Int.reduceMul, Int.reduceNeg, Int.reduceLT, Int.reduceLE, Int.reduceEq, Int.reduceToNat, reduceIte, Try.f39, h, hk, hget, htake, hlen, hcell]))
    · exact va_decide
    · refine mdraw_know mixed (by decide +kernel) (fun _ _ => some ⟨[], fun r => r = .bool (lessB v x.v), none⟩) ?_
      repeat' (first | (with_reducible refine know_pure rfl hle1 ?_) | ((with_reducible refine wT ?_); (with_reducible refine wN fun _ hnl => ?_); revert hnl; (repeat with_reducible refine wS fun _ _ => ?_); intro hnl) | (with_reducible first | refine mdraw_plain mixed (by decide +kernel) ?_ | refine wI (fun h => ?_) (fun h => ?_) | refine wF (fun h => ?_) (fun h => ?_) | refine wG (fun h => ?_) (fun h => ?_) | refine wH (fun h => ?_) (fun h => ?_)) | (with_reducible refine mfork_bool (fun h => ?_) (fun h => ?_) <;> simp only [h]) | (with_reducible refine mgfork_bool (fun h => ?_) (fun h => ?_) <;> simp only [h]) | (simp (config := { maxSteps := 4000000 }) (disch := first | decide | assumption | omega | (simp only [wL]; omega)) only [go_sem, Nat.reduceAdd, Nat.reduceSub, Nat.reduceMul, Nat.reduceDiv, Nat.reduceMod, Nat.reduceLT, Nat.reduceLeDiff, Nat.reduceEqDiff, Nat.reduceSucc, Nat.reduceGT, Int.reduceAdd, Int.reduceSub, Int.reduceMul, Int.reduceNeg, Int.reduceLT, Int.reduceLE, Int.reduceEq, Int.reduceToNat, reduceIte, h, hk, hget, htake, hlen, hcell]))
    · refine mdraw_know mixed (by decide +kernel) (fun _ _ => some ⟨[], fun r => r = .bool (lessB x.v v), none⟩) ?_
      repeat' (first | (with_reducible refine know_pure rfl hle2 ?_) | ((with_reducible refine wT ?_); (with_reducible refine wN fun _ hnl => ?_); revert hnl; (repeat with_reducible refine wS fun _ _ => ?_); intro hnl) | (with_reducible first | refine mdraw_plain mixed (by decide +kernel) ?_ | refine wI (fun h => ?_) (fun h => ?_) | refine wF (fun h => ?_) (fun h => ?_) | refine wG (fun h => ?_) (fun h => ?_) | refine wH (fun h => ?_) (fun h => ?_)) | (with_reducible refine mfork_bool (fun h => ?_) (fun h => ?_) <;> simp only [h]) | (with_reducible refine mgfork_bool (fun h => ?_) (fun h => ?_) <;> simp only [h]) | (simp (config := { maxSteps := 4000000 }) (disch := first | decide | assumption | omega | (simp only [wL]; omega)) only [go_sem, Nat.reduceAdd, Nat.reduceSub, Nat.reduceMul, Nat.reduceDiv, Nat.reduceMod, Nat.reduceLT, Nat.reduceLeDiff, Nat.reduceEqDiff, Nat.reduceSucc, Nat.reduceGT, Int.reduceAdd, Int.reduceSub, Int.reduceMul, Int.reduceNeg, Int.reduceLT, Int.reduceLE, Int.reduceEq, Int.reduceToNat, reduceIte, h, hk, hget, htake, hlen, hcell]))
    · refine mdraw_know mixed (by decide +kernel) (fun _ _ => some ⟨[], fun r => r = .bool (holdsB v x.v), none⟩) ?_
      repeat' (first | (with_reducible refine know_pure rfl hho ?_) | ((with_reducible refine wT ?_); (with_reducible refine wN fun _ hnl => ?_); revert hnl; (repeat with_reducible refine wS fun _ _ => ?_); intro hnl) | (with_reducible first | refine mdraw_plain mixed (by decide +kernel) ?_ | refine wI (fun h => ?_) (fun h => ?_) | refine wF (fun h => ?_) (fun h => ?_) | refine wG (fun h => ?_) (fun h => ?_) | refine wH (fun h => ?_) (fun h => ?_)) | (with_reducible refine mfork_bool (fun h => ?_) (fun h => ?_) <;> simp only [h]) | (with_reducible refine mgfork_bool (fun h => ?_) (fun h => ?_) <;> simp only [h]) | (simp (config := { maxSteps := 4000000 }) (disch := first | decide | assumption | omega | (simp only [wL]; omega)) only [go_sem, Nat.reduceAdd, Nat.reduceSub, Nat.reduceMul, Nat.reduceDiv, Nat.reduceMod, Nat.reduceLT, Nat.reduceLeDiff, Nat.reduceEqDiff, Nat.reduceSucc, Nat.reduceGT, Int.reduceAdd, Int.reduceSub, Int.reduceMul, Int.reduceNeg, Int.reduceLT, Int.reduceLE, Int.reduceEq, Int.reduceToNat, reduceIte, h, hk, hget, htake, hlen, hcell]))
  · have hlb : leafB c g x = (if x.op = 1 then true else if x.op = 3 then hasB c.lab x.n else if x.op = 4 then hasB g x.n else false) := by
      unfold leafB
      rw [if_neg (show ¬ x.op = 5 by omega), if_neg (show ¬ x.op = 6 by omega), if_neg (show ¬ x.op = 7 by omega), if_neg (show ¬ x.op = 8 by omega), if_neg (show ¬ x.op = 9 by omega)]
    rw [hlb]
    have hff := fcs_cell c.f
    have hfl := fcs_len c.f
    rw [hc.len] at hfl
    simp only [CD.c]
    generalize fcs c.f = ff at hff hfl ⊢
    have n5 : x.op ≠ 5 := by omega
    have n6 : x.op ≠ 6 := by omega
    have n7 : x.op ≠ 7 := by omega
    have n8 : x.op ≠ 8 := by omega
    have n9 : x.op ≠ 9 := by omega
    clear hlb hcell hcells hlen h5
    by_cases e1 : x.op = 1
    · rw [if_pos e1]
      repeat' (first | (with_reducible first | refine up hlab ?_ | refine up hgrp ?_) | ((with_reducible refine wT ?_); (with_reducible refine wN fun _ hnl => ?_); revert hnl; (repeat with_reducible refine wS fun _ _ => ?_); intro hnl) | (with_reducible first | refine mdraw_plain mixed (by decide +kernel) ?_ | refine wI (fun h => ?_) (fun h => ?_) | refine wF (fun h => ?_) (fun h => ?_) | refine wG (fun h => ?_) (fun h => ?_) | refine wH (fun h => ?_) (fun h => ?_)) | (with_reducible refine mfork_bool (fun h => ?_) (fun h => ?_) <;> simp only [h]) | (with_reducible refine mgfork_bool (fun h => ?_) (fun h => ?_) <;> simp only [h]) | (simp (config := { maxSteps := 4000000 }) (disch := first | decide | assumption | omega | (simp only [wL]; omega)) only [go_sem, Nat.reduceAdd, Nat.reduceSub, Nat.reduceMul, Nat.reduceDiv, Nat.reduceMod, Nat.reduceLT, Nat.reduceLeDiff, Nat.reduceEqDiff, Nat.reduceSucc, Nat.reduceGT, Int.reduceAdd, Int.reduceSub, Int.reduceMul, Int.reduceNeg, Int.reduceLT, Int.reduceLE, Int.reduceEq, Int.reduceToNat, reduceIte, Try.f39, hff, hfl]))
    · rw [if_neg e1]
      by_cases e3 : x.op = 3
      · rw [if_pos e3]
        repeat' (first | (with_reducible first | refine up hlab ?_ | refine up hgrp ?_) | ((with_reducible refine wT ?_); (with_reducible refine wN fun _ hnl => ?_); revert hnl; (repeat with_reducible refine wS fun _ _ => ?_); intro hnl) | (with_reducible first | refine mdraw_plain mixed (by decide +kernel) ?_ | refine wI (fun h => ?_) (fun h => ?_) | refine wF (fun h => ?_) (fun h => ?_) | refine wG (fun h => ?_) (fun h => ?_) | refine wH (fun h => ?_) (fun h => ?_)) | (with_reducible refine mfork_bool (fun h => ?_) (fun h => ?_) <;> simp only [h]) | (with_reducible refine mgfork_bool (fun h => ?_) (fun h => ?_) <;> simp only [h]) | (simp (config := { maxSteps := 4000000 }) (disch := first | decide | assumption | omega | (simp only [wL]; omega)) only [go_sem, Nat.reduceAdd, Nat.reduceSub, Nat.reduceMul, Nat.reduceDiv, Nat.reduceMod, Nat.reduceLT, Nat.reduceLeDiff, Nat.reduceEqDiff, Nat.reduceSucc, Nat.reduceGT, Int.reduceAdd, Int.reduceSub, Int.reduceMul, Int.reduceNeg, Int.reduceLT, Int.reduceLE, Int.reduceEq, Int.reduceToNat, reduceIte, Try.f39, hff, hfl]))
      · rw [if_neg e3]
        by_cases e4 : x.op = 4
        · rw [if_pos e4]
          repeat' (first | (with_reducible first | refine up hlab ?_ | refine up hgrp ?_) | ((with_reducible refine wT ?_); (with_reducible refine wN fun _ hnl => ?_); revert hnl; (repeat with_reducible refine wS fun _ _ => ?_); intro hnl) | (with_reducible first | refine mdraw_plain mixed (by decide +kernel) ?_ | refine wI (fun h => ?_) (fun h => ?_) | refine wF (fun h => ?_) (fun h => ?_) | refine wG (fun h => ?_) (fun h => ?_) | refine wH (fun h => ?_) (fun h => ?_)) | (with_reducible refine mfork_bool (fun h => ?_) (fun h => ?_) <;> simp only [h]) | (with_reducible refine mgfork_bool (fun h => ?_) (fun h => ?_) <;> simp only [h]) | (simp (config := { maxSteps := 4000000 }) (disch := first | decide | assumption | omega | (simp only [wL]; omega)) only [go_sem, Nat.reduceAdd, Nat.reduceSub, Nat.reduceMul, Nat.reduceDiv, Nat.reduceMod, Nat.reduceLT, Nat.reduceLeDiff, Nat.reduceEqDiff, Nat.reduceSucc, Nat.reduceGT, Int.reduceAdd, Int.reduceSub, Int.reduceMul, Int.reduceNeg, Int.reduceLT, Int.reduceLE, Int.reduceEq, Int.reduceToNat, reduceIte, Try.f39, hff, hfl]))
        · rw [if_neg e4]
          repeat' (first | (with_reducible first | refine up hlab ?_ | refine up hgrp ?_) | ((with_reducible refine wT ?_); (with_reducible refine wN fun _ hnl => ?_); revert hnl; (repeat with_reducible refine wS fun _ _ => ?_); intro hnl) | (with_reducible first | refine mdraw_plain mixed (by decide +kernel) ?_ | refine wI (fun h => ?_) (fun h => ?_) | refine wF (fun h => ?_) (fun h => ?_) | refine wG (fun h => ?_) (fun h => ?_) | refine wH (fun h => ?_) (fun h => ?_)) | (with_reducible refine mfork_bool (fun h => ?_) (fun h => ?_) <;> simp only [h]) | (with_reducible refine mgfork_bool (fun h => ?_) (fun h => ?_) <;> simp only [h]) | (simp (config := { maxSteps := 4000000 }) (disch := first | decide | assumption | omega | (simp only [wL]; omega)) only [go_sem, Nat.reduceAdd, Nat.reduceSub, Nat.reduceMul, Nat.reduceDiv, Nat.reduceMod, Nat.reduceLT, Nat.reduceLeDiff, Nat.reduceEqDiff, Nat.reduceSucc, Nat.reduceGT, Int.reduceAdd, Int.reduceSub, Int.reduceMul, Int.reduceNeg, Int.reduceLT, Int.reduceLE, Int.reduceEq, Int.reduceToNat, reduceIte, Try.f39, hff, hfl]))

set_option maxHeartbeats 8000000 in
theorem rmatch_call (c : CD) (hc : CF c) (g : Nat) (hg : g < 4294967296) : ∀ (t : T), Good t → t.fl.length ≤ 1000 → ∀ (tt : Bool),
    MCalls Try.prog 20 [.lst 5 (t.fl.map ND.c) tt, .agg c.c, .int .u32 (g : Int)] St.none (fun r _ => r = .bool (t.sem (leafB c g)))
  | .leaf x, h, hl, tt => by
    refine (MCalls.body 61 [.tmp 6] Try.func20 rfl rfl rfl rfl ?_)
    have hk := rkids_call (.leaf x) h.1 hl tt
    have hp : x.op ≠ 10 ∧ x.op ≠ 11 ∧ x.op ≠ 12 := by
      refine ⟨fun e => ?_, fun e => ?_, fun e => ?_⟩ <;> (have h := h.1; simp only [T.ok, e] at h; revert h; decide)
    obtain ⟨p1, p2, p3⟩ := hp
    have hlf := rleaf_call x (h.2 x (by simp [T.fl])) c hc g hg
    have hcell := card_cell c
    have hlen := card_len c
    rw [hc.len] at hlen
    have ht27 : List.take 27 c.c = c.c := List.take_of_length_le (by omega)
    have e : (T.leaf x).sem (leafB c g) = leafB c g x := by
      by_cases h1 : x.op = 1
      · simp [T.sem, leafB, h1]
      · by_cases h2 : x.op = 2
        · simp [T.sem, leafB, h2]
        · simp [T.sem, h1, h2]
    rw [e]
    generalize c.c = cells at hcell hlen ht27 hlf ⊢
    simp only [T.fl, T.kl, T.kids, List.map_cons, List.map_nil] at hk ⊢
    repeat' (first | (with_reducible first | refine up hk ?_ | refine up hlf ?_) | ((with_reducible refine wT ?_); (with_reducible refine wN fun _ hnl => ?_); revert hnl; (repeat with_reducible refine wS fun _ _ => ?_); intro hnl) | (with_reducible first | refine mdraw_plain mixed (by decide +kernel) ?_ | refine wI (fun h => ?_) (fun h => ?_) | refine wF (fun h => ?_) (fun h => ?_) | refine wG (fun h => ?_) (fun h => ?_) | refine wH (fun h => ?_) (fun h => ?_)) | (with_reducible refine mfork_bool (fun h => ?_) (fun h => ?_) <;> simp only [h]) | (with_reducible refine mgfork_bool (fun h => ?_) (fun h => ?_) <;> simp only [h]) | (simp (config := { maxSteps := 4000000 }) (disch := first | decide | assumption | omega | (simp only [wL]; omega)) only [go_sem, Nat.reduceAdd, Nat.reduceSub, Nat.reduceMul, Nat.reduceDiv, Nat.reduceMod, Nat.reduceLT, Nat.reduceLeDiff, Nat.reduceEqDiff, Nat.reduceSucc, Nat.reduceGT, Int.reduceAdd, Int.reduceSub, Int.reduceMul, Int.reduceNeg, Int.reduceLT, Int.reduceLE, Int.reduceEq, Int.reduceToNat, reduceIte, Try.f20, hcell, hlen]))
    refine mdraw_know mixed (by decide +kernel) (fun _ _ => some ⟨[], fun r => r = .bool (leafB c g x), none⟩) ?_
    repeat' (first | (with_reducible refine know_pure rfl hlf ?_) | ((with_reducible refine wT ?_); (with_reducible refine wN fun _ hnl => ?_); revert hnl; (repeat with_reducible refine wS fun _ _ => ?_); intro hnl) | (with_reducible first | refine mdraw_plain mixed (by decide +kernel) ?_ | refine wI (fun h => ?_) (fun h => ?_) | refine wF (fun h => ?_) (fun h => ?_) | refine wG (fun h => ?_) (fun h => ?_) | refine wH (fun h => ?_) (fun h => ?_)) | (with_reducible refine mfork_bool (fun h => ?_) (fun h => ?_) <;> simp only [h]) | (with_reducible refine mgfork_bool (fun h => ?_) (fun h => ?_) <;> simp only [h]) | (simp (config := { maxSteps := 4000000 }) (disch := first | decide | assumption | omega | (simp only [wL]; omega)) only [go_sem, Nat.reduceAdd, Nat.reduceSub, Nat.reduceMul, Nat.reduceDiv, Nat.reduceMod, Nat.reduceLT, Nat.reduceLeDiff, Nat.reduceEqDiff, Nat.reduceSucc, Nat.reduceGT, Int.reduceAdd, Int.reduceSub, Int.reduceMul, Int.reduceNeg, Int.reduceLT, Int.reduceLE, Int.reduceEq, Int.reduceToNat, reduceIte, hcell, hlen, ht27]))
  | .one x a, h, hl, tt => by
    refine (MCalls.body 61 [.tmp 6] Try.func20 rfl rfl rfl rfl ?_)
    have hk := rkids_call (.one x a) h.1 hl tt
    have h1 := parts_one h.1.1
    have hla : a.fl.length ≤ 1000 := by simp only [T.fl, List.length_cons] at hl; omega
    have ih := rmatch_call c hc g hg a (good_one.1 h).2.2 hla false
    have hcell := card_cell c
    have hlen := card_len c
    rw [hc.len] at hlen
    have ht27 : List.take 27 c.c = c.c := List.take_of_length_le (by omega)
    generalize c.c = cells at hcell hlen ht27 ih ⊢
    simp only [T.fl, T.kl, T.kids, List.map_cons, List.map_nil] at hk ⊢
    repeat' (first | (with_reducible first | refine up hk ?_ | refine up ih ?_) | ((with_reducible refine wT ?_); (with_reducible refine wN fun _ hnl => ?_); revert hnl; (repeat with_reducible refine wS fun _ _ => ?_); intro hnl) | (with_reducible first | refine mdraw_plain mixed (by decide +kernel) ?_ | refine wI (fun h => ?_) (fun h => ?_) | refine wF (fun h => ?_) (fun h => ?_) | refine wG (fun h => ?_) (fun h => ?_) | refine wH (fun h => ?_) (fun h => ?_)) | (with_reducible refine mfork_bool (fun h => ?_) (fun h => ?_) <;> simp only [h]) | (with_reducible refine mgfork_bool (fun h => ?_) (fun h => ?_) <;> simp only [h]) | (simp (config := { maxSteps := 4000000 }) (disch := first | decide | assumption | omega | (simp only [wL]; omega)) only [go_sem, Nat.reduceAdd, Nat.reduceSub, Nat.reduceMul, Nat.reduceDiv, Nat.reduceMod, Nat.reduceLT, Nat.reduceLeDiff, Nat.reduceEqDiff, Nat.reduceSucc, Nat.reduceGT, Int.reduceAdd, Int.reduceSub, Int.reduceMul, Int.reduceNeg, Int.reduceLT, Int.reduceLE, Int.reduceEq, Int.reduceToNat, reduceIte, Try.f20, h1, hcell, hlen]))
    refine mdraw_know mixed (by decide +kernel) (fun _ _ => some ⟨[], fun r => r = .bool (a.sem (leafB c g)), none⟩) ?_
    repeat' (first | (with_reducible refine know_pure rfl ih ?_) | ((with_reducible refine wT ?_); (with_reducible refine wN fun _ hnl => ?_); revert hnl; (repeat with_reducible refine wS fun _ _ => ?_); intro hnl) | (with_reducible first | refine mdraw_plain mixed (by decide +kernel) ?_ | refine wI (fun h => ?_) (fun h => ?_) | refine wF (fun h => ?_) (fun h => ?_) | refine wG (fun h => ?_) (fun h => ?_) | refine wH (fun h => ?_) (fun h => ?_)) | (with_reducible refine mfork_bool (fun h => ?_) (fun h => ?_) <;> simp only [h]) | (with_reducible refine mgfork_bool (fun h => ?_) (fun h => ?_) <;> simp only [h]) | (simp (config := { maxSteps := 4000000 }) (disch := first | decide | assumption | omega | (simp only [wL]; omega)) only [go_sem, Nat.reduceAdd, Nat.reduceSub, Nat.reduceMul, Nat.reduceDiv, Nat.reduceMod, Nat.reduceLT, Nat.reduceLeDiff, Nat.reduceEqDiff, Nat.reduceSucc, Nat.reduceGT, Int.reduceAdd, Int.reduceSub, Int.reduceMul, Int.reduceNeg, Int.reduceLT, Int.reduceLE, Int.reduceEq, Int.reduceToNat, reduceIte, hcell, hlen, ht27]))
    simp [T.sem]
  | .two x a b, h, hl, tt => by
    refine (MCalls.body 61 [.tmp 6] Try.func20 rfl rfl rfl rfl ?_)
    have hk := rkids_call (.two x a b) h.1 hl tt
    obtain ⟨q1, _, ga, gb⟩ := good_two.1 h
    have hla : a.fl.length ≤ 1000 ∧ b.fl.length ≤ 1000 := by simp only [T.fl, List.length_cons, List.length_append] at hl; omega
    have iha := rmatch_call c hc g hg a ga hla.1 false
    have ihb := rmatch_call c hc g hg b gb hla.2 false
    have hs : (T.two x a b).sem (leafB c g) = if x.op = 11 then a.sem (leafB c g) && b.sem (leafB c g) else a.sem (leafB c g) || b.sem (leafB c g) := by
      by_cases e : x.op = 11 <;> simp [T.sem, e]
    rw [hs]
    have hcell := card_cell c
    have hlen := card_len c
    rw [hc.len] at hlen
    have ht27 : List.take 27 c.c = c.c := List.take_of_length_le (by omega)
    generalize c.c = cells at hcell hlen ht27 iha ihb ⊢
    obtain ⟨C, hC⟩ : ∃ C, C = kn [(20, [.lst 5 (a.fl.map ND.c) false, .agg cells, .int .u32 (g : Int)], ⟨[], fun v => v = .bool (a.sem (leafB c g)), none⟩), (20, [.lst 5 (b.fl.map ND.c) false, .agg cells, .int .u32 (g : Int)], ⟨[], fun v => v = .bool (b.sem (leafB c g)), none⟩)] := ⟨_, rfl⟩
    have fa : C 20 [.lst 5 (a.fl.map ND.c) false, .agg cells, .int .u32 (g : Int)] = some ⟨[], fun v => v = .bool (a.sem (leafB c g)), none⟩ := by rw [hC]; exact kn_hit
    have fb : C 20 [.lst 5 (b.fl.map ND.c) false, .agg cells, .int .u32 (g : Int)] = some ⟨[], fun v => v = .bool (b.sem (leafB c g)), none⟩ := by
      rw [hC]
      refine kn_skip (fun h => ?_) kn_hit
      have h := h.2
      simp only [List.cons.injEq, MV.lst.injEq, true_and, and_true] at h
      rw [fl_eq ga.1 gb.1 (nds_cinj h)]
    clear hC hs
    generalize a.sem (leafB c g) = sa at iha fa ⊢
    generalize b.sem (leafB c g) = sb at ihb fb ⊢
    simp only [T.fl, T.kl, T.kids, List.map_cons, List.map_nil] at hk ⊢
    rcases parts_two q1 with h1 | h1 <;> rw [h1]
    · rw [if_pos rfl]
      cases sa
      all_goals
        repeat' (first | (with_reducible first | refine up hk ?_ | refine up iha ?_ | refine up ihb ?_) | ((with_reducible refine wT ?_); (with_reducible refine wN fun _ hnl => ?_); revert hnl; (repeat with_reducible refine wS fun _ _ => ?_); intro hnl) | (with_reducible first | refine mdraw_plain mixed (by decide +kernel) ?_ | refine wI (fun h => ?_) (fun h => ?_) | refine wF (fun h => ?_) (fun h => ?_) | refine wG (fun h => ?_) (fun h => ?_) | refine wH (fun h => ?_) (fun h => ?_)) | (with_reducible refine mfork_bool (fun h => ?_) (fun h => ?_) <;> simp only [h]) | (with_reducible refine mgfork_bool (fun h => ?_) (fun h => ?_) <;> simp only [h]) | (simp (config := { maxSteps := 4000000 }) (disch := first | decide | assumption | omega | (simp only [wL]; omega)) only [go_sem, Nat.reduceAdd, Nat.reduceSub, Nat.reduceMul, Nat.reduceDiv, Nat.reduceMod, Nat.reduceLT, Nat.reduceLeDiff, Nat.reduceEqDiff, Nat.reduceSucc, Nat.reduceGT, Int.reduceAdd, Int.reduceSub, Int.reduceMul, Int.reduceNeg, Int.reduceLT, Int.reduceLE, Int.reduceEq, Int.reduceToNat, reduceIte, Try.f20, h1, hcell, hlen]))
        refine mdraw_know mixed (by decide +kernel) C ?_
        repeat' (first | (with_reducible refine know_pure fa iha ?_) | (with_reducible refine know_pure fb ihb ?_) | ((with_reducible refine wT ?_); (with_reducible refine wN fun _ hnl => ?_); revert hnl; (repeat with_reducible refine wS fun _ _ => ?_); intro hnl) | (with_reducible first | refine mdraw_plain mixed (by decide +kernel) ?_ | refine wI (fun h => ?_) (fun h => ?_) | refine wF (fun h => ?_) (fun h => ?_) | refine wG (fun h => ?_) (fun h => ?_) | refine wH (fun h => ?_) (fun h => ?_)) | (with_reducible refine mfork_bool (fun h => ?_) (fun h => ?_) <;> simp only [h]) | (with_reducible refine mgfork_bool (fun h => ?_) (fun h => ?_) <;> simp only [h]) | (simp (config := { maxSteps := 4000000 }) (disch := first | decide | assumption | omega | (simp only [wL]; omega)) only [go_sem, Nat.reduceAdd, Nat.reduceSub, Nat.reduceMul, Nat.reduceDiv, Nat.reduceMod, Nat.reduceLT, Nat.reduceLeDiff, Nat.reduceEqDiff, Nat.reduceSucc, Nat.reduceGT, Int.reduceAdd, Int.reduceSub, Int.reduceMul, Int.reduceNeg, Int.reduceLT, Int.reduceLE, Int.reduceEq, Int.reduceToNat, reduceIte, hcell, hlen, ht27]))
        all_goals (first | rfl | (cases sb <;> rfl))
    · rw [if_neg (by decide)]
      cases sa
      all_goals
        repeat' (first | (with_reducible first | refine up hk ?_ | refine up iha ?_ | refine up ihb ?_) | ((with_reducible refine wT ?_); (with_reducible refine wN fun _ hnl => ?_); revert hnl; (repeat with_reducible refine wS fun _ _ => ?_); intro hnl) | (with_reducible first | refine mdraw_plain mixed (by decide +kernel) ?_ | refine wI (fun h => ?_) (fun h => ?_) | refine wF (fun h => ?_) (fun h => ?_) | refine wG (fun h => ?_) (fun h => ?_) | refine wH (fun h => ?_) (fun h => ?_)) | (with_reducible refine mfork_bool (fun h => ?_) (fun h => ?_) <;> simp only [h]) | (with_reducible refine mgfork_bool (fun h => ?_) (fun h => ?_) <;> simp only [h]) | (simp (config := { maxSteps := 4000000 }) (disch := first | decide | assumption | omega | (simp only [wL]; omega)) only [go_sem, Nat.reduceAdd, Nat.reduceSub, Nat.reduceMul, Nat.reduceDiv, Nat.reduceMod, Nat.reduceLT, Nat.reduceLeDiff, Nat.reduceEqDiff, Nat.reduceSucc, Nat.reduceGT, Int.reduceAdd, Int.reduceSub, Int.reduceMul, Int.reduceNeg, Int.reduceLT, Int.reduceLE, Int.reduceEq, Int.reduceToNat, reduceIte, Try.f20, h1, hcell, hlen]))
        refine mdraw_know mixed (by decide +kernel) C ?_
        repeat' (first | (with_reducible refine know_pure fa iha ?_) | (with_reducible refine know_pure fb ihb ?_) | ((with_reducible refine wT ?_); (with_reducible refine wN fun _ hnl => ?_); revert hnl; (repeat with_reducible refine wS fun _ _ => ?_); intro hnl) | (with_reducible first | refine mdraw_plain mixed (by decide +kernel) ?_ | refine wI (fun h => ?_) (fun h => ?_) | refine wF (fun h => ?_) (fun h => ?_) | refine wG (fun h => ?_) (fun h => ?_) | refine wH (fun h => ?_) (fun h => ?_)) | (with_reducible refine mfork_bool (fun h => ?_) (fun h => ?_) <;> simp only [h]) | (with_reducible refine mgfork_bool (fun h => ?_) (fun h => ?_) <;> simp only [h]) | (simp (config := { maxSteps := 4000000 }) (disch := first | decide | assumption | omega | (simp only [wL]; omega)) only [go_sem, Nat.reduceAdd, Nat.reduceSub, Nat.reduceMul, Nat.reduceDiv, Nat.reduceMod, Nat.reduceLT, Nat.reduceLeDiff, Nat.reduceEqDiff, Nat.reduceSucc, Nat.reduceGT, Int.reduceAdd, Int.reduceSub, Int.reduceMul, Int.reduceNeg, Int.reduceLT, Int.reduceLE, Int.reduceEq, Int.reduceToNat, reduceIte, hcell, hlen, ht27]))
        all_goals (first | rfl | (cases sb <;> rfl))
end Go.Proofs.Ytielcgplbnlgbaa
end

section
/- Contract of logic.column: the conditions that the theorem names. -/
set_option linter.unusedVariables false
set_option linter.unusedSimpArgs false
namespace Go.Proofs.Ytielcgplbnlgbaa

/-- A table's cells. -/
def tabM (h : Nat → Nat) : List MV := (List.range 16).map fun i => .int .u64 (h i : Int)
abbrev tabV (f : Nat → Bool) : MV := .agg (tabM (tw f))

theorem tabM_len (h : Nat → Nat) : (tabM h).length = 16 := by simp [tabM]
theorem tabM_get {h : Nat → Nat} {i : Nat} (hi : i < 16) {d : MV} : (tabM h).getD i d = .int .u64 (h i : Int) := by
  simp [tabM, List.getD, hi]
theorem tabM_get1 {h : Nat → Nat} {i : Nat} (hi : i < 16) {d : MV} : (tabM h).getD (i * 1) d = .int .u64 (h i : Int) := by
  rw [Nat.mul_one]; exact tabM_get hi
theorem tabM_ext {h g : Nat → Nat} (e : ∀ i, i < 16 → h i = g i) : tabM h = tabM g := by
  unfold tabM
  exact List.map_congr_left fun i hi => by rw [e i (List.mem_range.1 hi)]
theorem tabM_all (h : Nat → Nat) : (tabM h).all MV.isCell = true := by simp [tabM, MV.isCell]
theorem tabM_take (h : Nat → Nat) : (tabM h).take 16 = tabM h := List.take_of_length_le (by rw [tabM_len]; omega)
theorem tabM_drop (h : Nat → Nat) : (tabM h).drop 16 = [] := List.drop_of_length_le (by rw [tabM_len]; omega)
theorem tabM_laid {h : Nat → Nat} {i v : Nat} (hi : i < 16) : (tabM h).take i ++ (MV.int .u64 (v : Int) :: (tabM h).drop (i + 1)) = tabM (fun k => if k = i then v else h k) := by
  apply List.ext_getElem?
  intro k
  have h1 : ((tabM h).take i).length = i := by rw [List.length_take, tabM_len]; omega
  rcases Nat.lt_trichotomy k i with hk | hk | hk
  · rw [List.getElem?_append_left (by omega), List.getElem?_take, if_pos hk]
    simp [tabM, show k < 16 by omega, Nat.ne_of_lt hk]
  · subst hk
    rw [List.getElem?_append_right (by omega), h1, Nat.sub_self]
    simp [tabM, hi]
  · rw [List.getElem?_append_right (by omega), h1]
    obtain ⟨j, rfl⟩ : ∃ j, k = i + 1 + j := ⟨k - (i + 1), by omega⟩
    rw [show i + 1 + j - i = j + 1 by omega, List.getElem?_cons_succ, List.getElem?_drop]
    by_cases hk16 : i + 1 + j < 16
    · simp [tabM, hk16, show i + 1 + j ≠ i by omega]
    · simp [tabM, hk16]

theorem fdiv_nat (i k : Nat) : ((i : Int)).fdiv (2 ^ k) = ((i / 2 ^ k : Nat) : Int) := by
  rw [Int.fdiv_eq_ediv_of_nonneg _ (Int.pow_nonneg (by omega))]
  exact_mod_cast rfl

theorem bit_of (i k b : Nat) (hi : i < 2 ^ b) : i / 2 ^ (min k b) % 2 = if i.testBit k = true then 1 else 0 := by
  have e : i / 2 ^ (min k b) % 2 = i / 2 ^ k % 2 := by
    rcases Nat.le_total k b with h | h
    · rw [Nat.min_eq_left h]
    · rw [Nat.min_eq_right h, Nat.div_eq_of_lt hi, Nat.div_eq_of_lt (Nat.lt_of_lt_of_le hi (Nat.pow_le_pow_right (by omega) h))]
  rw [e]
  by_cases h : i.testBit k = true
  · rw [if_pos h]
    simpa [Nat.testBit_eq_decide_div_mod_eq] using h
  · rw [if_neg h]
    rw [Nat.testBit_eq_decide_div_mod_eq, decide_eq_true_eq] at h
    omega

theorem bit_i64 (i k : Nat) (hi : i < 9223372036854775808) : andK .i64 (((i : Int)).fdiv (2 ^ min k 64)) 1 = if i.testBit k = true then 1 else 0 := by
  show IntKind.i64.wrap (((BitVec.ofInt 64 (((i : Int)).fdiv (2 ^ min k 64)) &&& BitVec.ofInt 64 1).toNat : Nat) : Int) = _
  rw [fdiv_nat, BitVec.ofInt_natCast, BitVec.toNat_and, BitVec.toNat_ofNat, show (BitVec.ofInt 64 1).toNat = 2 ^ 1 - 1 by decide, Nat.and_two_pow_sub_one_eq_mod, Nat.mod_eq_of_lt (Nat.lt_of_le_of_lt (Nat.div_le_self ..) (by omega)), show 2 ^ 1 = 2 by decide, bit_of i k 64 (by omega)]
  split <;> rfl

theorem bit_u32 (i k : Nat) (hi : i < 4294967296) : andK .u32 (((i : Int)).fdiv (2 ^ min k 32)) 1 = if i.testBit k = true then 1 else 0 := by
  show IntKind.u32.wrap (((BitVec.ofInt 32 (((i : Int)).fdiv (2 ^ min k 32)) &&& BitVec.ofInt 32 1).toNat : Nat) : Int) = _
  rw [fdiv_nat, BitVec.ofInt_natCast, BitVec.toNat_and, BitVec.toNat_ofNat, show (BitVec.ofInt 32 1).toNat = 2 ^ 1 - 1 by decide, Nat.and_two_pow_sub_one_eq_mod, Nat.mod_eq_of_lt (Nat.lt_of_le_of_lt (Nat.div_le_self ..) (by omega)), show 2 ^ 1 = 2 by decide, bit_of i k 32 (by omega)]
  split <;> rfl

def row6 : List MV := [.int .u64 12297829382473034410, .int .u64 14757395258967641292, .int .u64 17361641481138401520, .int .u64 18374966859414961920, .int .u64 18446462603027742720, .int .u64 18446744069414584320]
theorem row6_get {p : Nat} (hp : p < 6) {d : MV} : row6.getD p d = .int .u64 ((wd (fun j => j.testBit p) 64 : Nat) : Int) := by
  have h : p = 0 ∨ p = 1 ∨ p = 2 ∨ p = 3 ∨ p = 4 ∨ p = 5 := by omega
  rcases h with rfl | rfl | rfl | rfl | rfl | rfl
  · rw [show wd (fun j => j.testBit 0) 64 = 12297829382473034410 by decide +kernel]; rfl
  · rw [show wd (fun j => j.testBit 1) 64 = 14757395258967641292 by decide +kernel]; rfl
  · rw [show wd (fun j => j.testBit 2) 64 = 17361641481138401520 by decide +kernel]; rfl
  · rw [show wd (fun j => j.testBit 3) 64 = 18374966859414961920 by decide +kernel]; rfl
  · rw [show wd (fun j => j.testBit 4) 64 = 18446462603027742720 by decide +kernel]; rfl
  · rw [show wd (fun j => j.testBit 5) 64 = 18446744069414584320 by decide +kernel]; rfl

theorem tw_col (p i : Nat) : tw (fun on => on.testBit p) i = if p < 6 then wd (fun j => j.testBit p) 64 else if i.testBit (p - 6) = true then 18446744073709551615 else 0 := by
  unfold tw
  split
  · rename_i h
    exact wd_ext fun j hj => by show (64 * i + j).testBit p = _; rw [add_bit hj, if_pos h]
  · rename_i h
    split
    · rename_i h2
      rw [show (18446744073709551615 : Nat) = 2 ^ 64 - 1 by decide, ← wd_ones]
      exact wd_ext fun j hj => by show (64 * i + j).testBit p = _; rw [add_bit hj, if_neg h, h2]
    · rename_i h2
      rw [← wd_zero 64]
      exact wd_ext fun j hj => by show (64 * i + j).testBit p = _; rw [add_bit hj, if_neg h]; simpa using h2

theorem ofNat_lt {w : Nat} (h : w < 18446744073709551616) : (BitVec.ofInt 64 (w : Int)).toNat = w := by
  rw [BitVec.ofInt_natCast, BitVec.toNat_ofNat, Nat.mod_eq_of_lt (by omega)]
theorem wrap_u64 {w : Nat} (h : w < 18446744073709551616) : IntKind.u64.wrap (w : Int) = w := by
  simp only [IntKind.wrap, IntKind.signed, IntKind.bits]
  simp
  omega
theorem and_u64 {a b : Nat} (ha : a < 18446744073709551616) (hb : b < 18446744073709551616) : andK .u64 (a : Int) (b : Int) = ((a &&& b : Nat) : Int) := by
  show IntKind.u64.wrap (((BitVec.ofInt 64 (a : Int) &&& BitVec.ofInt 64 (b : Int)).toNat : Nat) : Int) = _
  rw [BitVec.toNat_and, ofNat_lt ha, ofNat_lt hb]
  exact wrap_u64 (Nat.and_lt_two_pow _ (n := 64) (by omega))
theorem or_u64 {a b : Nat} (ha : a < 18446744073709551616) (hb : b < 18446744073709551616) : orK .u64 (a : Int) (b : Int) = ((a ||| b : Nat) : Int) := by
  show IntKind.u64.wrap (((BitVec.ofInt 64 (a : Int) ||| BitVec.ofInt 64 (b : Int)).toNat : Nat) : Int) = _
  rw [BitVec.toNat_or, ofNat_lt ha, ofNat_lt hb]
  exact wrap_u64 (Nat.or_lt_two_pow (n := 64) (by omega) (by omega))
theorem not_u64 {a : Nat} (ha : a < 18446744073709551616) : notK .u64 (a : Int) = (((2 ^ 64 - 1) ^^^ a : Nat) : Int) := by
  show IntKind.u64.wrap (((BitVec.ofInt 64 18446744073709551615 ^^^ BitVec.ofInt 64 (a : Int)).toNat : Nat) : Int) = _
  rw [BitVec.toNat_xor, ofNat_lt ha, show (BitVec.ofInt 64 18446744073709551615).toNat = 2 ^ 64 - 1 by decide]
  exact wrap_u64 (Nat.xor_lt_two_pow (n := 64) (by omega) (by omega))
theorem andNot_u64 {a b : Nat} (ha : a < 18446744073709551616) (hb : b < 18446744073709551616) : andNotK .u64 (a : Int) (b : Int) = ((a &&& ((2 ^ 64 - 1) ^^^ b) : Nat) : Int) := by
  show IntKind.u64.wrap (((BitVec.ofInt 64 (a : Int) &&& ~~~BitVec.ofInt 64 (b : Int)).toNat : Nat) : Int) = _
  have e : (~~~BitVec.ofInt 64 (b : Int)) = BitVec.allOnes 64 ^^^ BitVec.ofInt 64 (b : Int) := by rw [BitVec.allOnes_xor]
  rw [e, BitVec.toNat_and, BitVec.toNat_xor, ofNat_lt ha, ofNat_lt hb, BitVec.toNat_allOnes]
  exact wrap_u64 (Nat.and_lt_two_pow _ (n := 64) (Nat.xor_lt_two_pow (by omega) (by omega)))
theorem tw_not (f : Nat → Bool) (i : Nat) : notK .u64 (tw f i : Int) = (tw (fun on => !f on) i : Int) := by
  rw [not_u64 (tw_lt f i)]
  exact congrArg _ (wd_not _ 64)
theorem tw_and (f g : Nat → Bool) (i : Nat) : andK .u64 (tw f i : Int) (tw g i : Int) = (tw (fun on => f on && g on) i : Int) := by
  rw [and_u64 (tw_lt f i) (tw_lt g i)]
  exact congrArg _ (wd_and _ _ 64)
theorem tw_or (f g : Nat → Bool) (i : Nat) : orK .u64 (tw f i : Int) (tw g i : Int) = (tw (fun on => f on || g on) i : Int) := by
  rw [or_u64 (tw_lt f i) (tw_lt g i)]
  exact congrArg _ (wd_or _ _ 64)
theorem tw_andNot (f g : Nat → Bool) (i : Nat) : andNotK .u64 (tw f i : Int) (tw g i : Int) = (tw (fun on => f on && !g on) i : Int) := by
  rw [andNot_u64 (tw_lt f i) (tw_lt g i)]
  exact congrArg _ ((congrArg (tw f i &&& ·) (wd_not _ 64)).trans (wd_and _ _ 64))
theorem tw_false (i : Nat) : tw (fun _ => false) i = 0 := wd_zero 64
theorem tw_zero {f : Nat → Bool} {i : Nat} : tw f i = 0 ↔ ∀ j, j < 64 → f (64 * i + j) = false := wd_iff0

set_option maxHeartbeats 2000000 in
theorem column_call (p : Nat) (hp : p ≤ 1000000) : MCalls Try.prog 78 [.int .i64 (p : Int)] St.none (fun r _ => r = tabV fun on => on.testBit p) := by
  refine (MCalls.body 30 [.cell 2 54] Try.func78 rfl rfl rfl rfl ?_)
  repeat' (first | ((with_reducible refine wN fun nl hnl => ?_); revert hnl; (repeat with_reducible refine wS fun _ _ => ?_); intro hnl) | (with_reducible first | refine mdraw_plain mixed (by decide +kernel) ?_ | refine wI (fun h => ?_) (fun h => ?_) | refine wF (fun h => ?_) (fun h => ?_) | refine wG (fun h => ?_) (fun h => ?_) | refine wH (fun h => ?_) (fun h => ?_)) | (with_reducible refine mfork_bool (fun h => ?_) (fun h => ?_) <;> simp only [h]) | (with_reducible refine mgfork_bool (fun h => ?_) (fun h => ?_) <;> simp only [h]) | (simp (config := { maxSteps := 4000000 }) (disch := first | decide | assumption | omega | (simp only [wL]; omega)) only [go_sem, Nat.reduceAdd, Nat.reduceSub, Nat.reduceMul, Nat.reduceDiv, Nat.reduceMod, Nat.reduceLT, Nat.reduceLeDiff, Nat.reduceEqDiff, Nat.reduceSucc, Nat.reduceGT, Int.reduceAdd, Int.reduceSub, Int.reduceMul, Int.reduceNeg, Int.reduceLT, Int.reduceLE, Int.reduceEq, Int.reduceToNat, reduceIte, Try.f78]))
  rename_i n1 _ n2 _ _ _ _ _ _ _
  refine mloop_intro (α := Nat) (fun i => ⟨30, [(7, .int .i64 (i : Int)), (4, .ptr nl 0 0), (3, .ptr n2 0 0), (2, .ptr n1 0 0), (0, .int .i64 (p : Int))], []⟩)
    (fun i => ((St.none.set n1 (.row 54 16 [tabM fun _ => 0])).set n2 (.row 54 16 [tabM fun k => if k < i then tw (fun on => on.testBit p) k else 0])).set nl (.row 111 6 [row6]))
    (fun i => i ≤ 16) (fun i => 16 - i) (.of (.less ?_ (St.le_refl _)) ⟨0, rfl, rfl, by omega⟩) ?_
  · simp (config := { maxSteps := 4000000 }) (disch := first | decide | assumption | omega | (simp only [wL]; omega)) only [go_sem, Nat.reduceAdd, Nat.reduceSub, Nat.reduceMul, Nat.reduceDiv, Nat.reduceMod, Nat.reduceLT, Nat.reduceLeDiff, Nat.reduceEqDiff, Nat.reduceSucc, Nat.reduceGT, Int.reduceAdd, Int.reduceSub, Int.reduceMul, Int.reduceNeg, Int.reduceLT, Int.reduceLE, Int.reduceEq, Int.reduceToNat, reduceIte, weak_int, weak_same]
    rfl
  · intro i hi
    have hl6 : row6.length = 6 := rfl
    have step : ∀ v : Nat, i < 16 → v = tw (fun on => on.testBit p) i → (tabM fun k => if k = i then v else if k < i then tw (fun on => on.testBit p) k else 0) = tabM fun k => if k < i + 1 then tw (fun on => on.testBit p) k else 0 := by
      intro v hlt hv
      refine tabM_ext fun k hk => ?_
      by_cases h1 : k = i
      · subst h1; rw [if_pos rfl, if_pos (by omega), hv]
      · rw [if_neg h1]
        by_cases h2 : k < i
        · rw [if_pos h2, if_pos (by omega)]
        · rw [if_neg h2, if_neg (by omega)]
    by_cases hlt : i < 16
    · by_cases h6 : p < 6
      · have hg := row6_get h6 (d := MV.junk)
        repeat' (first | ((with_reducible refine wN fun nl hnl => ?_); revert hnl; (repeat with_reducible refine wS fun _ _ => ?_); intro hnl) | (with_reducible first | refine mdraw_plain mixed (by decide +kernel) ?_ | refine wI (fun h => ?_) (fun h => ?_) | refine wF (fun h => ?_) (fun h => ?_) | refine wG (fun h => ?_) (fun h => ?_) | refine wH (fun h => ?_) (fun h => ?_)) | (with_reducible refine mfork_bool (fun h => ?_) (fun h => ?_) <;> simp only [h]) | (with_reducible refine mgfork_bool (fun h => ?_) (fun h => ?_) <;> simp only [h]) | (simp (config := { maxSteps := 4000000 }) (disch := first | decide | assumption | omega | (simp only [wL]; omega)) only [go_sem, Nat.reduceAdd, Nat.reduceSub, Nat.reduceMul, Nat.reduceDiv, Nat.reduceMod, Nat.reduceLT, Nat.reduceLeDiff, Nat.reduceEqDiff, Nat.reduceSucc, Nat.reduceGT, Int.reduceAdd, Int.reduceSub, Int.reduceMul, Int.reduceNeg, Int.reduceLT, Int.reduceLE, Int.reduceEq, Int.reduceToNat, reduceIte, Nat.mul_one, hg, hl6, tabM_len, List.append_assoc, tabM_laid hlt]))
        refine .of (.less ?_ ?_) ⟨i + 1, rfl, rfl, by omega, by omega⟩
        · simp (config := { maxSteps := 4000000 }) (disch := first | decide | assumption | omega | (simp only [wL]; omega)) only [go_sem, Nat.reduceAdd, Nat.reduceSub, Nat.reduceMul, Nat.reduceDiv, Nat.reduceMod, Nat.reduceLT, Nat.reduceLeDiff, Nat.reduceEqDiff, Nat.reduceSucc, Nat.reduceGT, Int.reduceAdd, Int.reduceSub, Int.reduceMul, Int.reduceNeg, Int.reduceLT, Int.reduceLE, Int.reduceEq, Int.reduceToNat, reduceIte, weak_int, weak_same]
          all_goals rfl
        · rw [← step _ hlt (by rw [tw_col, if_pos h6])]
          exact St.le_refl _
      · have hb := bit_i64 i (p - 6) (by omega)
        have e6 : ((p : Int) - 6).toNat = p - 6 := by omega
        cases hbt : i.testBit (p - 6)
        · rw [hbt, if_neg (by simp)] at hb
          repeat' (first | ((with_reducible refine wN fun nl hnl => ?_); revert hnl; (repeat with_reducible refine wS fun _ _ => ?_); intro hnl) | (with_reducible first | refine mdraw_plain mixed (by decide +kernel) ?_ | refine wI (fun h => ?_) (fun h => ?_) | refine wF (fun h => ?_) (fun h => ?_) | refine wG (fun h => ?_) (fun h => ?_) | refine wH (fun h => ?_) (fun h => ?_)) | (with_reducible refine mfork_bool (fun h => ?_) (fun h => ?_) <;> simp only [h]) | (with_reducible refine mgfork_bool (fun h => ?_) (fun h => ?_) <;> simp only [h]) | (simp (config := { maxSteps := 4000000 }) (disch := first | decide | assumption | omega | (simp only [wL]; omega)) only [go_sem, Nat.reduceAdd, Nat.reduceSub, Nat.reduceMul, Nat.reduceDiv, Nat.reduceMod, Nat.reduceLT, Nat.reduceLeDiff, Nat.reduceEqDiff, Nat.reduceSucc, Nat.reduceGT, Int.reduceAdd, Int.reduceSub, Int.reduceMul, Int.reduceNeg, Int.reduceLT, Int.reduceLE, Int.reduceEq, Int.reduceToNat, reduceIte, Nat.mul_one, hl6, tabM_len, List.append_assoc, tabM_laid hlt, e6]))
          · refine .of (.less ?_ ?_) ⟨i + 1, rfl, rfl, by omega, by omega⟩
            · simp (config := { maxSteps := 4000000 }) (disch := first | decide | assumption | omega | (simp only [wL]; omega)) only [go_sem, Nat.reduceAdd, Nat.reduceSub, Nat.reduceMul, Nat.reduceDiv, Nat.reduceMod, Nat.reduceLT, Nat.reduceLeDiff, Nat.reduceEqDiff, Nat.reduceSucc, Nat.reduceGT, Int.reduceAdd, Int.reduceSub, Int.reduceMul, Int.reduceNeg, Int.reduceLT, Int.reduceLE, Int.reduceEq, Int.reduceToNat, reduceIte, weak_int, weak_same]
              all_goals rfl
            · rw [← step 0 hlt (by rw [tw_col, if_neg h6, hbt, if_neg (by simp)])]
              rw [show (tabM fun k => if k = i then 0 else if k < i then tw (fun on => on.testBit p) k else 0) = tabM fun k => if k < i then tw (fun on => on.testBit p) k else 0 from tabM_ext fun k hk => by
                by_cases h1 : k = i
                · subst h1; rw [if_pos rfl, if_neg (by omega)]
                · rw [if_neg h1]]
              exact St.le_refl _
        · rw [hbt, if_pos rfl] at hb
          repeat' (first | ((with_reducible refine wN fun nl hnl => ?_); revert hnl; (repeat with_reducible refine wS fun _ _ => ?_); intro hnl) | (with_reducible first | refine mdraw_plain mixed (by decide +kernel) ?_ | refine wI (fun h => ?_) (fun h => ?_) | refine wF (fun h => ?_) (fun h => ?_) | refine wG (fun h => ?_) (fun h => ?_) | refine wH (fun h => ?_) (fun h => ?_)) | (with_reducible refine mfork_bool (fun h => ?_) (fun h => ?_) <;> simp only [h]) | (with_reducible refine mgfork_bool (fun h => ?_) (fun h => ?_) <;> simp only [h]) | (simp (config := { maxSteps := 4000000 }) (disch := first | decide | assumption | omega | (simp only [wL]; omega)) only [go_sem, Nat.reduceAdd, Nat.reduceSub, Nat.reduceMul, Nat.reduceDiv, Nat.reduceMod, Nat.reduceLT, Nat.reduceLeDiff, Nat.reduceEqDiff, Nat.reduceSucc, Nat.reduceGT, Int.reduceAdd, Int.reduceSub, Int.reduceMul, Int.reduceNeg, Int.reduceLT, Int.reduceLE, Int.reduceEq, Int.reduceToNat, reduceIte, Nat.mul_one, hl6, tabM_len, List.append_assoc, tabM_laid hlt, e6]))
          · refine .of (.less ?_ ?_) ⟨i + 1, rfl, rfl, by omega, by omega⟩
            · simp (config := { maxSteps := 4000000 }) (disch := first | decide | assumption | omega | (simp only [wL]; omega)) only [go_sem, Nat.reduceAdd, Nat.reduceSub, Nat.reduceMul, Nat.reduceDiv, Nat.reduceMod, Nat.reduceLT, Nat.reduceLeDiff, Nat.reduceEqDiff, Nat.reduceSucc, Nat.reduceGT, Int.reduceAdd, Int.reduceSub, Int.reduceMul, Int.reduceNeg, Int.reduceLT, Int.reduceLE, Int.reduceEq, Int.reduceToNat, reduceIte, weak_int, weak_same]
              all_goals rfl
            · rw [← step _ hlt (by rw [tw_col, if_neg h6, hbt, if_pos rfl])]
              rw [← tabM_laid hlt]
              exact St.le_refl _
    · have : i = 16 := by omega
      subst this
      repeat' (first | ((with_reducible refine wN fun nl hnl => ?_); revert hnl; (repeat with_reducible refine wS fun _ _ => ?_); intro hnl) | (with_reducible first | refine mdraw_plain mixed (by decide +kernel) ?_ | refine wI (fun h => ?_) (fun h => ?_) | refine wF (fun h => ?_) (fun h => ?_) | refine wG (fun h => ?_) (fun h => ?_) | refine wH (fun h => ?_) (fun h => ?_)) | (with_reducible refine mfork_bool (fun h => ?_) (fun h => ?_) <;> simp only [h]) | (with_reducible refine mgfork_bool (fun h => ?_) (fun h => ?_) <;> simp only [h]) | (simp (config := { maxSteps := 4000000 }) (disch := first | decide | assumption | omega | (simp only [wL]; omega)) only [go_sem, Nat.reduceAdd, Nat.reduceSub, Nat.reduceMul, Nat.reduceDiv, Nat.reduceMod, Nat.reduceLT, Nat.reduceLeDiff, Nat.reduceEqDiff, Nat.reduceSucc, Nat.reduceGT, Int.reduceAdd, Int.reduceSub, Int.reduceMul, Int.reduceNeg, Int.reduceLT, Int.reduceLE, Int.reduceEq, Int.reduceToNat, reduceIte, tabM_len, tabM_all, tabM_take, tabM_drop, Nat.min_self]))
      exact congrArg MV.agg (tabM_ext fun k hk => if_pos hk)
end Go.Proofs.Ytielcgplbnlgbaa
end

section
/- Contract of logic.filled: the conditions that the theorem names. -/
set_option linter.unusedVariables false
set_option linter.unusedSimpArgs false
namespace Go.Proofs.Ytielcgplbnlgbaa

theorem tabM_step {h g : Nat → Nat} {i : Nat} (hi : i < 16) : (tabM fun k => if k < i then h k else g k).take i ++ (MV.int .u64 (h i : Int) :: (tabM fun k => if k < i then h k else g k).drop (i + 1)) = tabM fun k => if k < i + 1 then h k else g k := by
  rw [tabM_laid hi]
  refine tabM_ext fun k hk => ?_
  by_cases h1 : k = i
  · subst h1; rw [if_pos rfl, if_pos (by omega)]
  · rw [if_neg h1]
    by_cases h2 : k < i
    · rw [if_pos h2, if_pos (by omega)]
    · rw [if_neg h2, if_neg (by omega)]
theorem tabM_done {h g : Nat → Nat} : (tabM fun k => if k < 16 then h k else g k) = tabM h := tabM_ext fun k hk => if_pos hk
theorem tabM_at {h g : Nat → Nat} {i : Nat} (hi : i < 16) {d : MV} : (tabM fun k => if k < i then h k else g k).getD i d = .int .u64 (g i : Int) := by
  rw [tabM_get hi, if_neg (by omega)]

theorem tabM_upd {h g : Nat → Nat} {i : Nat} (hi : i < 16) : (tabM fun k => if k = i then h i else if k < i then h k else g k) = tabM fun k => if k < i + 1 then h k else g k := by
  refine tabM_ext fun k hk => ?_
  by_cases h1 : k = i
  · subst h1; rw [if_pos rfl, if_pos (by omega)]
  · rw [if_neg h1]
    by_cases h2 : k < i
    · rw [if_pos h2, if_pos (by omega)]
    · rw [if_neg h2, if_neg (by omega)]
theorem tabM_upd2 {h g : Nat → Nat} {i v : Nat} (hi : i < 16) : (tabM fun k => if k = i then h i else if k = i then v else if k < i then h k else g k) = tabM fun k => if k < i + 1 then h k else g k := by
  rw [← tabM_upd hi]
  refine tabM_ext fun k hk => ?_
  by_cases h1 : k = i
  · rw [if_pos h1, if_pos h1]
  · rw [if_neg h1, if_neg h1, if_neg h1]
abbrev tz : List MV := tabM (tw fun _ => false)
theorem zero16 : [MV.int IntKind.u64 0, MV.int IntKind.u64 0, MV.int IntKind.u64 0, MV.int IntKind.u64 0, MV.int IntKind.u64 0, MV.int IntKind.u64 0, MV.int IntKind.u64 0, MV.int IntKind.u64 0, MV.int IntKind.u64 0, MV.int IntKind.u64 0, MV.int IntKind.u64 0, MV.int IntKind.u64 0, MV.int IntKind.u64 0, MV.int IntKind.u64 0, MV.int IntKind.u64 0, MV.int IntKind.u64 0] = tz := by
  rw [tz, show (tw fun _ => false) = fun _ => 0 from funext fun i => tw_false i]; rfl
theorem tz_start {h : Nat → Nat} : tz = tabM fun k => if k < 0 then h k else tw (fun _ => false) k := tabM_ext fun k hk => by rw [if_neg (by omega)]

def asP (l : List ND) (on : Nat) (x : ND) : Bool := on.testBit (posK l x)

set_option maxHeartbeats 8000000 in
theorem filled_call (al : List ND) (la : al.length ≤ 100000) (hr : Rising (al.map ND.key)) (ta : Bool) : ∀ (t : T), t.ok → ∀ (r : List ND) (tt : Bool), (t.fl ++ r).length ≤ 100000 →
    MCalls Try.prog 57 [.lst 5 ((t.fl ++ r).map ND.c) tt, .lst 5 (al.map ND.c) ta] St.none (fun v _ => v = .tup [tabV fun on => t.sem (asP al on), .lst 5 (r.map ND.c) tt])
  | .leaf x, h, r, tt, hl => by
    refine (MCalls.body 115 [.cell 4 54, .tmp 5] Try.func57 rfl rfl rfl rfl ?_)
    simp only [T.fl, List.cons_append, List.nil_append] at hl ⊢
    have hp : x.op ≠ 10 ∧ x.op ≠ 11 ∧ x.op ≠ 12 := by
      refine ⟨fun e => ?_, fun e => ?_, fun e => ?_⟩ <;> (simp only [T.ok, e] at h; revert h; decide)
    obtain ⟨p1, p2, p3⟩ := hp
    have hg : ((x :: r).map ND.c).getD 0 [] = x.c := rfl
    by_cases h2 : x.op = 2
    · have e : (tabV fun on => (T.leaf x).sem (asP al on)) = .agg tz := by simp [T.sem, h2]
      rw [e]
      repeat' (first | ((with_reducible refine wT ?_); (first | (fail_if_success (have := nl1)); with_reducible refine wN fun nl1 hnl => ?_ | (fail_if_success (have := nl2)); with_reducible refine wN fun nl2 hnl => ?_ | (fail_if_success (have := nl3)); with_reducible refine wN fun nl3 hnl => ?_ | (fail_if_success (have := nl4)); with_reducible refine wN fun nl4 hnl => ?_ | (fail_if_success (have := nl5)); with_reducible refine wN fun nl5 hnl => ?_ | with_reducible refine wN fun _ hnl => ?_); revert hnl; (repeat with_reducible refine wS fun _ _ => ?_); intro hnl) | (with_reducible first | refine mdraw_plain mixed (by decide +kernel) ?_ | refine wI (fun h => ?_) (fun h => ?_) | refine wF (fun h => ?_) (fun h => ?_) | refine wG (fun h => ?_) (fun h => ?_) | refine wH (fun h => ?_) (fun h => ?_)) | (with_reducible refine mfork_bool (fun h => ?_) (fun h => ?_) <;> simp only [h]) | (with_reducible refine mgfork_bool (fun h => ?_) (fun h => ?_) <;> simp only [h]) | (simp (config := { maxSteps := 4000000 }) (disch := first | decide | assumption | omega | (simp only [wL]; omega)) only [go_sem, Nat.reduceAdd, Nat.reduceSub, Nat.reduceMul, Nat.reduceDiv, Nat.reduceMod, Nat.reduceLT, Nat.reduceLeDiff, Nat.reduceEqDiff, Nat.reduceSucc, Nat.reduceGT, Int.reduceAdd, Int.reduceSub, Int.reduceMul, Int.reduceNeg, Int.reduceLT, Int.reduceLE, Int.reduceEq, Int.reduceToNat, reduceIte, Try.f57, hg, h2, List.drop_succ_cons, List.drop_zero, zero16, tabM_len, tabM_all, tabM_take, tabM_drop, Nat.min_self]))
    · by_cases h1 : x.op = 1
      · have e : (tabV fun on => (T.leaf x).sem (asP al on)) = tabV fun _ => true := by simp [T.sem, h1]
        rw [e]
        repeat' (first | ((with_reducible refine wT ?_); (first | (fail_if_success (have := nl1)); with_reducible refine wN fun nl1 hnl => ?_ | (fail_if_success (have := nl2)); with_reducible refine wN fun nl2 hnl => ?_ | (fail_if_success (have := nl3)); with_reducible refine wN fun nl3 hnl => ?_ | (fail_if_success (have := nl4)); with_reducible refine wN fun nl4 hnl => ?_ | (fail_if_success (have := nl5)); with_reducible refine wN fun nl5 hnl => ?_ | with_reducible refine wN fun _ hnl => ?_); revert hnl; (repeat with_reducible refine wS fun _ _ => ?_); intro hnl) | (with_reducible first | refine mdraw_plain mixed (by decide +kernel) ?_ | refine wI (fun h => ?_) (fun h => ?_) | refine wF (fun h => ?_) (fun h => ?_) | refine wG (fun h => ?_) (fun h => ?_) | refine wH (fun h => ?_) (fun h => ?_)) | (with_reducible refine mfork_bool (fun h => ?_) (fun h => ?_) <;> simp only [h]) | (with_reducible refine mgfork_bool (fun h => ?_) (fun h => ?_) <;> simp only [h]) | (simp (config := { maxSteps := 4000000 }) (disch := first | decide | assumption | omega | (simp only [wL]; omega)) only [go_sem, Nat.reduceAdd, Nat.reduceSub, Nat.reduceMul, Nat.reduceDiv, Nat.reduceMod, Nat.reduceLT, Nat.reduceLeDiff, Nat.reduceEqDiff, Nat.reduceSucc, Nat.reduceGT, Int.reduceAdd, Int.reduceSub, Int.reduceMul, Int.reduceNeg, Int.reduceLT, Int.reduceLE, Int.reduceEq, Int.reduceToNat, reduceIte, Try.f57, hg, h1, List.drop_succ_cons, List.drop_zero, zero16, tabM_len, tabM_all, tabM_take, tabM_drop, Nat.min_self]))
        refine mloop_intro (α := Nat) (fun i => ⟨115, [(32, .int .i64 (i : Int)), (8, .ptr nl3 0 0), (7, .lst 5 (r.map ND.c) tt), (4, .ptr nl1 0 0)], []⟩)
          (fun i => ((St.none.set nl1 (.row 54 16 [tz])).set nl2 (.row 49 5 [(⟨1, x.n, x.v⟩ : ND).c])).set nl3 (.row 54 16 [tabM fun k => if k < i then tw (fun _ => true) k else tw (fun _ => false) k]))
          (fun i => i ≤ 16) (fun i => 16 - i) (.of (.less ?_ (by rw [← tz_start]; exact St.le_refl _)) ⟨0, rfl, rfl, by omega⟩) ?_
        · simp (config := { maxSteps := 4000000 }) (disch := first | decide | assumption | omega | (simp only [wL]; omega)) only [go_sem, Nat.reduceAdd, Nat.reduceSub, Nat.reduceMul, Nat.reduceDiv, Nat.reduceMod, Nat.reduceLT, Nat.reduceLeDiff, Nat.reduceEqDiff, Nat.reduceSucc, Nat.reduceGT, Int.reduceAdd, Int.reduceSub, Int.reduceMul, Int.reduceNeg, Int.reduceLT, Int.reduceLE, Int.reduceEq, Int.reduceToNat, reduceIte, weak_int, weak_same]
          rfl
        · intro i hi
          by_cases hlt : i < 16
          · have hn := tw_not (fun _ => false) i
            simp only [Bool.not_false] at hn
            repeat' (first | ((with_reducible refine wT ?_); (first | (fail_if_success (have := nl1)); with_reducible refine wN fun nl1 hnl => ?_ | (fail_if_success (have := nl2)); with_reducible refine wN fun nl2 hnl => ?_ | (fail_if_success (have := nl3)); with_reducible refine wN fun nl3 hnl => ?_ | (fail_if_success (have := nl4)); with_reducible refine wN fun nl4 hnl => ?_ | (fail_if_success (have := nl5)); with_reducible refine wN fun nl5 hnl => ?_ | with_reducible refine wN fun _ hnl => ?_); revert hnl; (repeat with_reducible refine wS fun _ _ => ?_); intro hnl) | (with_reducible first | refine mdraw_plain mixed (by decide +kernel) ?_ | refine wI (fun h => ?_) (fun h => ?_) | refine wF (fun h => ?_) (fun h => ?_) | refine wG (fun h => ?_) (fun h => ?_) | refine wH (fun h => ?_) (fun h => ?_)) | (with_reducible refine mfork_bool (fun h => ?_) (fun h => ?_) <;> simp only [h]) | (with_reducible refine mgfork_bool (fun h => ?_) (fun h => ?_) <;> simp only [h]) | (simp (config := { maxSteps := 4000000 }) (disch := first | decide | assumption | omega | (simp only [wL]; omega)) only [go_sem, Nat.reduceAdd, Nat.reduceSub, Nat.reduceMul, Nat.reduceDiv, Nat.reduceMod, Nat.reduceLT, Nat.reduceLeDiff, Nat.reduceEqDiff, Nat.reduceSucc, Nat.reduceGT, Int.reduceAdd, Int.reduceSub, Int.reduceMul, Int.reduceNeg, Int.reduceLT, Int.reduceLE, Int.reduceEq, Int.reduceToNat, reduceIte, Nat.mul_one, tabM_len, List.append_assoc, tabM_at hlt, hn, tabM_laid hlt]))
            refine .of (.less ?_ (by rw [← tabM_upd hlt]; exact St.le_refl _)) ⟨i + 1, rfl, rfl, by omega, by omega⟩
            simp (config := { maxSteps := 4000000 }) (disch := first | decide | assumption | omega | (simp only [wL]; omega)) only [go_sem, Nat.reduceAdd, Nat.reduceSub, Nat.reduceMul, Nat.reduceDiv, Nat.reduceMod, Nat.reduceLT, Nat.reduceLeDiff, Nat.reduceEqDiff, Nat.reduceSucc, Nat.reduceGT, Int.reduceAdd, Int.reduceSub, Int.reduceMul, Int.reduceNeg, Int.reduceLT, Int.reduceLE, Int.reduceEq, Int.reduceToNat, reduceIte, weak_int, weak_same]
            rfl
          · have : i = 16 := by omega
            subst this
            repeat' (first | ((with_reducible refine wT ?_); (first | (fail_if_success (have := nl1)); with_reducible refine wN fun nl1 hnl => ?_ | (fail_if_success (have := nl2)); with_reducible refine wN fun nl2 hnl => ?_ | (fail_if_success (have := nl3)); with_reducible refine wN fun nl3 hnl => ?_ | (fail_if_success (have := nl4)); with_reducible refine wN fun nl4 hnl => ?_ | (fail_if_success (have := nl5)); with_reducible refine wN fun nl5 hnl => ?_ | with_reducible refine wN fun _ hnl => ?_); revert hnl; (repeat with_reducible refine wS fun _ _ => ?_); intro hnl) | (with_reducible first | refine mdraw_plain mixed (by decide +kernel) ?_ | refine wI (fun h => ?_) (fun h => ?_) | refine wF (fun h => ?_) (fun h => ?_) | refine wG (fun h => ?_) (fun h => ?_) | refine wH (fun h => ?_) (fun h => ?_)) | (with_reducible refine mfork_bool (fun h => ?_) (fun h => ?_) <;> simp only [h]) | (with_reducible refine mgfork_bool (fun h => ?_) (fun h => ?_) <;> simp only [h]) | (simp (config := { maxSteps := 4000000 }) (disch := first | decide | assumption | omega | (simp only [wL]; omega)) only [go_sem, Nat.reduceAdd, Nat.reduceSub, Nat.reduceMul, Nat.reduceDiv, Nat.reduceMod, Nat.reduceLT, Nat.reduceLeDiff, Nat.reduceEqDiff, Nat.reduceSucc, Nat.reduceGT, Int.reduceAdd, Int.reduceSub, Int.reduceMul, Int.reduceNeg, Int.reduceLT, Int.reduceLE, Int.reduceEq, Int.reduceToNat, reduceIte, tabM_len, tabM_done, tabM_all, tabM_take, tabM_drop, Nat.min_self]))
      · have e : (tabV fun on => (T.leaf x).sem (asP al on)) = tabV fun on => on.testBit (posK al x) := by simp [T.sem, h1, h2, asP]
        rw [e]
        have hb := bsearch_call al (by omega) ta x hr
        have hpl : posK al x ≤ 1000000 := Nat.le_trans List.findIdx_le_length (by omega)
        have hc := column_call (posK al x) hpl
        repeat' (first | (with_reducible refine use_pure hb ?_) | (with_reducible refine use_pure hc ?_) | ((with_reducible refine wT ?_); (first | (fail_if_success (have := nl1)); with_reducible refine wN fun nl1 hnl => ?_ | (fail_if_success (have := nl2)); with_reducible refine wN fun nl2 hnl => ?_ | (fail_if_success (have := nl3)); with_reducible refine wN fun nl3 hnl => ?_ | (fail_if_success (have := nl4)); with_reducible refine wN fun nl4 hnl => ?_ | (fail_if_success (have := nl5)); with_reducible refine wN fun nl5 hnl => ?_ | with_reducible refine wN fun _ hnl => ?_); revert hnl; (repeat with_reducible refine wS fun _ _ => ?_); intro hnl) | (with_reducible first | refine mdraw_plain mixed (by decide +kernel) ?_ | refine wI (fun h => ?_) (fun h => ?_) | refine wF (fun h => ?_) (fun h => ?_) | refine wG (fun h => ?_) (fun h => ?_) | refine wH (fun h => ?_) (fun h => ?_)) | (with_reducible refine mfork_bool (fun h => ?_) (fun h => ?_) <;> simp only [h]) | (with_reducible refine mgfork_bool (fun h => ?_) (fun h => ?_) <;> simp only [h]) | (simp (config := { maxSteps := 4000000 }) (disch := first | decide | assumption | omega | (simp only [wL]; omega)) only [go_sem, Nat.reduceAdd, Nat.reduceSub, Nat.reduceMul, Nat.reduceDiv, Nat.reduceMod, Nat.reduceLT, Nat.reduceLeDiff, Nat.reduceEqDiff, Nat.reduceSucc, Nat.reduceGT, Int.reduceAdd, Int.reduceSub, Int.reduceMul, Int.reduceNeg, Int.reduceLT, Int.reduceLE, Int.reduceEq, Int.reduceToNat, reduceIte, Try.f57, hg, h1, h2, List.drop_succ_cons, List.drop_zero, zero16, tabM_len, tabM_all, tabM_take, tabM_drop, Nat.min_self]))
  | .one x a, h, r, tt, hl => by
    refine (MCalls.body 115 [.cell 4 54, .tmp 5] Try.func57 rfl rfl rfl rfl ?_)
    have h1 := parts_one h.1
    have ih := filled_call al la hr ta a h.2 r tt (by simp only [T.fl, List.cons_append, List.length_cons] at hl; omega)
    simp only [T.fl, List.cons_append] at hl ⊢
    have hg : ((x :: (a.fl ++ r)).map ND.c).getD 0 [] = x.c := rfl
    have e : (tabV fun on => (T.one x a).sem (asP al on)) = tabV fun on => !a.sem (asP al on) := by simp [T.sem]
    rw [e]
    generalize hf : (fun on => a.sem (asP al on)) = f at ih
    have e2 : (fun on => !a.sem (asP al on)) = fun on => !f on := by rw [← hf]
    rw [e2]
    repeat' (first | (with_reducible refine use_pure ih ?_) | ((with_reducible refine wT ?_); (first | (fail_if_success (have := nl1)); with_reducible refine wN fun nl1 hnl => ?_ | (fail_if_success (have := nl2)); with_reducible refine wN fun nl2 hnl => ?_ | (fail_if_success (have := nl3)); with_reducible refine wN fun nl3 hnl => ?_ | (fail_if_success (have := nl4)); with_reducible refine wN fun nl4 hnl => ?_ | (fail_if_success (have := nl5)); with_reducible refine wN fun nl5 hnl => ?_ | with_reducible refine wN fun _ hnl => ?_); revert hnl; (repeat with_reducible refine wS fun _ _ => ?_); intro hnl) | (with_reducible first | refine mdraw_plain mixed (by decide +kernel) ?_ | refine wI (fun h => ?_) (fun h => ?_) | refine wF (fun h => ?_) (fun h => ?_) | refine wG (fun h => ?_) (fun h => ?_) | refine wH (fun h => ?_) (fun h => ?_)) | (with_reducible refine mfork_bool (fun h => ?_) (fun h => ?_) <;> simp only [h]) | (with_reducible refine mgfork_bool (fun h => ?_) (fun h => ?_) <;> simp only [h]) | (simp (config := { maxSteps := 4000000 }) (disch := first | decide | assumption | omega | (simp only [wL]; omega)) only [go_sem, Nat.reduceAdd, Nat.reduceSub, Nat.reduceMul, Nat.reduceDiv, Nat.reduceMod, Nat.reduceLT, Nat.reduceLeDiff, Nat.reduceEqDiff, Nat.reduceSucc, Nat.reduceGT, Int.reduceAdd, Int.reduceSub, Int.reduceMul, Int.reduceNeg, Int.reduceLT, Int.reduceLE, Int.reduceEq, Int.reduceToNat, reduceIte, Try.f57, hg, h1, List.drop_succ_cons, List.drop_zero, zero16, tabM_len, tabM_all, tabM_take, tabM_drop, Nat.min_self]))
    refine mloop_intro (α := Nat) (fun i => ⟨115, [(52, .int .i64 (i : Int)), (10, .ptr nl4 0 0), (8, .ptr nl3 0 0), (11, .lst 5 (r.map ND.c) tt), (4, .ptr nl1 0 0)], []⟩)
      (fun i => (((St.none.set nl1 (.row 54 16 [tz])).set nl2 (.row 49 5 [(⟨10, x.n, x.v⟩ : ND).c])).set nl3 (.row 54 16 [tabM fun k => if k < i then tw (fun on => !f on) k else tw (fun _ => false) k])).set nl4 (.row 54 16 [tabM (tw f)]))
      (fun i => i ≤ 16) (fun i => 16 - i) (.of (.less ?_ (by rw [← tz_start]; exact St.le_refl _)) ⟨0, rfl, rfl, by omega⟩) ?_
    · simp (config := { maxSteps := 4000000 }) (disch := first | decide | assumption | omega | (simp only [wL]; omega)) only [go_sem, Nat.reduceAdd, Nat.reduceSub, Nat.reduceMul, Nat.reduceDiv, Nat.reduceMod, Nat.reduceLT, Nat.reduceLeDiff, Nat.reduceEqDiff, Nat.reduceSucc, Nat.reduceGT, Int.reduceAdd, Int.reduceSub, Int.reduceMul, Int.reduceNeg, Int.reduceLT, Int.reduceLE, Int.reduceEq, Int.reduceToNat, reduceIte, weak_int, weak_same]
      rfl
    · intro i hi
      by_cases hlt : i < 16
      · repeat' (first | ((with_reducible refine wT ?_); (first | (fail_if_success (have := nl1)); with_reducible refine wN fun nl1 hnl => ?_ | (fail_if_success (have := nl2)); with_reducible refine wN fun nl2 hnl => ?_ | (fail_if_success (have := nl3)); with_reducible refine wN fun nl3 hnl => ?_ | (fail_if_success (have := nl4)); with_reducible refine wN fun nl4 hnl => ?_ | (fail_if_success (have := nl5)); with_reducible refine wN fun nl5 hnl => ?_ | with_reducible refine wN fun _ hnl => ?_); revert hnl; (repeat with_reducible refine wS fun _ _ => ?_); intro hnl) | (with_reducible first | refine mdraw_plain mixed (by decide +kernel) ?_ | refine wI (fun h => ?_) (fun h => ?_) | refine wF (fun h => ?_) (fun h => ?_) | refine wG (fun h => ?_) (fun h => ?_) | refine wH (fun h => ?_) (fun h => ?_)) | (with_reducible refine mfork_bool (fun h => ?_) (fun h => ?_) <;> simp only [h]) | (with_reducible refine mgfork_bool (fun h => ?_) (fun h => ?_) <;> simp only [h]) | (simp (config := { maxSteps := 4000000 }) (disch := first | decide | assumption | omega | (simp only [wL]; omega)) only [go_sem, Nat.reduceAdd, Nat.reduceSub, Nat.reduceMul, Nat.reduceDiv, Nat.reduceMod, Nat.reduceLT, Nat.reduceLeDiff, Nat.reduceEqDiff, Nat.reduceSucc, Nat.reduceGT, Int.reduceAdd, Int.reduceSub, Int.reduceMul, Int.reduceNeg, Int.reduceLT, Int.reduceLE, Int.reduceEq, Int.reduceToNat, reduceIte, Nat.mul_one, tabM_len, List.append_assoc, tabM_get hlt, tw_not f i, tabM_laid hlt]))
        refine .of (.less ?_ (by rw [← tabM_upd hlt]; exact St.le_refl _)) ⟨i + 1, rfl, rfl, by omega, by omega⟩
        simp (config := { maxSteps := 4000000 }) (disch := first | decide | assumption | omega | (simp only [wL]; omega)) only [go_sem, Nat.reduceAdd, Nat.reduceSub, Nat.reduceMul, Nat.reduceDiv, Nat.reduceMod, Nat.reduceLT, Nat.reduceLeDiff, Nat.reduceEqDiff, Nat.reduceSucc, Nat.reduceGT, Int.reduceAdd, Int.reduceSub, Int.reduceMul, Int.reduceNeg, Int.reduceLT, Int.reduceLE, Int.reduceEq, Int.reduceToNat, reduceIte, weak_int, weak_same]
        rfl
      · have : i = 16 := by omega
        subst this
        repeat' (first | ((with_reducible refine wT ?_); (first | (fail_if_success (have := nl1)); with_reducible refine wN fun nl1 hnl => ?_ | (fail_if_success (have := nl2)); with_reducible refine wN fun nl2 hnl => ?_ | (fail_if_success (have := nl3)); with_reducible refine wN fun nl3 hnl => ?_ | (fail_if_success (have := nl4)); with_reducible refine wN fun nl4 hnl => ?_ | (fail_if_success (have := nl5)); with_reducible refine wN fun nl5 hnl => ?_ | with_reducible refine wN fun _ hnl => ?_); revert hnl; (repeat with_reducible refine wS fun _ _ => ?_); intro hnl) | (with_reducible first | refine mdraw_plain mixed (by decide +kernel) ?_ | refine wI (fun h => ?_) (fun h => ?_) | refine wF (fun h => ?_) (fun h => ?_) | refine wG (fun h => ?_) (fun h => ?_) | refine wH (fun h => ?_) (fun h => ?_)) | (with_reducible refine mfork_bool (fun h => ?_) (fun h => ?_) <;> simp only [h]) | (with_reducible refine mgfork_bool (fun h => ?_) (fun h => ?_) <;> simp only [h]) | (simp (config := { maxSteps := 4000000 }) (disch := first | decide | assumption | omega | (simp only [wL]; omega)) only [go_sem, Nat.reduceAdd, Nat.reduceSub, Nat.reduceMul, Nat.reduceDiv, Nat.reduceMod, Nat.reduceLT, Nat.reduceLeDiff, Nat.reduceEqDiff, Nat.reduceSucc, Nat.reduceGT, Int.reduceAdd, Int.reduceSub, Int.reduceMul, Int.reduceNeg, Int.reduceLT, Int.reduceLE, Int.reduceEq, Int.reduceToNat, reduceIte, tabM_len, tabM_done, tabM_all, tabM_take, tabM_drop, Nat.min_self]))
  | .two x a b, h, r, tt, hl => by
    refine (MCalls.body 115 [.cell 4 54, .tmp 5] Try.func57 rfl rfl rfl rfl ?_)
    have iha := filled_call al la hr ta a h.2.1 (b.fl ++ r) tt (by simp only [T.fl, List.cons_append, List.length_cons, List.append_assoc] at hl; omega)
    have ihb := filled_call al la hr ta b h.2.2 r tt (by simp only [T.fl, List.cons_append, List.length_cons, List.length_append] at hl ⊢; omega)
    simp only [T.fl, List.cons_append, List.append_assoc] at hl ⊢
    have hg : ((x :: (a.fl ++ (b.fl ++ r))).map ND.c).getD 0 [] = x.c := rfl
    rcases parts_two h.1 with h1 | h1
    · have e : (tabV fun on => (T.two x a b).sem (asP al on)) = tabV fun on => a.sem (asP al on) && b.sem (asP al on) := by simp [T.sem, h1]
      rw [e]
      generalize hf : (fun on => a.sem (asP al on)) = f at iha
      generalize hgg : (fun on => b.sem (asP al on)) = g at ihb
      have e2 : (fun on => a.sem (asP al on) && b.sem (asP al on)) = fun on => f on && g on := by rw [← hf, ← hgg]
      rw [e2]
      repeat' (first | (with_reducible refine use_pure iha ?_) | (with_reducible refine use_pure ihb ?_) | ((with_reducible refine wT ?_); (first | (fail_if_success (have := nl1)); with_reducible refine wN fun nl1 hnl => ?_ | (fail_if_success (have := nl2)); with_reducible refine wN fun nl2 hnl => ?_ | (fail_if_success (have := nl3)); with_reducible refine wN fun nl3 hnl => ?_ | (fail_if_success (have := nl4)); with_reducible refine wN fun nl4 hnl => ?_ | (fail_if_success (have := nl5)); with_reducible refine wN fun nl5 hnl => ?_ | with_reducible refine wN fun _ hnl => ?_); revert hnl; (repeat with_reducible refine wS fun _ _ => ?_); intro hnl) | (with_reducible first | refine mdraw_plain mixed (by decide +kernel) ?_ | refine wI (fun h => ?_) (fun h => ?_) | refine wF (fun h => ?_) (fun h => ?_) | refine wG (fun h => ?_) (fun h => ?_) | refine wH (fun h => ?_) (fun h => ?_)) | (with_reducible refine mfork_bool (fun h => ?_) (fun h => ?_) <;> simp only [h]) | (with_reducible refine mgfork_bool (fun h => ?_) (fun h => ?_) <;> simp only [h]) | (simp (config := { maxSteps := 4000000 }) (disch := first | decide | assumption | omega | (simp only [wL]; omega)) only [go_sem, Nat.reduceAdd, Nat.reduceSub, Nat.reduceMul, Nat.reduceDiv, Nat.reduceMod, Nat.reduceLT, Nat.reduceLeDiff, Nat.reduceEqDiff, Nat.reduceSucc, Nat.reduceGT, Int.reduceAdd, Int.reduceSub, Int.reduceMul, Int.reduceNeg, Int.reduceLT, Int.reduceLE, Int.reduceEq, Int.reduceToNat, reduceIte, Try.f57, hg, h1, List.drop_succ_cons, List.drop_zero, zero16, tabM_len, tabM_all, tabM_take, tabM_drop, Nat.min_self]))
      refine mloop_intro (α := Nat) (fun i => ⟨115, [(79, .int .i64 (i : Int)), (6, .ptr nl2 0 0), (13, .ptr nl4 0 0), (15, .ptr nl5 0 0), (8, .ptr nl3 0 0), (14, .lst 5 (r.map ND.c) tt), (4, .ptr nl1 0 0)], []⟩)
        (fun i => ((((St.none.set nl1 (.row 54 16 [tz])).set nl2 (.row 49 5 [(⟨11, x.n, x.v⟩ : ND).c])).set nl3 (.row 54 16 [tabM fun k => if k < i then tw (fun on => f on && g on) k else tw (fun _ => false) k])).set nl4 (.row 54 16 [tabM (tw f)])).set nl5 (.row 54 16 [tabM (tw g)]))
        (fun i => i ≤ 16) (fun i => 16 - i) (.of (.less ?_ (by rw [← tz_start]; exact St.le_refl _)) ⟨0, rfl, rfl, by omega⟩) ?_
      · simp (config := { maxSteps := 4000000 }) (disch := first | decide | assumption | omega | (simp only [wL]; omega)) only [go_sem, Nat.reduceAdd, Nat.reduceSub, Nat.reduceMul, Nat.reduceDiv, Nat.reduceMod, Nat.reduceLT, Nat.reduceLeDiff, Nat.reduceEqDiff, Nat.reduceSucc, Nat.reduceGT, Int.reduceAdd, Int.reduceSub, Int.reduceMul, Int.reduceNeg, Int.reduceLT, Int.reduceLE, Int.reduceEq, Int.reduceToNat, reduceIte, weak_int, weak_same]
        rfl
      · intro i hi
        by_cases hlt : i < 16
        · repeat' (first | ((with_reducible refine wT ?_); (first | (fail_if_success (have := nl1)); with_reducible refine wN fun nl1 hnl => ?_ | (fail_if_success (have := nl2)); with_reducible refine wN fun nl2 hnl => ?_ | (fail_if_success (have := nl3)); with_reducible refine wN fun nl3 hnl => ?_ | (fail_if_success (have := nl4)); with_reducible refine wN fun nl4 hnl => ?_ | (fail_if_success (have := nl5)); with_reducible refine wN fun nl5 hnl => ?_ | with_reducible refine wN fun _ hnl => ?_); revert hnl; (repeat with_reducible refine wS fun _ _ => ?_); intro hnl) | (with_reducible first | refine mdraw_plain mixed (by decide +kernel) ?_ | refine wI (fun h => ?_) (fun h => ?_) | refine wF (fun h => ?_) (fun h => ?_) | refine wG (fun h => ?_) (fun h => ?_) | refine wH (fun h => ?_) (fun h => ?_)) | (with_reducible refine mfork_bool (fun h => ?_) (fun h => ?_) <;> simp only [h]) | (with_reducible refine mgfork_bool (fun h => ?_) (fun h => ?_) <;> simp only [h]) | (simp (config := { maxSteps := 4000000 }) (disch := first | decide | assumption | omega | (simp only [wL]; omega)) only [go_sem, Nat.reduceAdd, Nat.reduceSub, Nat.reduceMul, Nat.reduceDiv, Nat.reduceMod, Nat.reduceLT, Nat.reduceLeDiff, Nat.reduceEqDiff, Nat.reduceSucc, Nat.reduceGT, Int.reduceAdd, Int.reduceSub, Int.reduceMul, Int.reduceNeg, Int.reduceLT, Int.reduceLE, Int.reduceEq, Int.reduceToNat, reduceIte, Nat.mul_one, tabM_len, List.append_assoc, tabM_get hlt, tw_and f g i, tabM_laid hlt]))
          refine .of (.less ?_ (by rw [← tabM_upd hlt]; exact St.le_refl _)) ⟨i + 1, rfl, rfl, by omega, by omega⟩
          simp (config := { maxSteps := 4000000 }) (disch := first | decide | assumption | omega | (simp only [wL]; omega)) only [go_sem, Nat.reduceAdd, Nat.reduceSub, Nat.reduceMul, Nat.reduceDiv, Nat.reduceMod, Nat.reduceLT, Nat.reduceLeDiff, Nat.reduceEqDiff, Nat.reduceSucc, Nat.reduceGT, Int.reduceAdd, Int.reduceSub, Int.reduceMul, Int.reduceNeg, Int.reduceLT, Int.reduceLE, Int.reduceEq, Int.reduceToNat, reduceIte, weak_int, weak_same]
          rfl
        · have : i = 16 := by omega
          subst this
          repeat' (first | ((with_reducible refine wT ?_); (first | (fail_if_success (have := nl1)); with_reducible refine wN fun nl1 hnl => ?_ | (fail_if_success (have := nl2)); with_reducible refine wN fun nl2 hnl => ?_ | (fail_if_success (have := nl3)); with_reducible refine wN fun nl3 hnl => ?_ | (fail_if_success (have := nl4)); with_reducible refine wN fun nl4 hnl => ?_ | (fail_if_success (have := nl5)); with_reducible refine wN fun nl5 hnl => ?_ | with_reducible refine wN fun _ hnl => ?_); revert hnl; (repeat with_reducible refine wS fun _ _ => ?_); intro hnl) | (with_reducible first | refine mdraw_plain mixed (by decide +kernel) ?_ | refine wI (fun h => ?_) (fun h => ?_) | refine wF (fun h => ?_) (fun h => ?_) | refine wG (fun h => ?_) (fun h => ?_) | refine wH (fun h => ?_) (fun h => ?_)) | (with_reducible refine mfork_bool (fun h => ?_) (fun h => ?_) <;> simp only [h]) | (with_reducible refine mgfork_bool (fun h => ?_) (fun h => ?_) <;> simp only [h]) | (simp (config := { maxSteps := 4000000 }) (disch := first | decide | assumption | omega | (simp only [wL]; omega)) only [go_sem, Nat.reduceAdd, Nat.reduceSub, Nat.reduceMul, Nat.reduceDiv, Nat.reduceMod, Nat.reduceLT, Nat.reduceLeDiff, Nat.reduceEqDiff, Nat.reduceSucc, Nat.reduceGT, Int.reduceAdd, Int.reduceSub, Int.reduceMul, Int.reduceNeg, Int.reduceLT, Int.reduceLE, Int.reduceEq, Int.reduceToNat, reduceIte, tabM_len, tabM_done, tabM_all, tabM_take, tabM_drop, Nat.min_self]))
    · have e : (tabV fun on => (T.two x a b).sem (asP al on)) = tabV fun on => a.sem (asP al on) || b.sem (asP al on) := by simp [T.sem, h1]
      rw [e]
      generalize hf : (fun on => a.sem (asP al on)) = f at iha
      generalize hgg : (fun on => b.sem (asP al on)) = g at ihb
      have e2 : (fun on => a.sem (asP al on) || b.sem (asP al on)) = fun on => f on || g on := by rw [← hf, ← hgg]
      rw [e2]
      repeat' (first | (with_reducible refine use_pure iha ?_) | (with_reducible refine use_pure ihb ?_) | ((with_reducible refine wT ?_); (first | (fail_if_success (have := nl1)); with_reducible refine wN fun nl1 hnl => ?_ | (fail_if_success (have := nl2)); with_reducible refine wN fun nl2 hnl => ?_ | (fail_if_success (have := nl3)); with_reducible refine wN fun nl3 hnl => ?_ | (fail_if_success (have := nl4)); with_reducible refine wN fun nl4 hnl => ?_ | (fail_if_success (have := nl5)); with_reducible refine wN fun nl5 hnl => ?_ | with_reducible refine wN fun _ hnl => ?_); revert hnl; (repeat with_reducible refine wS fun _ _ => ?_); intro hnl) | (with_reducible first | refine mdraw_plain mixed (by decide +kernel) ?_ | refine wI (fun h => ?_) (fun h => ?_) | refine wF (fun h => ?_) (fun h => ?_) | refine wG (fun h => ?_) (fun h => ?_) | refine wH (fun h => ?_) (fun h => ?_)) | (with_reducible refine mfork_bool (fun h => ?_) (fun h => ?_) <;> simp only [h]) | (with_reducible refine mgfork_bool (fun h => ?_) (fun h => ?_) <;> simp only [h]) | (simp (config := { maxSteps := 4000000 }) (disch := first | decide | assumption | omega | (simp only [wL]; omega)) only [go_sem, Nat.reduceAdd, Nat.reduceSub, Nat.reduceMul, Nat.reduceDiv, Nat.reduceMod, Nat.reduceLT, Nat.reduceLeDiff, Nat.reduceEqDiff, Nat.reduceSucc, Nat.reduceGT, Int.reduceAdd, Int.reduceSub, Int.reduceMul, Int.reduceNeg, Int.reduceLT, Int.reduceLE, Int.reduceEq, Int.reduceToNat, reduceIte, Try.f57, hg, h1, List.drop_succ_cons, List.drop_zero, zero16, tabM_len, tabM_all, tabM_take, tabM_drop, Nat.min_self]))
      refine mloop_intro (α := Nat) (fun i => ⟨115, [(79, .int .i64 (i : Int)), (6, .ptr nl2 0 0), (13, .ptr nl4 0 0), (15, .ptr nl5 0 0), (8, .ptr nl3 0 0), (14, .lst 5 (r.map ND.c) tt), (4, .ptr nl1 0 0)], []⟩)
        (fun i => ((((St.none.set nl1 (.row 54 16 [tz])).set nl2 (.row 49 5 [(⟨12, x.n, x.v⟩ : ND).c])).set nl3 (.row 54 16 [tabM fun k => if k < i then tw (fun on => f on || g on) k else tw (fun _ => false) k])).set nl4 (.row 54 16 [tabM (tw f)])).set nl5 (.row 54 16 [tabM (tw g)]))
        (fun i => i ≤ 16) (fun i => 16 - i) (.of (.less ?_ (by rw [← tz_start]; exact St.le_refl _)) ⟨0, rfl, rfl, by omega⟩) ?_
      · simp (config := { maxSteps := 4000000 }) (disch := first | decide | assumption | omega | (simp only [wL]; omega)) only [go_sem, Nat.reduceAdd, Nat.reduceSub, Nat.reduceMul, Nat.reduceDiv, Nat.reduceMod, Nat.reduceLT, Nat.reduceLeDiff, Nat.reduceEqDiff, Nat.reduceSucc, Nat.reduceGT, Int.reduceAdd, Int.reduceSub, Int.reduceMul, Int.reduceNeg, Int.reduceLT, Int.reduceLE, Int.reduceEq, Int.reduceToNat, reduceIte, weak_int, weak_same]
        rfl
      · intro i hi
        by_cases hlt : i < 16
        · repeat' (first | ((with_reducible refine wT ?_); (first | (fail_if_success (have := nl1)); with_reducible refine wN fun nl1 hnl => ?_ | (fail_if_success (have := nl2)); with_reducible refine wN fun nl2 hnl => ?_ | (fail_if_success (have := nl3)); with_reducible refine wN fun nl3 hnl => ?_ | (fail_if_success (have := nl4)); with_reducible refine wN fun nl4 hnl => ?_ | (fail_if_success (have := nl5)); with_reducible refine wN fun nl5 hnl => ?_ | with_reducible refine wN fun _ hnl => ?_); revert hnl; (repeat with_reducible refine wS fun _ _ => ?_); intro hnl) | (with_reducible first | refine mdraw_plain mixed (by decide +kernel) ?_ | refine wI (fun h => ?_) (fun h => ?_) | refine wF (fun h => ?_) (fun h => ?_) | refine wG (fun h => ?_) (fun h => ?_) | refine wH (fun h => ?_) (fun h => ?_)) | (with_reducible refine mfork_bool (fun h => ?_) (fun h => ?_) <;> simp only [h]) | (with_reducible refine mgfork_bool (fun h => ?_) (fun h => ?_) <;> simp only [h]) | (simp (config := { maxSteps := 4000000 }) (disch := first | decide | assumption | omega | (simp only [wL]; omega)) only [go_sem, Nat.reduceAdd, Nat.reduceSub, Nat.reduceMul, Nat.reduceDiv, Nat.reduceMod, Nat.reduceLT, Nat.reduceLeDiff, Nat.reduceEqDiff, Nat.reduceSucc, Nat.reduceGT, Int.reduceAdd, Int.reduceSub, Int.reduceMul, Int.reduceNeg, Int.reduceLT, Int.reduceLE, Int.reduceEq, Int.reduceToNat, reduceIte, Nat.mul_one, tabM_len, List.append_assoc, tabM_get hlt, tw_and f g i, tw_or f g i, tabM_laid hlt]))
          refine .of (.less ?_ (by rw [← tabM_upd hlt]; exact St.le_refl _)) ⟨i + 1, rfl, rfl, by omega, by omega⟩
          simp (config := { maxSteps := 4000000 }) (disch := first | decide | assumption | omega | (simp only [wL]; omega)) only [go_sem, Nat.reduceAdd, Nat.reduceSub, Nat.reduceMul, Nat.reduceDiv, Nat.reduceMod, Nat.reduceLT, Nat.reduceLeDiff, Nat.reduceEqDiff, Nat.reduceSucc, Nat.reduceGT, Int.reduceAdd, Int.reduceSub, Int.reduceMul, Int.reduceNeg, Int.reduceLT, Int.reduceLE, Int.reduceEq, Int.reduceToNat, reduceIte, weak_int, weak_same]
          rfl
        · have : i = 16 := by omega
          subst this
          repeat' (first | ((with_reducible refine wT ?_); (first | (fail_if_success (have := nl1)); with_reducible refine wN fun nl1 hnl => ?_ | (fail_if_success (have := nl2)); with_reducible refine wN fun nl2 hnl => ?_ | (fail_if_success (have := nl3)); with_reducible refine wN fun nl3 hnl => ?_ | (fail_if_success (have := nl4)); with_reducible refine wN fun nl4 hnl => ?_ | (fail_if_success (have := nl5)); with_reducible refine wN fun nl5 hnl => ?_ | with_reducible refine wN fun _ hnl => ?_); revert hnl; (repeat with_reducible refine wS fun _ _ => ?_); intro hnl) | (with_reducible first | refine mdraw_plain mixed (by decide +kernel) ?_ | refine wI (fun h => ?_) (fun h => ?_) | refine wF (fun h => ?_) (fun h => ?_) | refine wG (fun h => ?_) (fun h => ?_) | refine wH (fun h => ?_) (fun h => ?_)) | (with_reducible refine mfork_bool (fun h => ?_) (fun h => ?_) <;> simp only [h]) | (with_reducible refine mgfork_bool (fun h => ?_) (fun h => ?_) <;> simp only [h]) | (simp (config := { maxSteps := 4000000 }) (disch := first | decide | assumption | omega | (simp only [wL]; omega)) only [go_sem, Nat.reduceAdd, Nat.reduceSub, Nat.reduceMul, Nat.reduceDiv, Nat.reduceMod, Nat.reduceLT, Nat.reduceLeDiff, Nat.reduceEqDiff, Nat.reduceSucc, Nat.reduceGT, Int.reduceAdd, Int.reduceSub, Int.reduceMul, Int.reduceNeg, Int.reduceLT, Int.reduceLE, Int.reduceEq, Int.reduceToNat, reduceIte, tabM_len, tabM_done, tabM_all, tabM_take, tabM_drop, Nat.min_self]))
end Go.Proofs.Ytielcgplbnlgbaa
end

section
/- Contract of the reference's Atoms (UNDER WAY): the conditions that the theorem names. -/
set_option linter.unusedVariables false
set_option linter.unusedSimpArgs false
namespace Go.Proofs.Ytielcgplbnlgbaa

theorem insN_at {acc : List ND} {x : ND} {i : Nat} (hi : i ≤ acc.length) (hq : ∀ q, q < i → lessK (acc.getD q nd0).key x.key) (h1 : i < acc.length → ¬ lessK (acc.getD i nd0).key x.key ∧ acc.getD i nd0 ≠ x) : insN x acc = acc.take i ++ [x] ++ acc.drop i := by
  rw [insN_pos x acc i hi hq, List.append_assoc]
  congr 1
  by_cases h : i < acc.length
  · obtain ⟨h2, h3⟩ := h1 h
    rw [drop_getD nd0 h]
    simp only [insN]
    rw [if_neg h2, if_neg h3]
    rfl
  · rw [List.drop_eq_nil_of_le (by omega)]
    rfl
theorem insN_there {acc : List ND} {x : ND} {i : Nat} (hi : i < acc.length) (hq : ∀ q, q < i → lessK (acc.getD q nd0).key x.key) (h1 : acc.getD i nd0 = x) : insN x acc = acc := by
  rw [insN_pos x acc i (Nat.le_of_lt hi) hq, drop_getD nd0 hi, h1]
  simp only [insN]
  rw [if_neg lessK_irrefl, if_pos trivial, ← h1, ← drop_getD nd0 hi, List.take_append_drop]
theorem ord_less {x y : ND} : ordI (cmpF [x] [y]) < 0 ↔ lessK x.key y.key := by
  rw [cmpF_one]; unfold lessK; cases cmpL x.key y.key <;> simp [ordI]
theorem fold_succ {l : List ND} {k : Nat} (h : k < l.length) (hat : atomR (l.getD k nd0) = true) : ((l.take (k + 1)).filter atomR).foldl (fun acc x => insN x acc) [] = insN (l.getD k nd0) (((l.take k).filter atomR).foldl (fun acc x => insN x acc) []) := by
  rw [getD_of_lt nd0 h] at hat ⊢
  rw [List.take_succ_eq_append_getElem h, List.filter_append, List.foldl_append]
  simp [hat]

set_option maxHeartbeats 4000000 in
theorem ratoms_call (a b : List ND) (ta tb : Bool) (la : a.length ≤ 100000) (lb : b.length ≤ 100000) (ha : ∀ x, x ∈ a → x.v.s.size ≤ 1000000) (hb : ∀ x, x ∈ b → x.v.s.size ≤ 1000000) :
    MCalls Try.prog 14 [.lst 5 (a.map ND.c) ta, .lst 5 (b.map ND.c) tb] St.none (fun r _ => r = .lst 5 ((((a ++ b).filter atomR).foldl (fun acc x => insN x acc) []).map ND.c) false) := by
  refine MCalls.seen (MCalls.body 82 [.tmp 4] Try.func14 rfl rfl rfl rfl ?_)
  repeat' (first | ((with_reducible refine wN fun nl hnl => ?_); revert hnl; (repeat with_reducible refine wS fun _ _ => ?_); intro hnl) | (with_reducible first | refine mdraw_plain mixed (by decide +kernel) ?_ | refine wI (fun h => ?_) (fun h => ?_) | refine wF (fun h => ?_) (fun h => ?_) | refine wG (fun h => ?_) (fun h => ?_) | refine wH (fun h => ?_) (fun h => ?_)) | (with_reducible refine mfork_bool (fun h => ?_) (fun h => ?_) <;> simp only [h]) | (with_reducible refine mgfork_bool (fun h => ?_) (fun h => ?_) <;> simp only [h]) | (simp (config := { maxSteps := 4000000 }) (disch := first | decide | assumption | omega | (simp only [wL]; omega)) only [go_sem, Nat.reduceAdd, Nat.reduceSub, Nat.reduceMul, Nat.reduceDiv, Nat.reduceMod, Nat.reduceLT, Nat.reduceLeDiff, Nat.reduceEqDiff, Nat.reduceSucc, Nat.reduceGT, Int.reduceAdd, Int.reduceSub, Int.reduceMul, Int.reduceNeg, Int.reduceLT, Int.reduceLE, Int.reduceEq, Int.reduceToNat, reduceIte, Try.f14]))
  refine mloop_intro (α := Nat × List ND) (fun a1 => ⟨82, [(7, .int .i64 (a1.1 : Int)), (6, .lst 5 (a1.2.map ND.c) false), (5, .lst 5 ((a ++ b).map ND.c) false)], []⟩)
    (fun _ => St.none) (fun a1 => a1.1 ≤ a.length + b.length ∧ a1.2 = (((a ++ b).take a1.1).filter atomR).foldl (fun acc x => insN x acc) []) (fun a1 => a.length + b.length - a1.1) ?_ ?_
  · refine .step (Ghost.freeze (l1 := [(7, .int .i64 0), (6, .lst 5 [] false), (5, .lst 5 ((a ++ b).map ND.c) false)]) _ (St.le_refl _) (σ1 := St.none) (St.none_le _) (fun k o hk => by cases hk) ?_) (.done ⟨(0, []), rfl, rfl, Nat.zero_le _, rfl⟩)
    simp (config := { maxSteps := 4000000 }) (disch := first | decide | assumption | omega | (simp only [wL]; omega)) only [go_sem, Nat.reduceAdd, Nat.reduceSub, Nat.reduceMul, Nat.reduceDiv, Nat.reduceMod, Nat.reduceLT, Nat.reduceLeDiff, Nat.reduceEqDiff, Nat.reduceSucc, Nat.reduceGT, Int.reduceAdd, Int.reduceSub, Int.reduceMul, Int.reduceNeg, Int.reduceLT, Int.reduceLE, Int.reduceEq, Int.reduceToNat, reduceIte, weak_same]
    exact ⟨.same _, .vecAll (set_hit _ _ _) rfl, .vecAll ((set_miss _ _ _ _ (by assumption)).trans (set_hit _ _ _)) (by simp)⟩
  · rintro ⟨k, acc⟩ ⟨hk, hacc⟩
    simp only at hk hacc ⊢
    by_cases hlt : k < a.length + b.length
    · have hm : (a ++ b).length = a.length + b.length := List.length_append ..
      cases hat : atomR ((a ++ b).getD k nd0)
      · repeat' (first | (with_reducible refine use_pure (ratom_call _) ?_) | ((with_reducible refine wN fun nl hnl => ?_); revert hnl; (repeat with_reducible refine wS fun _ _ => ?_); intro hnl) | (with_reducible first | refine mdraw_plain mixed (by decide +kernel) ?_ | refine wI (fun h => ?_) (fun h => ?_) | refine wF (fun h => ?_) (fun h => ?_) | refine wG (fun h => ?_) (fun h => ?_) | refine wH (fun h => ?_) (fun h => ?_)) | (with_reducible refine mfork_bool (fun h => ?_) (fun h => ?_) <;> simp only [h]) | (with_reducible refine mgfork_bool (fun h => ?_) (fun h => ?_) <;> simp only [h]) | (simp (config := { maxSteps := 4000000 }) (disch := first | decide | assumption | omega | (simp only [wL]; omega)) only [go_sem, Nat.reduceAdd, Nat.reduceSub, Nat.reduceMul, Nat.reduceDiv, Nat.reduceMod, Nat.reduceLT, Nat.reduceLeDiff, Nat.reduceEqDiff, Nat.reduceSucc, Nat.reduceGT, Int.reduceAdd, Int.reduceSub, Int.reduceMul, Int.reduceNeg, Int.reduceLT, Int.reduceLE, Int.reduceEq, Int.reduceToNat, reduceIte, getD_mapd nd0, hat, hm, hlt]))
        refine .of (.less (l1 := [(7, .int .i64 ((k + 1 : Nat) : Int)), (6, .lst 5 (acc.map ND.c) false), (5, .lst 5 ((a ++ b).map ND.c) false)]) ?_ (St.le_refl _)) ⟨(k + 1, acc), rfl, rfl, ⟨by simp only; omega, ?_⟩, by simp only; omega⟩
        · simp (config := { maxSteps := 4000000 }) (disch := first | decide | assumption | omega | (simp only [wL]; omega)) only [go_sem, Nat.reduceAdd, Nat.reduceSub, Nat.reduceMul, Nat.reduceDiv, Nat.reduceMod, Nat.reduceLT, Nat.reduceLeDiff, Nat.reduceEqDiff, Nat.reduceSucc, Nat.reduceGT, Int.reduceAdd, Int.reduceSub, Int.reduceMul, Int.reduceNeg, Int.reduceLT, Int.reduceLE, Int.reduceEq, Int.reduceToNat, reduceIte, weak_int, weak_same]
          rfl
        · simp only
          rw [List.take_succ_eq_append_getElem (by omega), List.filter_append, List.foldl_append, ← hacc]
          rw [getD_of_lt nd0 (by omega)] at hat
          simp [hat]
      · repeat' (first | (with_reducible refine use_pure (ratom_call _) ?_) | ((with_reducible refine wN fun nl hnl => ?_); revert hnl; (repeat with_reducible refine wS fun _ _ => ?_); intro hnl) | (with_reducible first | refine mdraw_plain mixed (by decide +kernel) ?_ | refine wI (fun h => ?_) (fun h => ?_) | refine wF (fun h => ?_) (fun h => ?_) | refine wG (fun h => ?_) (fun h => ?_) | refine wH (fun h => ?_) (fun h => ?_)) | (with_reducible refine mfork_bool (fun h => ?_) (fun h => ?_) <;> simp only [h]) | (with_reducible refine mgfork_bool (fun h => ?_) (fun h => ?_) <;> simp only [h]) | (simp (config := { maxSteps := 4000000 }) (disch := first | decide | assumption | omega | (simp only [wL]; omega)) only [go_sem, Nat.reduceAdd, Nat.reduceSub, Nat.reduceMul, Nat.reduceDiv, Nat.reduceMod, Nat.reduceLT, Nat.reduceLeDiff, Nat.reduceEqDiff, Nat.reduceSucc, Nat.reduceGT, Int.reduceAdd, Int.reduceSub, Int.reduceMul, Int.reduceNeg, Int.reduceLT, Int.reduceLE, Int.reduceEq, Int.reduceToNat, reduceIte, getD_mapd nd0, hat, hm, hlt]))
        refine mloop_intro (α := Nat) (fun i => ⟨82, [(8, .int .i64 (i : Int)), (7, .int .i64 (k : Int)), (6, .lst 5 (acc.map ND.c) false), (5, .lst 5 ((a ++ b).map ND.c) false)], []⟩)
          (fun _ => St.none) (fun i => i ≤ acc.length ∧ ∀ q, q < i → lessK (acc.getD q nd0).key ((a ++ b).getD k nd0).key) (fun i => acc.length - i) (.of (.less ?_ (St.le_refl _)) ⟨0, rfl, rfl, Nat.zero_le _, by omega⟩) ?_
        · simp (config := { maxSteps := 4000000 }) (disch := first | decide | assumption | omega | (simp only [wL]; omega)) only [go_sem, Nat.reduceAdd, Nat.reduceSub, Nat.reduceMul, Nat.reduceDiv, Nat.reduceMod, Nat.reduceLT, Nat.reduceLeDiff, Nat.reduceEqDiff, Nat.reduceSucc, Nat.reduceGT, Int.reduceAdd, Int.reduceSub, Int.reduceMul, Int.reduceNeg, Int.reduceLT, Int.reduceLE, Int.reduceEq, Int.reduceToNat, reduceIte, weak_int, weak_same]
          rfl
        · rintro i ⟨hi, hq⟩
          have hkl : k < (a ++ b).length := by omega
          have hal : acc.length ≤ 200000 := by
            have h1 := foldl_len (((a ++ b).take k).filter atomR) []
            have h2 := List.length_filter_le atomR ((a ++ b).take k)
            have h3 : ((a ++ b).take k).length ≤ k := by rw [List.length_take]; omega
            rw [← hacc] at h1
            simp only [List.length_nil] at h1
            omega
          by_cases hia : i < acc.length
          · have hsz : ∀ x, x ∈ a ++ b → x.v.s.size ≤ 1000000 := fun x hx => (List.mem_append.1 hx).elim (ha x) (hb x)
            have hin : ∀ x, x ∈ acc → x ∈ a ++ b := fun x hx => by
              rw [hacc] at hx
              rcases mem_foldl hx with h | h
              · cases h
              · exact List.mem_of_mem_take (List.mem_filter.1 h).1
            have hrc := rcompare_call [acc.getD i nd0] [(a ++ b).getD k nd0] (by simp) (by simp) (fun x hx => by rw [List.mem_singleton.1 hx]; exact hsz _ (hin _ (by rw [getD_of_lt nd0 hia]; exact List.getElem_mem hia))) (fun x hx => by rw [List.mem_singleton.1 hx]; exact hsz _ (by rw [getD_of_lt nd0 (by omega)]; exact List.getElem_mem _)) (false && decide (i + 1 = acc.length)) (false && decide (k + 1 = a.length + b.length))
            simp only [List.map_cons, List.map_nil] at hrc
            have one : ∀ (l : List ND) (q : Nat), q < l.length → (l.take (q + 1)).drop q = [l.getD q nd0] := fun l q h => by
              rw [List.take_succ_eq_append_getElem h, List.drop_append_of_le_length (by simp; omega), List.drop_of_length_le (by simp; omega), getD_of_lt nd0 h]; rfl
            have hd1 := one acc i hia
            have hd2 := one (a ++ b) k hkl
            repeat' (first | ((with_reducible refine wN fun nl hnl => ?_); revert hnl; (repeat with_reducible refine wS fun _ _ => ?_); intro hnl) | (with_reducible first | refine mdraw_plain mixed (by decide +kernel) ?_ | refine wI (fun h => ?_) (fun h => ?_) | refine wF (fun h => ?_) (fun h => ?_) | refine wG (fun h => ?_) (fun h => ?_) | refine wH (fun h => ?_) (fun h => ?_)) | (with_reducible refine mfork_bool (fun h => ?_) (fun h => ?_) <;> simp only [h]) | (with_reducible refine mgfork_bool (fun h => ?_) (fun h => ?_) <;> simp only [h]) | (simp (config := { maxSteps := 4000000 }) (disch := first | decide | assumption | omega | (simp only [wL]; omega)) only [go_sem, Nat.reduceAdd, Nat.reduceSub, Nat.reduceMul, Nat.reduceDiv, Nat.reduceMod, Nat.reduceLT, Nat.reduceLeDiff, Nat.reduceEqDiff, Nat.reduceSucc, Nat.reduceGT, Int.reduceAdd, Int.reduceSub, Int.reduceMul, Int.reduceNeg, Int.reduceLT, Int.reduceLE, Int.reduceEq, Int.reduceToNat, reduceIte, getD_mapd nd0, hm]))
            refine mdraw_know mixed (by decide +kernel) (fun g ms => if g = 36 then some ⟨[], fun v => v = .int .i64 (ordI (cmpF [acc.getD i nd0] [(a ++ b).getD k nd0])), none⟩ else none) ?_
            repeat' (first | (with_reducible refine know_pure rfl hrc ?_) | ((with_reducible refine wN fun nl hnl => ?_); revert hnl; (repeat with_reducible refine wS fun _ _ => ?_); intro hnl) | (with_reducible first | refine mdraw_plain mixed (by decide +kernel) ?_ | refine wI (fun h => ?_) (fun h => ?_) | refine wF (fun h => ?_) (fun h => ?_) | refine wG (fun h => ?_) (fun h => ?_) | refine wH (fun h => ?_) (fun h => ?_)) | (with_reducible refine mfork_bool (fun h => ?_) (fun h => ?_) <;> simp only [h]) | (with_reducible refine mgfork_bool (fun h => ?_) (fun h => ?_) <;> simp only [h]) | (simp (config := { maxSteps := 4000000 }) (disch := first | decide | assumption | omega | (simp only [wL]; omega)) only [go_sem, Nat.reduceAdd, Nat.reduceSub, Nat.reduceMul, Nat.reduceDiv, Nat.reduceMod, Nat.reduceLT, Nat.reduceLeDiff, Nat.reduceEqDiff, Nat.reduceSucc, Nat.reduceGT, Int.reduceAdd, Int.reduceSub, Int.reduceMul, Int.reduceNeg, Int.reduceLT, Int.reduceLE, Int.reduceEq, Int.reduceToNat, reduceIte, getD_mapd nd0, hm, hd1, hd2]))
            · refine .of (.less ?_ (St.le_refl _)) ⟨i + 1, rfl, rfl, ⟨by omega, fun q hq' => ?_⟩, by omega⟩
              · simp (config := { maxSteps := 4000000 }) (disch := first | decide | assumption | omega | (simp only [wL]; omega)) only [go_sem, Nat.reduceAdd, Nat.reduceSub, Nat.reduceMul, Nat.reduceDiv, Nat.reduceMod, Nat.reduceLT, Nat.reduceLeDiff, Nat.reduceEqDiff, Nat.reduceSucc, Nat.reduceGT, Int.reduceAdd, Int.reduceSub, Int.reduceMul, Int.reduceNeg, Int.reduceLT, Int.reduceLE, Int.reduceEq, Int.reduceToNat, reduceIte, weak_int, weak_same]
                all_goals rfl
              · rcases Nat.lt_or_ge q i with hlt' | hge
                · exact hq q hlt'
                · have : q = i := by omega
                  subst this
                  exact ord_less.1 h
            · refine .of (.less ?_ (St.le_refl _)) ⟨(k + 1, acc), rfl, rfl, ⟨by simp only; omega, ?_⟩, by simp only; omega⟩
              · simp (config := { maxSteps := 4000000 }) (disch := first | decide | assumption | omega | (simp only [wL]; omega)) only [go_sem, Nat.reduceAdd, Nat.reduceSub, Nat.reduceMul, Nat.reduceDiv, Nat.reduceMod, Nat.reduceLT, Nat.reduceLeDiff, Nat.reduceEqDiff, Nat.reduceSucc, Nat.reduceGT, Int.reduceAdd, Int.reduceSub, Int.reduceMul, Int.reduceNeg, Int.reduceLT, Int.reduceLE, Int.reduceEq, Int.reduceToNat, reduceIte, weak_int, weak_same]
                all_goals rfl
              · simp only
                rw [fold_succ hkl hat, ← hacc, insN_there hia hq (nd_ext h)]
            · have hnl : ¬ ordI (cmpF [acc.getD i nd0] [(a ++ b).getD k nd0]) < 0 := by assumption
              have hins := insN_at hi hq (fun _ => ⟨fun hl => hnl (ord_less.2 hl), fun e => h (by rw [e]; exact ⟨rfl, rfl, rfl, rfl, rfl⟩)⟩)
              refine .of (Ghost.freeze _ (St.le_refl _) (St.none_le _) (fun k o hk => by cases hk) ?_) ⟨(k + 1, insN ((a ++ b).getD k nd0) acc), rfl, rfl, ⟨by simp only; omega, ?_⟩, by simp only; omega⟩
              · have e : (insN ((a ++ b).getD k nd0) acc).map ND.c = List.map ND.c (List.take i acc) ++ [((a ++ b).getD k nd0).c] ++ List.map ND.c (List.drop i acc) := by
                  rw [hins, List.map_append, List.map_append]; rfl
                simp only [e]
                intro p hp
                simp only [List.mem_cons, List.not_mem_nil, or_false] at hp
                rcases hp with rfl | rfl | rfl
                · exact .same _
                · exact .vecAll (set_hit _ _ _) (by simp only [List.length_append, List.length_map, List.length_take, List.length_drop, List.length_cons, List.length_nil])
                · exact .same _
              · simp only
                rw [fold_succ hkl hat, ← hacc]
          · have hia' : i = acc.length := by omega
            subst hia'
            have hins := insN_at hi hq (fun h => absurd h hia)
            repeat' (first | ((with_reducible refine wN fun nl hnl => ?_); revert hnl; (repeat with_reducible refine wS fun _ _ => ?_); intro hnl) | (with_reducible first | refine mdraw_plain mixed (by decide +kernel) ?_ | refine wI (fun h => ?_) (fun h => ?_) | refine wF (fun h => ?_) (fun h => ?_) | refine wG (fun h => ?_) (fun h => ?_) | refine wH (fun h => ?_) (fun h => ?_)) | (with_reducible refine mfork_bool (fun h => ?_) (fun h => ?_) <;> simp only [h]) | (with_reducible refine mgfork_bool (fun h => ?_) (fun h => ?_) <;> simp only [h]) | (simp (config := { maxSteps := 4000000 }) (disch := first | decide | assumption | omega | (simp only [wL]; omega)) only [go_sem, Nat.reduceAdd, Nat.reduceSub, Nat.reduceMul, Nat.reduceDiv, Nat.reduceMod, Nat.reduceLT, Nat.reduceLeDiff, Nat.reduceEqDiff, Nat.reduceSucc, Nat.reduceGT, Int.reduceAdd, Int.reduceSub, Int.reduceMul, Int.reduceNeg, Int.reduceLT, Int.reduceLE, Int.reduceEq, Int.reduceToNat, reduceIte, getD_mapd nd0, hm]))
            refine mdraw_know mixed (by decide +kernel) (fun g ms => none) ?_
            repeat' (first | ((with_reducible refine wN fun nl hnl => ?_); revert hnl; (repeat with_reducible refine wS fun _ _ => ?_); intro hnl) | (with_reducible first | refine mdraw_plain mixed (by decide +kernel) ?_ | refine wI (fun h => ?_) (fun h => ?_) | refine wF (fun h => ?_) (fun h => ?_) | refine wG (fun h => ?_) (fun h => ?_) | refine wH (fun h => ?_) (fun h => ?_)) | (with_reducible refine mfork_bool (fun h => ?_) (fun h => ?_) <;> simp only [h]) | (with_reducible refine mgfork_bool (fun h => ?_) (fun h => ?_) <;> simp only [h]) | (simp (config := { maxSteps := 4000000 }) (disch := first | decide | assumption | omega | (simp only [wL]; omega)) only [go_sem, Nat.reduceAdd, Nat.reduceSub, Nat.reduceMul, Nat.reduceDiv, Nat.reduceMod, Nat.reduceLT, Nat.reduceLeDiff, Nat.reduceEqDiff, Nat.reduceSucc, Nat.reduceGT, Int.reduceAdd, Int.reduceSub, Int.reduceMul, Int.reduceNeg, Int.reduceLT, Int.reduceLE, Int.reduceEq, Int.reduceToNat, reduceIte, getD_mapd nd0, hm, List.take_length, List.drop_length, Nat.min_self]))
            refine .of (Ghost.freeze _ (St.le_refl _) (St.none_le _) (fun k o hk => by cases hk) ?_) ⟨(k + 1, insN ((a ++ b).getD k nd0) acc), rfl, rfl, ⟨by simp only; omega, ?_⟩, by simp only; omega⟩
            · have e : (insN ((a ++ b).getD k nd0) acc).map ND.c = List.map ND.c acc ++ [((a ++ b).getD k nd0).c] := by
                rw [hins, List.take_length, List.drop_length, List.append_nil, List.map_append]; rfl
              simp only [e]
              intro p hp
              simp only [List.mem_cons, List.not_mem_nil, or_false] at hp
              rcases hp with rfl | rfl | rfl
              · exact .same _
              · exact .vecAll ((set_hit _ _ _).trans (by first | rfl | (rw [List.append_nil]; rfl))) (by simp only [List.length_append, List.length_map, List.length_cons, List.length_nil])
              · exact .same _
            · simp only
              rw [fold_succ hkl (by assumption), ← hacc]
    · have : k = (a ++ b).length := by rw [List.length_append]; omega
      repeat' (first | ((with_reducible refine wN fun nl hnl => ?_); revert hnl; (repeat with_reducible refine wS fun _ _ => ?_); intro hnl) | (with_reducible first | refine mdraw_plain mixed (by decide +kernel) ?_ | refine wI (fun h => ?_) (fun h => ?_) | refine wF (fun h => ?_) (fun h => ?_) | refine wG (fun h => ?_) (fun h => ?_) | refine wH (fun h => ?_) (fun h => ?_)) | (with_reducible refine mfork_bool (fun h => ?_) (fun h => ?_) <;> simp only [h]) | (with_reducible refine mgfork_bool (fun h => ?_) (fun h => ?_) <;> simp only [h]) | (simp (config := { maxSteps := 4000000 }) (disch := first | decide | assumption | omega | (simp only [wL]; omega)) only [go_sem, Nat.reduceAdd, Nat.reduceSub, Nat.reduceMul, Nat.reduceDiv, Nat.reduceMod, Nat.reduceLT, Nat.reduceLeDiff, Nat.reduceEqDiff, Nat.reduceSucc, Nat.reduceGT, Int.reduceAdd, Int.reduceSub, Int.reduceMul, Int.reduceNeg, Int.reduceLT, Int.reduceLE, Int.reduceEq, Int.reduceToNat, reduceIte, List.take_length, List.length_append]))
      rw [hacc, this, List.take_length]
      exact .same _
end Go.Proofs.Ytielcgplbnlgbaa
end

section
/- Contracts of the document's Implies and Equal: the conditions that the theorems name. -/
set_option linter.unusedVariables false
set_option linter.unusedSimpArgs false
namespace Go.Proofs.Ytielcgplbnlgbaa

theorem ratoms_eq {l : List ND} (h : ∀ x, x ∈ l → ndOk x = true) : (l.filter atomR).foldl (fun acc x => insN x acc) [] = atomsS l := by
  rw [atomsS, List.filter_congr fun x hx => (atom_same (h x hx)).symm]
theorem atoms_swap (a b : List ND) : atomsS (b ++ a) = atomsS (a ++ b) :=
  nd_unique (atoms_rising _) (atoms_rising _) fun x => by rw [mem_atoms, mem_atoms, List.mem_append, List.mem_append, Or.comm]

/-- A tree that is fit, as it comes in. -/
structure FT (t : T) : Prop where
  good : Good t
  len : t.fl.length ≤ 63
  size : ∀ x, x ∈ t.fl → x.v.s.size ≤ 1000000
theorem FT.fit {t : T} (h : FT t) : fitS t.fl = true := by
  have hp := t.fl_pos
  have e := endS_fl h.good.1 [] []
  simp only [List.nil_append, List.append_nil, List.length_nil, Nat.zero_add] at e
  simp only [fitS, Bool.and_eq_true, decide_eq_true_eq, List.all_eq_true]
  exact ⟨⟨⟨List.length_pos_iff.1 hp, h.len⟩, e⟩, h.good.2⟩
theorem FT.of {l : List ND} (h : fitS l = true) (hs : ∀ x, x ∈ l → x.v.s.size ≤ 1000000) : ∃ t : T, l = t.fl ∧ FT t := by
  obtain ⟨t, ht, e, hl, hn⟩ := fit_tree h
  subst e
  exact ⟨t, rfl, ⟨⟨ht, hn⟩, hl, hs⟩⟩

theorem ft_atoms {s t : T} (hs : FT s) (ht : FT t) : ((s.fl ++ t.fl).filter atomR).foldl (fun acc x => insN x acc) [] = atomsS (s.fl ++ t.fl) :=
  ratoms_eq fun x hx => (List.mem_append.1 hx).elim (hs.good.2 x) (ht.good.2 x)

def impV (s t : T) : MV := if (atomsS (s.fl ++ t.fl)).length ≤ 10 then .tup [.bool (impB (atomsS (s.fl ++ t.fl)) s t), .int .i64 0] else .tup [.bool false, .int .i64 4]

theorem rimplies_not (a b : List ND) (ta tb : Bool) (h : (fitS a && fitS b) = false) : MCalls Try.prog 16 [.lst 5 (a.map ND.c) ta, .lst 5 (b.map ND.c) tb] St.none (fun r _ => r = .tup [.bool false, .int .i64 1]) := by
  refine (MCalls.body 50 [.tmp 4, .tmp 5] Try.func16 rfl rfl rfl rfl ?_)
  have h1 := rfit_call a ta
  have h2 := rfit_call b tb
  cases ha : fitS a <;> cases hb : fitS b
  · rw [ha] at h1; rw [hb] at h2
    repeat' (first | (with_reducible refine use_pure h1 ?_) | (with_reducible refine use_pure h2 ?_) | ((with_reducible refine wT ?_); (with_reducible refine wN fun _ hnl => ?_); revert hnl; (repeat with_reducible refine wS fun _ _ => ?_); intro hnl) | (with_reducible first | refine mdraw_plain mixed (by decide +kernel) ?_ | refine wI (fun h => ?_) (fun h => ?_) | refine wF (fun h => ?_) (fun h => ?_) | refine wG (fun h => ?_) (fun h => ?_) | refine wH (fun h => ?_) (fun h => ?_)) | (with_reducible refine mfork_bool (fun h => ?_) (fun h => ?_) <;> simp only [h]) | (with_reducible refine mgfork_bool (fun h => ?_) (fun h => ?_) <;> simp only [h]) | (simp (config := { maxSteps := 4000000 }) (disch := first | decide | assumption | omega | (simp only [wL]; omega)) only [go_sem, Nat.reduceAdd, Nat.reduceSub, Nat.reduceMul, Nat.reduceDiv, Nat.reduceMod, Nat.reduceLT, Nat.reduceLeDiff, Nat.reduceEqDiff, Nat.reduceSucc, Nat.reduceGT, Int.reduceAdd, Int.reduceSub, Int.reduceMul, Int.reduceNeg, Int.reduceLT, Int.reduceLE, Int.reduceEq, Int.reduceToNat, reduceIte, Try.f16]))
  · rw [ha] at h1; rw [hb] at h2
    repeat' (first | (with_reducible refine use_pure h1 ?_) | (with_reducible refine use_pure h2 ?_) | ((with_reducible refine wT ?_); (with_reducible refine wN fun _ hnl => ?_); revert hnl; (repeat with_reducible refine wS fun _ _ => ?_); intro hnl) | (with_reducible first | refine mdraw_plain mixed (by decide +kernel) ?_ | refine wI (fun h => ?_) (fun h => ?_) | refine wF (fun h => ?_) (fun h => ?_) | refine wG (fun h => ?_) (fun h => ?_) | refine wH (fun h => ?_) (fun h => ?_)) | (with_reducible refine mfork_bool (fun h => ?_) (fun h => ?_) <;> simp only [h]) | (with_reducible refine mgfork_bool (fun h => ?_) (fun h => ?_) <;> simp only [h]) | (simp (config := { maxSteps := 4000000 }) (disch := first | decide | assumption | omega | (simp only [wL]; omega)) only [go_sem, Nat.reduceAdd, Nat.reduceSub, Nat.reduceMul, Nat.reduceDiv, Nat.reduceMod, Nat.reduceLT, Nat.reduceLeDiff, Nat.reduceEqDiff, Nat.reduceSucc, Nat.reduceGT, Int.reduceAdd, Int.reduceSub, Int.reduceMul, Int.reduceNeg, Int.reduceLT, Int.reduceLE, Int.reduceEq, Int.reduceToNat, reduceIte, Try.f16]))
  · rw [ha] at h1; rw [hb] at h2
    repeat' (first | (with_reducible refine use_pure h1 ?_) | (with_reducible refine use_pure h2 ?_) | ((with_reducible refine wT ?_); (with_reducible refine wN fun _ hnl => ?_); revert hnl; (repeat with_reducible refine wS fun _ _ => ?_); intro hnl) | (with_reducible first | refine mdraw_plain mixed (by decide +kernel) ?_ | refine wI (fun h => ?_) (fun h => ?_) | refine wF (fun h => ?_) (fun h => ?_) | refine wG (fun h => ?_) (fun h => ?_) | refine wH (fun h => ?_) (fun h => ?_)) | (with_reducible refine mfork_bool (fun h => ?_) (fun h => ?_) <;> simp only [h]) | (with_reducible refine mgfork_bool (fun h => ?_) (fun h => ?_) <;> simp only [h]) | (simp (config := { maxSteps := 4000000 }) (disch := first | decide | assumption | omega | (simp only [wL]; omega)) only [go_sem, Nat.reduceAdd, Nat.reduceSub, Nat.reduceMul, Nat.reduceDiv, Nat.reduceMod, Nat.reduceLT, Nat.reduceLeDiff, Nat.reduceEqDiff, Nat.reduceSucc, Nat.reduceGT, Int.reduceAdd, Int.reduceSub, Int.reduceMul, Int.reduceNeg, Int.reduceLT, Int.reduceLE, Int.reduceEq, Int.reduceToNat, reduceIte, Try.f16]))
  · rw [ha, hb] at h; cases h

set_option maxHeartbeats 4000000 in
theorem rimplies_fit (s t : T) (hs : FT s) (ht : FT t) (ta tb : Bool) : MCalls Try.prog 16 [.lst 5 (s.fl.map ND.c) ta, .lst 5 (t.fl.map ND.c) tb] St.none (fun r _ => r = impV s t) := by
  refine (MCalls.body 50 [.tmp 4, .tmp 5] Try.func16 rfl rfl rfl rfl ?_)
  have h1 := rfit_call s.fl ta
  have h2 := rfit_call t.fl tb
  rw [hs.fit] at h1
  rw [ht.fit] at h2
  have hls := hs.len
  have hlt := ht.len
  have h3 := ratoms_call s.fl t.fl ta tb (by omega) (by omega) hs.size ht.size
  rw [ft_atoms hs ht] at h3
  have hr := atoms_rising (s.fl ++ t.fl)
  unfold impV
  generalize atomsS (s.fl ++ t.fl) = l at h3 hr ⊢
  by_cases h10 : l.length ≤ 10
  · rw [if_pos h10]
    have hp10 : 2 ^ l.length ≤ 1024 := by simpa using Nat.pow_le_pow_right (n := 2) (by omega) h10
    repeat' (first | (with_reducible refine use_pure h1 ?_) | (with_reducible refine use_pure h2 ?_) | (with_reducible refine use_pure h3 ?_) | ((with_reducible refine wT ?_); (with_reducible refine wN fun _ hnl => ?_); revert hnl; (repeat with_reducible refine wS fun _ _ => ?_); intro hnl) | (with_reducible first | refine mdraw_plain mixed (by decide +kernel) ?_ | refine wI (fun h => ?_) (fun h => ?_) | refine wF (fun h => ?_) (fun h => ?_) | refine wG (fun h => ?_) (fun h => ?_) | refine wH (fun h => ?_) (fun h => ?_)) | (with_reducible refine mfork_bool (fun h => ?_) (fun h => ?_) <;> simp only [h]) | (with_reducible refine mgfork_bool (fun h => ?_) (fun h => ?_) <;> simp only [h]) | (simp (config := { maxSteps := 4000000 }) (disch := first | decide | assumption | omega | (simp only [wL]; omega)) only [go_sem, Nat.reduceAdd, Nat.reduceSub, Nat.reduceMul, Nat.reduceDiv, Nat.reduceMod, Nat.reduceLT, Nat.reduceLeDiff, Nat.reduceEqDiff, Nat.reduceSucc, Nat.reduceGT, Int.reduceAdd, Int.reduceSub, Int.reduceMul, Int.reduceNeg, Int.reduceLT, Int.reduceLE, Int.reduceEq, Int.reduceToNat, reduceIte, Try.f16]))
    refine mloop_intro (α := Nat) (fun i => ⟨50, [(8, .int .i64 (i : Int)), (7, .int .i64 ((2 ^ i : Nat) : Int)), (6, .lst 5 (l.map ND.c) false), (0, .lst 5 (s.fl.map ND.c) ta), (1, .lst 5 (t.fl.map ND.c) tb)], []⟩)
      (fun _ => St.none) (fun i => i ≤ l.length) (fun i => l.length - i) (.of (.less ?_ (St.le_refl _)) ⟨0, rfl, rfl, Nat.zero_le _⟩) ?_
    · simp (config := { maxSteps := 4000000 }) (disch := first | decide | assumption | omega | (simp only [wL]; omega)) only [go_sem, Nat.reduceAdd, Nat.reduceSub, Nat.reduceMul, Nat.reduceDiv, Nat.reduceMod, Nat.reduceLT, Nat.reduceLeDiff, Nat.reduceEqDiff, Nat.reduceSucc, Nat.reduceGT, Int.reduceAdd, Int.reduceSub, Int.reduceMul, Int.reduceNeg, Int.reduceLT, Int.reduceLE, Int.reduceEq, Int.reduceToNat, reduceIte, weak_int, weak_same]
      exact ⟨rfl, rfl⟩
    · intro i hi
      have hi : i ≤ l.length := hi
      by_cases hlt' : i < l.length
      · have hpi : 2 ^ i ≤ 512 := by simpa using Nat.pow_le_pow_right (n := 2) (by omega) (show i ≤ 9 by omega)
        have hp1 : ((2 ^ (i + 1) : Nat) : Int) = ((2 ^ i : Nat) : Int) * 2 := by rw [Nat.pow_succ]; exact_mod_cast rfl
        obtain ⟨m, hm⟩ : ∃ m : Nat, 2 ^ i = m := ⟨_, rfl⟩
        rw [hm] at hpi hp1
        repeat' (first | ((with_reducible refine wT ?_); (with_reducible refine wN fun _ hnl => ?_); revert hnl; (repeat with_reducible refine wS fun _ _ => ?_); intro hnl) | (with_reducible first | refine mdraw_plain mixed (by decide +kernel) ?_ | refine wI (fun h => ?_) (fun h => ?_) | refine wF (fun h => ?_) (fun h => ?_) | refine wG (fun h => ?_) (fun h => ?_) | refine wH (fun h => ?_) (fun h => ?_)) | (with_reducible refine mfork_bool (fun h => ?_) (fun h => ?_) <;> simp only [h]) | (with_reducible refine mgfork_bool (fun h => ?_) (fun h => ?_) <;> simp only [h]) | (simp (config := { maxSteps := 4000000 }) (disch := first | decide | assumption | omega | (simp only [wL]; omega)) only [go_sem, Nat.reduceAdd, Nat.reduceSub, Nat.reduceMul, Nat.reduceDiv, Nat.reduceMod, Nat.reduceLT, Nat.reduceLeDiff, Nat.reduceEqDiff, Nat.reduceSucc, Nat.reduceGT, Int.reduceAdd, Int.reduceSub, Int.reduceMul, Int.reduceNeg, Int.reduceLT, Int.reduceLE, Int.reduceEq, Int.reduceToNat, reduceIte, hm]))
        refine .of (.less ?_ (St.le_refl _)) ⟨i + 1, rfl, rfl, by omega, by omega⟩
        simp (config := { maxSteps := 4000000 }) (disch := first | decide | assumption | omega | (simp only [wL]; omega)) only [go_sem, Nat.reduceAdd, Nat.reduceSub, Nat.reduceMul, Nat.reduceDiv, Nat.reduceMod, Nat.reduceLT, Nat.reduceLeDiff, Nat.reduceEqDiff, Nat.reduceSucc, Nat.reduceGT, Int.reduceAdd, Int.reduceSub, Int.reduceMul, Int.reduceNeg, Int.reduceLT, Int.reduceLE, Int.reduceEq, Int.reduceToNat, reduceIte, weak_int, weak_same, hp1]
        rfl
      · have hie : i = l.length := by omega
        subst hie
        obtain ⟨m, hm⟩ : ∃ m : Nat, 2 ^ l.length = m := ⟨_, rfl⟩
        rw [hm] at hp10
        repeat' (first | ((with_reducible refine wT ?_); (with_reducible refine wN fun _ hnl => ?_); revert hnl; (repeat with_reducible refine wS fun _ _ => ?_); intro hnl) | (with_reducible first | refine mdraw_plain mixed (by decide +kernel) ?_ | refine wI (fun h => ?_) (fun h => ?_) | refine wF (fun h => ?_) (fun h => ?_) | refine wG (fun h => ?_) (fun h => ?_) | refine wH (fun h => ?_) (fun h => ?_)) | (with_reducible refine mfork_bool (fun h => ?_) (fun h => ?_) <;> simp only [h]) | (with_reducible refine mgfork_bool (fun h => ?_) (fun h => ?_) <;> simp only [h]) | (simp (config := { maxSteps := 4000000 }) (disch := first | decide | assumption | omega | (simp only [wL]; omega)) only [go_sem, Nat.reduceAdd, Nat.reduceSub, Nat.reduceMul, Nat.reduceDiv, Nat.reduceMod, Nat.reduceLT, Nat.reduceLeDiff, Nat.reduceEqDiff, Nat.reduceSucc, Nat.reduceGT, Int.reduceAdd, Int.reduceSub, Int.reduceMul, Int.reduceNeg, Int.reduceLT, Int.reduceLE, Int.reduceEq, Int.reduceToNat, reduceIte, hm]))
        refine mloop_intro (α := Nat) (fun on => ⟨50, [(9, .int .i64 (on : Int)), (7, .int .i64 (m : Int)), (6, .lst 5 (l.map ND.c) false), (0, .lst 5 (s.fl.map ND.c) ta), (1, .lst 5 (t.fl.map ND.c) tb)], []⟩)
          (fun _ => St.none) (fun on => on ≤ m ∧ ∀ q, q < on → (!s.sem (asg l q) || t.sem (asg l q)) = true) (fun on => m - on) (.of (.less ?_ (St.le_refl _)) ⟨0, rfl, rfl, Nat.zero_le _, fun q hq => absurd hq (Nat.not_lt_zero _)⟩) ?_
        · simp (config := { maxSteps := 4000000 }) (disch := first | decide | assumption | omega | (simp only [wL]; omega)) only [go_sem, Nat.reduceAdd, Nat.reduceSub, Nat.reduceMul, Nat.reduceDiv, Nat.reduceMod, Nat.reduceLT, Nat.reduceLeDiff, Nat.reduceEqDiff, Nat.reduceSucc, Nat.reduceGT, Int.reduceAdd, Int.reduceSub, Int.reduceMul, Int.reduceNeg, Int.reduceLT, Int.reduceLE, Int.reduceEq, Int.reduceToNat, reduceIte, weak_int, weak_same]
          rfl
        · rintro on ⟨hon, hq⟩
          by_cases hom : on < m
          · have c1 := rsays_call l (by omega) hr false on (by omega) s hs.good.1 (by omega) ta
            have c2 := rsays_call l (by omega) hr false on (by omega) t ht.good.1 (by omega) tb
            have next : (!s.sem (asg l on) || t.sem (asg l on)) = true → ∀ q, q < on + 1 → (!s.sem (asg l q) || t.sem (asg l q)) = true := fun h q hq' => by
              rcases Nat.lt_or_ge q on with h3 | h3
              · exact hq q h3
              · rw [show q = on by omega]; exact h
            cases e1 : s.sem (asg l on)
            · rw [e1] at c1 next
              repeat' (first | (with_reducible refine use_pure c1 ?_) | (with_reducible refine use_pure c2 ?_) | ((with_reducible refine wT ?_); (with_reducible refine wN fun _ hnl => ?_); revert hnl; (repeat with_reducible refine wS fun _ _ => ?_); intro hnl) | (with_reducible first | refine mdraw_plain mixed (by decide +kernel) ?_ | refine wI (fun h => ?_) (fun h => ?_) | refine wF (fun h => ?_) (fun h => ?_) | refine wG (fun h => ?_) (fun h => ?_) | refine wH (fun h => ?_) (fun h => ?_)) | (with_reducible refine mfork_bool (fun h => ?_) (fun h => ?_) <;> simp only [h]) | (with_reducible refine mgfork_bool (fun h => ?_) (fun h => ?_) <;> simp only [h]) | (simp (config := { maxSteps := 4000000 }) (disch := first | decide | assumption | omega | (simp only [wL]; omega)) only [go_sem, Nat.reduceAdd, Nat.reduceSub, Nat.reduceMul, Nat.reduceDiv, Nat.reduceMod, Nat.reduceLT, Nat.reduceLeDiff, Nat.reduceEqDiff, Nat.reduceSucc, Nat.reduceGT, Int.reduceAdd, Int.reduceSub, Int.reduceMul, Int.reduceNeg, Int.reduceLT, Int.reduceLE, Int.reduceEq, Int.reduceToNat, reduceIte]))
              refine .of (.less ?_ (St.le_refl _)) ⟨on + 1, rfl, rfl, ⟨by omega, next rfl⟩, by omega⟩
              simp (config := { maxSteps := 4000000 }) (disch := first | decide | assumption | omega | (simp only [wL]; omega)) only [go_sem, Nat.reduceAdd, Nat.reduceSub, Nat.reduceMul, Nat.reduceDiv, Nat.reduceMod, Nat.reduceLT, Nat.reduceLeDiff, Nat.reduceEqDiff, Nat.reduceSucc, Nat.reduceGT, Int.reduceAdd, Int.reduceSub, Int.reduceMul, Int.reduceNeg, Int.reduceLT, Int.reduceLE, Int.reduceEq, Int.reduceToNat, reduceIte, weak_int, weak_same]
              rfl
            · cases e2 : t.sem (asg l on)
              · rw [e1] at c1; rw [e2] at c2
                have hf : impB l s t = false := by
                  rw [impB, decide_eq_false_iff_not]
                  intro hall
                  have := hall on (by omega)
                  rw [e1, e2] at this
                  cases this
                rw [hf]
                repeat' (first | (with_reducible refine use_pure c1 ?_) | (with_reducible refine use_pure c2 ?_) | ((with_reducible refine wT ?_); (with_reducible refine wN fun _ hnl => ?_); revert hnl; (repeat with_reducible refine wS fun _ _ => ?_); intro hnl) | (with_reducible first | refine mdraw_plain mixed (by decide +kernel) ?_ | refine wI (fun h => ?_) (fun h => ?_) | refine wF (fun h => ?_) (fun h => ?_) | refine wG (fun h => ?_) (fun h => ?_) | refine wH (fun h => ?_) (fun h => ?_)) | (with_reducible refine mfork_bool (fun h => ?_) (fun h => ?_) <;> simp only [h]) | (with_reducible refine mgfork_bool (fun h => ?_) (fun h => ?_) <;> simp only [h]) | (simp (config := { maxSteps := 4000000 }) (disch := first | decide | assumption | omega | (simp only [wL]; omega)) only [go_sem, Nat.reduceAdd, Nat.reduceSub, Nat.reduceMul, Nat.reduceDiv, Nat.reduceMod, Nat.reduceLT, Nat.reduceLeDiff, Nat.reduceEqDiff, Nat.reduceSucc, Nat.reduceGT, Int.reduceAdd, Int.reduceSub, Int.reduceMul, Int.reduceNeg, Int.reduceLT, Int.reduceLE, Int.reduceEq, Int.reduceToNat, reduceIte]))
              · rw [e1] at c1 next; rw [e2] at c2 next
                repeat' (first | (with_reducible refine use_pure c1 ?_) | (with_reducible refine use_pure c2 ?_) | ((with_reducible refine wT ?_); (with_reducible refine wN fun _ hnl => ?_); revert hnl; (repeat with_reducible refine wS fun _ _ => ?_); intro hnl) | (with_reducible first | refine mdraw_plain mixed (by decide +kernel) ?_ | refine wI (fun h => ?_) (fun h => ?_) | refine wF (fun h => ?_) (fun h => ?_) | refine wG (fun h => ?_) (fun h => ?_) | refine wH (fun h => ?_) (fun h => ?_)) | (with_reducible refine mfork_bool (fun h => ?_) (fun h => ?_) <;> simp only [h]) | (with_reducible refine mgfork_bool (fun h => ?_) (fun h => ?_) <;> simp only [h]) | (simp (config := { maxSteps := 4000000 }) (disch := first | decide | assumption | omega | (simp only [wL]; omega)) only [go_sem, Nat.reduceAdd, Nat.reduceSub, Nat.reduceMul, Nat.reduceDiv, Nat.reduceMod, Nat.reduceLT, Nat.reduceLeDiff, Nat.reduceEqDiff, Nat.reduceSucc, Nat.reduceGT, Int.reduceAdd, Int.reduceSub, Int.reduceMul, Int.reduceNeg, Int.reduceLT, Int.reduceLE, Int.reduceEq, Int.reduceToNat, reduceIte]))
                refine .of (.less ?_ (St.le_refl _)) ⟨on + 1, rfl, rfl, ⟨by omega, next rfl⟩, by omega⟩
                simp (config := { maxSteps := 4000000 }) (disch := first | decide | assumption | omega | (simp only [wL]; omega)) only [go_sem, Nat.reduceAdd, Nat.reduceSub, Nat.reduceMul, Nat.reduceDiv, Nat.reduceMod, Nat.reduceLT, Nat.reduceLeDiff, Nat.reduceEqDiff, Nat.reduceSucc, Nat.reduceGT, Int.reduceAdd, Int.reduceSub, Int.reduceMul, Int.reduceNeg, Int.reduceLT, Int.reduceLE, Int.reduceEq, Int.reduceToNat, reduceIte, weak_int, weak_same]
                rfl
          · have hoe : on = m := by omega
            subst hoe
            have hf : impB l s t = true := by
              rw [impB, decide_eq_true_eq, hm]; exact hq
            rw [hf]
            repeat' (first | ((with_reducible refine wT ?_); (with_reducible refine wN fun _ hnl => ?_); revert hnl; (repeat with_reducible refine wS fun _ _ => ?_); intro hnl) | (with_reducible first | refine mdraw_plain mixed (by decide +kernel) ?_ | refine wI (fun h => ?_) (fun h => ?_) | refine wF (fun h => ?_) (fun h => ?_) | refine wG (fun h => ?_) (fun h => ?_) | refine wH (fun h => ?_) (fun h => ?_)) | (with_reducible refine mfork_bool (fun h => ?_) (fun h => ?_) <;> simp only [h]) | (with_reducible refine mgfork_bool (fun h => ?_) (fun h => ?_) <;> simp only [h]) | (simp (config := { maxSteps := 4000000 }) (disch := first | decide | assumption | omega | (simp only [wL]; omega)) only [go_sem, Nat.reduceAdd, Nat.reduceSub, Nat.reduceMul, Nat.reduceDiv, Nat.reduceMod, Nat.reduceLT, Nat.reduceLeDiff, Nat.reduceEqDiff, Nat.reduceSucc, Nat.reduceGT, Int.reduceAdd, Int.reduceSub, Int.reduceMul, Int.reduceNeg, Int.reduceLT, Int.reduceLE, Int.reduceEq, Int.reduceToNat, reduceIte]))
  · rw [if_neg h10]
    repeat' (first | (with_reducible refine use_pure h1 ?_) | (with_reducible refine use_pure h2 ?_) | (with_reducible refine use_pure h3 ?_) | ((with_reducible refine wT ?_); (with_reducible refine wN fun _ hnl => ?_); revert hnl; (repeat with_reducible refine wS fun _ _ => ?_); intro hnl) | (with_reducible first | refine mdraw_plain mixed (by decide +kernel) ?_ | refine wI (fun h => ?_) (fun h => ?_) | refine wF (fun h => ?_) (fun h => ?_) | refine wG (fun h => ?_) (fun h => ?_) | refine wH (fun h => ?_) (fun h => ?_)) | (with_reducible refine mfork_bool (fun h => ?_) (fun h => ?_) <;> simp only [h]) | (with_reducible refine mgfork_bool (fun h => ?_) (fun h => ?_) <;> simp only [h]) | (simp (config := { maxSteps := 4000000 }) (disch := first | decide | assumption | omega | (simp only [wL]; omega)) only [go_sem, Nat.reduceAdd, Nat.reduceSub, Nat.reduceMul, Nat.reduceDiv, Nat.reduceMod, Nat.reduceLT, Nat.reduceLeDiff, Nat.reduceEqDiff, Nat.reduceSucc, Nat.reduceGT, Int.reduceAdd, Int.reduceSub, Int.reduceMul, Int.reduceNeg, Int.reduceLT, Int.reduceLE, Int.reduceEq, Int.reduceToNat, reduceIte, Try.f16]))

def eqV' (s t : T) : MV := if (atomsS (s.fl ++ t.fl)).length ≤ 10 then .tup [.bool (impB (atomsS (s.fl ++ t.fl)) s t && impB (atomsS (s.fl ++ t.fl)) t s), .int .i64 0] else .tup [.bool false, .int .i64 4]

theorem requal_not (a b : List ND) (ta tb : Bool) (h : (fitS a && fitS b) = false) : MCalls Try.prog 18 [.lst 5 (a.map ND.c) ta, .lst 5 (b.map ND.c) tb] St.none (fun r _ => r = .tup [.bool false, .int .i64 1]) := by
  refine (MCalls.body 27 [.tmp 4, .tmp 5] Try.func18 rfl rfl rfl rfl ?_)
  have h1 := rimplies_not a b ta tb h
  have h2 := rimplies_not b a tb ta (by rw [Bool.and_comm]; exact h)
  repeat' (first | (with_reducible refine use_pure h1 ?_) | (with_reducible refine use_pure h2 ?_) | ((with_reducible refine wT ?_); (with_reducible refine wN fun _ hnl => ?_); revert hnl; (repeat with_reducible refine wS fun _ _ => ?_); intro hnl) | (with_reducible first | refine mdraw_plain mixed (by decide +kernel) ?_ | refine wI (fun h => ?_) (fun h => ?_) | refine wF (fun h => ?_) (fun h => ?_) | refine wG (fun h => ?_) (fun h => ?_) | refine wH (fun h => ?_) (fun h => ?_)) | (with_reducible refine mfork_bool (fun h => ?_) (fun h => ?_) <;> simp only [h]) | (with_reducible refine mgfork_bool (fun h => ?_) (fun h => ?_) <;> simp only [h]) | (simp (config := { maxSteps := 4000000 }) (disch := first | decide | assumption | omega | (simp only [wL]; omega)) only [go_sem, Nat.reduceAdd, Nat.reduceSub, Nat.reduceMul, Nat.reduceDiv, Nat.reduceMod, Nat.reduceLT, Nat.reduceLeDiff, Nat.reduceEqDiff, Nat.reduceSucc, Nat.reduceGT, Int.reduceAdd, Int.reduceSub, Int.reduceMul, Int.reduceNeg, Int.reduceLT, Int.reduceLE, Int.reduceEq, Int.reduceToNat, reduceIte, Try.f18]))

theorem requal_fit (s t : T) (hs : FT s) (ht : FT t) (ta tb : Bool) : MCalls Try.prog 18 [.lst 5 (s.fl.map ND.c) ta, .lst 5 (t.fl.map ND.c) tb] St.none (fun r _ => r = eqV' s t) := by
  refine (MCalls.body 27 [.tmp 4, .tmp 5] Try.func18 rfl rfl rfl rfl ?_)
  have h1 := rimplies_fit s t hs ht ta tb
  have h2 := rimplies_fit t s ht hs tb ta
  unfold impV at h1 h2
  unfold eqV'
  rw [atoms_swap] at h2
  by_cases h10 : (atomsS (s.fl ++ t.fl)).length ≤ 10
  · rw [if_pos h10] at h1 h2 ⊢
    cases e1 : impB (atomsS (s.fl ++ t.fl)) s t <;> cases e2 : impB (atomsS (s.fl ++ t.fl)) t s <;> rw [e1] at h1 <;> rw [e2] at h2
    all_goals repeat' (first | (with_reducible refine use_pure h1 ?_) | (with_reducible refine use_pure h2 ?_) | ((with_reducible refine wT ?_); (with_reducible refine wN fun _ hnl => ?_); revert hnl; (repeat with_reducible refine wS fun _ _ => ?_); intro hnl) | (with_reducible first | refine mdraw_plain mixed (by decide +kernel) ?_ | refine wI (fun h => ?_) (fun h => ?_) | refine wF (fun h => ?_) (fun h => ?_) | refine wG (fun h => ?_) (fun h => ?_) | refine wH (fun h => ?_) (fun h => ?_)) | (with_reducible refine mfork_bool (fun h => ?_) (fun h => ?_) <;> simp only [h]) | (with_reducible refine mgfork_bool (fun h => ?_) (fun h => ?_) <;> simp only [h]) | (simp (config := { maxSteps := 4000000 }) (disch := first | decide | assumption | omega | (simp only [wL]; omega)) only [go_sem, Nat.reduceAdd, Nat.reduceSub, Nat.reduceMul, Nat.reduceDiv, Nat.reduceMod, Nat.reduceLT, Nat.reduceLeDiff, Nat.reduceEqDiff, Nat.reduceSucc, Nat.reduceGT, Int.reduceAdd, Int.reduceSub, Int.reduceMul, Int.reduceNeg, Int.reduceLT, Int.reduceLE, Int.reduceEq, Int.reduceToNat, reduceIte, Try.f18]))
  · rw [if_neg h10] at h1 h2 ⊢
    repeat' (first | (with_reducible refine use_pure h1 ?_) | (with_reducible refine use_pure h2 ?_) | ((with_reducible refine wT ?_); (with_reducible refine wN fun _ hnl => ?_); revert hnl; (repeat with_reducible refine wS fun _ _ => ?_); intro hnl) | (with_reducible first | refine mdraw_plain mixed (by decide +kernel) ?_ | refine wI (fun h => ?_) (fun h => ?_) | refine wF (fun h => ?_) (fun h => ?_) | refine wG (fun h => ?_) (fun h => ?_) | refine wH (fun h => ?_) (fun h => ?_)) | (with_reducible refine mfork_bool (fun h => ?_) (fun h => ?_) <;> simp only [h]) | (with_reducible refine mgfork_bool (fun h => ?_) (fun h => ?_) <;> simp only [h]) | (simp (config := { maxSteps := 4000000 }) (disch := first | decide | assumption | omega | (simp only [wL]; omega)) only [go_sem, Nat.reduceAdd, Nat.reduceSub, Nat.reduceMul, Nat.reduceDiv, Nat.reduceMod, Nat.reduceLT, Nat.reduceLeDiff, Nat.reduceEqDiff, Nat.reduceSucc, Nat.reduceGT, Int.reduceAdd, Int.reduceSub, Int.reduceMul, Int.reduceNeg, Int.reduceLT, Int.reduceLE, Int.reduceEq, Int.reduceToNat, reduceIte, Try.f18]))

theorem few_call (s t : T) (hs : FT s) (ht : FT t) (ta tb : Bool) : MCalls Try.prog 13 [.lst 5 (s.fl.map ND.c) ta, .lst 5 (t.fl.map ND.c) tb] St.none (fun r _ => r = .bool (decide ((atomsS (s.fl ++ t.fl)).length ≤ 6))) := by
  refine (MCalls.body 10 [.tmp 4] Try.func13 rfl rfl rfl rfl ?_)
  have hls := hs.len
  have hlt := ht.len
  have h3 := ratoms_call s.fl t.fl ta tb (by omega) (by omega) hs.size ht.size
  rw [ft_atoms hs ht] at h3
  repeat' (first | (with_reducible refine use_pure h3 ?_) | ((with_reducible refine wT ?_); (with_reducible refine wN fun _ hnl => ?_); revert hnl; (repeat with_reducible refine wS fun _ _ => ?_); intro hnl) | (with_reducible first | refine mdraw_plain mixed (by decide +kernel) ?_ | refine wI (fun h => ?_) (fun h => ?_) | refine wF (fun h => ?_) (fun h => ?_) | refine wG (fun h => ?_) (fun h => ?_) | refine wH (fun h => ?_) (fun h => ?_)) | (with_reducible refine mfork_bool (fun h => ?_) (fun h => ?_) <;> simp only [h]) | (with_reducible refine mgfork_bool (fun h => ?_) (fun h => ?_) <;> simp only [h]) | (simp (config := { maxSteps := 4000000 }) (disch := first | decide | assumption | omega | (simp only [wL]; omega)) only [go_sem, Nat.reduceAdd, Nat.reduceSub, Nat.reduceMul, Nat.reduceDiv, Nat.reduceMod, Nat.reduceLT, Nat.reduceLeDiff, Nat.reduceEqDiff, Nat.reduceSucc, Nat.reduceGT, Int.reduceAdd, Int.reduceSub, Int.reduceMul, Int.reduceNeg, Int.reduceLT, Int.reduceLE, Int.reduceEq, Int.reduceToNat, reduceIte, Try.f13]))
  simp only [MV.bool.injEq, decide_eq_decide]
  omega

def largeS (l : List ND) : Bool := decide (100 < l.length) || l.any fun x => decide (200 < x.v.s.size)
theorem rlarge_call (l : List ND) (tt : Bool) : MCalls Try.prog 10 [.lst 5 (l.map ND.c) tt] St.none (fun r _ => r = .bool (largeS l)) := by
  refine (MCalls.body 21 [.tmp 2] Try.func10 rfl rfl rfl rfl ?_)
  by_cases h100 : 100 < l.length
  · have e : largeS l = true := by simp [largeS, h100]
    rw [e]
    repeat' (first | ((with_reducible refine wT ?_); (with_reducible refine wN fun _ hnl => ?_); revert hnl; (repeat with_reducible refine wS fun _ _ => ?_); intro hnl) | (with_reducible first | refine mdraw_plain mixed (by decide +kernel) ?_ | refine wI (fun h => ?_) (fun h => ?_) | refine wF (fun h => ?_) (fun h => ?_) | refine wG (fun h => ?_) (fun h => ?_) | refine wH (fun h => ?_) (fun h => ?_)) | (with_reducible refine mfork_bool (fun h => ?_) (fun h => ?_) <;> simp only [h]) | (with_reducible refine mgfork_bool (fun h => ?_) (fun h => ?_) <;> simp only [h]) | (simp (config := { maxSteps := 4000000 }) (disch := first | decide | assumption | omega | (simp only [wL]; omega)) only [go_sem, Nat.reduceAdd, Nat.reduceSub, Nat.reduceMul, Nat.reduceDiv, Nat.reduceMod, Nat.reduceLT, Nat.reduceLeDiff, Nat.reduceEqDiff, Nat.reduceSucc, Nat.reduceGT, Int.reduceAdd, Int.reduceSub, Int.reduceMul, Int.reduceNeg, Int.reduceLT, Int.reduceLE, Int.reduceEq, Int.reduceToNat, reduceIte, Try.f10]))
  · have e : largeS l = l.any fun x => decide (200 < x.v.s.size) := by simp [largeS, h100]
    rw [e]
    repeat' (first | ((with_reducible refine wT ?_); (with_reducible refine wN fun _ hnl => ?_); revert hnl; (repeat with_reducible refine wS fun _ _ => ?_); intro hnl) | (with_reducible first | refine mdraw_plain mixed (by decide +kernel) ?_ | refine wI (fun h => ?_) (fun h => ?_) | refine wF (fun h => ?_) (fun h => ?_) | refine wG (fun h => ?_) (fun h => ?_) | refine wH (fun h => ?_) (fun h => ?_)) | (with_reducible refine mfork_bool (fun h => ?_) (fun h => ?_) <;> simp only [h]) | (with_reducible refine mgfork_bool (fun h => ?_) (fun h => ?_) <;> simp only [h]) | (simp (config := { maxSteps := 4000000 }) (disch := first | decide | assumption | omega | (simp only [wL]; omega)) only [go_sem, Nat.reduceAdd, Nat.reduceSub, Nat.reduceMul, Nat.reduceDiv, Nat.reduceMod, Nat.reduceLT, Nat.reduceLeDiff, Nat.reduceEqDiff, Nat.reduceSucc, Nat.reduceGT, Int.reduceAdd, Int.reduceSub, Int.reduceMul, Int.reduceNeg, Int.reduceLT, Int.reduceLE, Int.reduceEq, Int.reduceToNat, reduceIte, Try.f10]))
    refine mloop_intro (α := Nat) (fun i => ⟨21, [(3, .int .i64 (i : Int)), (0, .lst 5 (l.map ND.c) tt)], []⟩)
      (fun _ => St.none) (fun i => i ≤ l.length ∧ (l.take i).any (fun x => decide (200 < x.v.s.size)) = false) (fun i => l.length - i) (.of (.less ?_ (St.le_refl _)) ⟨0, rfl, rfl, Nat.zero_le _, rfl⟩) ?_
    · simp (config := { maxSteps := 4000000 }) (disch := first | decide | assumption | omega | (simp only [wL]; omega)) only [go_sem, Nat.reduceAdd, Nat.reduceSub, Nat.reduceMul, Nat.reduceDiv, Nat.reduceMod, Nat.reduceLT, Nat.reduceLeDiff, Nat.reduceEqDiff, Nat.reduceSucc, Nat.reduceGT, Int.reduceAdd, Int.reduceSub, Int.reduceMul, Int.reduceNeg, Int.reduceLT, Int.reduceLE, Int.reduceEq, Int.reduceToNat, reduceIte, weak_int, weak_same]
      rfl
    · rintro i ⟨hi, hq⟩
      by_cases hlt : i < l.length
      · by_cases hb : 200 < (l.getD i nd0).v.s.size
        · have ea : (l.any fun x => decide (200 < x.v.s.size)) = true := List.any_eq_true.2 ⟨_, getD_mem nd0 hlt, by simpa using hb⟩
          rw [ea]
          repeat' (first | ((with_reducible refine wT ?_); (with_reducible refine wN fun _ hnl => ?_); revert hnl; (repeat with_reducible refine wS fun _ _ => ?_); intro hnl) | (with_reducible first | refine mdraw_plain mixed (by decide +kernel) ?_ | refine wI (fun h => ?_) (fun h => ?_) | refine wF (fun h => ?_) (fun h => ?_) | refine wG (fun h => ?_) (fun h => ?_) | refine wH (fun h => ?_) (fun h => ?_)) | (with_reducible refine mfork_bool (fun h => ?_) (fun h => ?_) <;> simp only [h]) | (with_reducible refine mgfork_bool (fun h => ?_) (fun h => ?_) <;> simp only [h]) | (simp (config := { maxSteps := 4000000 }) (disch := first | decide | assumption | omega | (simp only [wL]; omega)) only [go_sem, Nat.reduceAdd, Nat.reduceSub, Nat.reduceMul, Nat.reduceDiv, Nat.reduceMod, Nat.reduceLT, Nat.reduceLeDiff, Nat.reduceEqDiff, Nat.reduceSucc, Nat.reduceGT, Int.reduceAdd, Int.reduceSub, Int.reduceMul, Int.reduceNeg, Int.reduceLT, Int.reduceLE, Int.reduceEq, Int.reduceToNat, reduceIte, getD_mapd nd0]))
        · repeat' (first | ((with_reducible refine wT ?_); (with_reducible refine wN fun _ hnl => ?_); revert hnl; (repeat with_reducible refine wS fun _ _ => ?_); intro hnl) | (with_reducible first | refine mdraw_plain mixed (by decide +kernel) ?_ | refine wI (fun h => ?_) (fun h => ?_) | refine wF (fun h => ?_) (fun h => ?_) | refine wG (fun h => ?_) (fun h => ?_) | refine wH (fun h => ?_) (fun h => ?_)) | (with_reducible refine mfork_bool (fun h => ?_) (fun h => ?_) <;> simp only [h]) | (with_reducible refine mgfork_bool (fun h => ?_) (fun h => ?_) <;> simp only [h]) | (simp (config := { maxSteps := 4000000 }) (disch := first | decide | assumption | omega | (simp only [wL]; omega)) only [go_sem, Nat.reduceAdd, Nat.reduceSub, Nat.reduceMul, Nat.reduceDiv, Nat.reduceMod, Nat.reduceLT, Nat.reduceLeDiff, Nat.reduceEqDiff, Nat.reduceSucc, Nat.reduceGT, Int.reduceAdd, Int.reduceSub, Int.reduceMul, Int.reduceNeg, Int.reduceLT, Int.reduceLE, Int.reduceEq, Int.reduceToNat, reduceIte, getD_mapd nd0]))
          refine .of (.less ?_ (St.le_refl _)) ⟨i + 1, rfl, rfl, ⟨by omega, ?_⟩, by omega⟩
          · simp (config := { maxSteps := 4000000 }) (disch := first | decide | assumption | omega | (simp only [wL]; omega)) only [go_sem, Nat.reduceAdd, Nat.reduceSub, Nat.reduceMul, Nat.reduceDiv, Nat.reduceMod, Nat.reduceLT, Nat.reduceLeDiff, Nat.reduceEqDiff, Nat.reduceSucc, Nat.reduceGT, Int.reduceAdd, Int.reduceSub, Int.reduceMul, Int.reduceNeg, Int.reduceLT, Int.reduceLE, Int.reduceEq, Int.reduceToNat, reduceIte, weak_int, weak_same]
            rfl
          · rw [any_take_succ hlt, hq, ← getD_of_lt nd0 hlt]
            simpa using hb
      · have hie : i = l.length := by omega
        subst hie
        rw [List.take_length] at hq
        rw [hq]
        repeat' (first | ((with_reducible refine wT ?_); (with_reducible refine wN fun _ hnl => ?_); revert hnl; (repeat with_reducible refine wS fun _ _ => ?_); intro hnl) | (with_reducible first | refine mdraw_plain mixed (by decide +kernel) ?_ | refine wI (fun h => ?_) (fun h => ?_) | refine wF (fun h => ?_) (fun h => ?_) | refine wG (fun h => ?_) (fun h => ?_) | refine wH (fun h => ?_) (fun h => ?_)) | (with_reducible refine mfork_bool (fun h => ?_) (fun h => ?_) <;> simp only [h]) | (with_reducible refine mgfork_bool (fun h => ?_) (fun h => ?_) <;> simp only [h]) | (simp (config := { maxSteps := 4000000 }) (disch := first | decide | assumption | omega | (simp only [wL]; omega)) only [go_sem, Nat.reduceAdd, Nat.reduceSub, Nat.reduceMul, Nat.reduceDiv, Nat.reduceMod, Nat.reduceLT, Nat.reduceLeDiff, Nat.reduceEqDiff, Nat.reduceSucc, Nat.reduceGT, Int.reduceAdd, Int.reduceSub, Int.reduceMul, Int.reduceNeg, Int.reduceLT, Int.reduceLE, Int.reduceEq, Int.reduceToNat, reduceIte]))
end Go.Proofs.Ytielcgplbnlgbaa
end
