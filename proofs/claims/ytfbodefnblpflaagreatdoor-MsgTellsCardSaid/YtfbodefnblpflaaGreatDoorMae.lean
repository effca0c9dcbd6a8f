/- Parts of the proof, joined: each part says what it proves, and under which conditions. -/
import Derived.Test.YtfbodefnblpflaaGreatDoorMad
section
/- Commands, answers, pages, messages as cells; when they are alike. No program in sight. -/
set_option linter.unusedVariables false
set_option linter.unusedSimpArgs false
namespace Go.Proofs.YtfbodefnblpflaaGreatDoor
/-- A slice that holds a list: nil if it is empty, or not. -/
inductive Lz (e : Nat) (xs : List (List MV)) : MV → Prop where
  | lst (t : Bool) : Lz e xs (.lst e xs t)
  | nil (h : xs = []) : Lz e xs .nils
theorem Lz.cell {e : Nat} {xs : List (List MV)} {m : MV} (h : Lz e xs m) : m.isCell = true := by cases h <;> rfl
theorem Lz.cells {e : Nat} {xs : List (List MV)} {m : MV} (h : Lz e xs m) : m.cells = [m] := by cases h <;> rfl
theorem Lz.weak {e : Nat} {xs : List (List MV)} {m : MV} (h : Lz e xs m) : Weak m (.lst e xs false) := by
  cases h with
  | lst t => cases t with
    | false => exact .same _
    | true => exact .tight _ _
  | nil h => subst h; exact .nil _ _
abbrev CM.k (c : CM) (f : MV) : List MV := .int .i64 c.kd :: .int .i64 c.e.kd :: .int .i64 c.e.id :: .int .i64 c.e.gr :: .int .u32 (c.e.p.mask.toNat : Int) :: .int .u32 (c.e.p.lab.toNat : Int) :: (fc c.e.p.f ++
  .int .i64 c.dev :: .int .i64 c.req :: .int .i64 c.id :: .int .i64 c.base :: .int .i64 c.keep :: .int .u32 (c.p.mask.toNat : Int) :: .int .u32 (c.p.lab.toNat : Int) :: (fc c.p.f ++ [f, .int .u32 (c.mask.toNat : Int)]))
abbrev RE.k (a : RE) (f : MV) : List MV := [.int .i64 a.kd, .int .i64 a.dev, .int .i64 a.req, .int .i64 a.code, .int .i64 a.id, .int .i64 a.ver, .int .i64 a.sq, .int .i64 a.ep, f, .int .u32 (a.mask.toNat : Int)]
abbrev PG.k (p : PG) (i : MV) : List MV := [.int .i64 p.code, .bool p.reset, .int .i64 p.fr.dev, .int .i64 p.fr.ep, .int .i64 p.fr.sq, .int .i64 p.fr.cu, .int .i64 p.to.dev, .int .i64 p.to.ep, .int .i64 p.to.sq, .int .i64 p.to.cu, i]
abbrev MS.k (m : MS) (f g i : MV) : List MV := .int .i64 m.kd :: .int .i64 m.size :: .int .i64 m.cmd.kd :: .int .i64 m.cmd.e.kd :: .int .i64 m.cmd.e.id :: .int .i64 m.cmd.e.gr :: .int .u32 (m.cmd.e.p.mask.toNat : Int) :: .int .u32 (m.cmd.e.p.lab.toNat : Int) :: (fc m.cmd.e.p.f ++
  .int .i64 m.cmd.dev :: .int .i64 m.cmd.req :: .int .i64 m.cmd.id :: .int .i64 m.cmd.base :: .int .i64 m.cmd.keep :: .int .u32 (m.cmd.p.mask.toNat : Int) :: .int .u32 (m.cmd.p.lab.toNat : Int) :: (fc m.cmd.p.f ++ f :: .int .u32 (m.cmd.mask.toNat : Int) ::
  .int .i64 m.tok.dev :: .int .i64 m.tok.ep :: .int .i64 m.tok.sq :: .int .i64 m.tok.cu ::
  .int .i64 m.rep.kd :: .int .i64 m.rep.dev :: .int .i64 m.rep.req :: .int .i64 m.rep.code :: .int .i64 m.rep.id :: .int .i64 m.rep.ver :: .int .i64 m.rep.sq :: .int .i64 m.rep.ep :: g :: .int .u32 (m.rep.mask.toNat : Int) ::
  .int .i64 m.page.code :: .bool m.page.reset :: .int .i64 m.page.fr.dev :: .int .i64 m.page.fr.ep :: .int .i64 m.page.fr.sq :: .int .i64 m.page.fr.cu :: .int .i64 m.page.to.dev :: .int .i64 m.page.to.ep :: .int .i64 m.page.to.sq :: .int .i64 m.page.to.cu :: i ::
  [.int .i64 m.code]))
theorem cm_iff {a b : CM} : a = b ↔ a.kd = b.kd ∧ a.e = b.e ∧ a.dev = b.dev ∧ a.req = b.req ∧ a.id = b.id ∧ a.base = b.base ∧ a.keep = b.keep ∧ a.p = b.p ∧ a.fl = b.fl ∧ a.mask = b.mask := by
  obtain ⟨a1, a2, a3, a4, a5, a6, a7, a8, a9, a10⟩ := a
  obtain ⟨b1, b2, b3, b4, b5, b6, b7, b8, b9, b10⟩ := b
  simp
theorem re_iff {a b : RE} : a = b ↔ a.kd = b.kd ∧ a.dev = b.dev ∧ a.req = b.req ∧ a.code = b.code ∧ a.id = b.id ∧ a.ver = b.ver ∧ a.sq = b.sq ∧ a.ep = b.ep ∧ a.fl = b.fl ∧ a.mask = b.mask := by
  obtain ⟨a1, a2, a3, a4, a5, a6, a7, a8, a9, a10⟩ := a
  obtain ⟨b1, b2, b3, b4, b5, b6, b7, b8, b9, b10⟩ := b
  simp
theorem pg_iff {a b : PG} : a = b ↔ a.code = b.code ∧ a.reset = b.reset ∧ a.fr = b.fr ∧ a.to = b.to ∧ a.items = b.items := by
  obtain ⟨a1, a2, a3, a4, a5⟩ := a
  obtain ⟨b1, b2, b3, b4, b5⟩ := b
  simp
theorem ms_iff {a b : MS} : a = b ↔ a.kd = b.kd ∧ a.size = b.size ∧ a.cmd = b.cmd ∧ a.tok = b.tok ∧ a.rep = b.rep ∧ a.page = b.page ∧ a.code = b.code := by
  obtain ⟨a1, a2, a3, a4, a5, a6, a7⟩ := a
  obtain ⟨b1, b2, b3, b4, b5, b6, b7⟩ := b
  simp
end Go.Proofs.YtfbodefnblpflaaGreatDoor
end

section
/- Answers, pages, commands, messages as cells, their lists as they are seen. No program in sight. -/
set_option linter.unusedVariables false
set_option linter.unusedSimpArgs false
namespace Go.Proofs.YtfbodefnblpflaaGreatDoor
abbrev RE.c (a : RE) : List MV := a.k (.lst 5 (a.fl.map ND.c) false)
abbrev IT.ks (l : List IT) : List (List MV) := l.map fun x => .int .i64 x.kd :: .int .i64 x.c.id :: .int .i64 x.c.ver :: .int .u32 (x.c.lab.toNat : Int) :: fc x.c.f
abbrev PG.c (p : PG) : List MV := p.k (.lst 28 (IT.ks p.items) false)
abbrev CM.c (c : CM) : List MV := c.k (.lst 5 (c.fl.map ND.c) false)
/-- Cells, one by one, as they are seen. -/
def Views (σ : St) : List MV → List MV → Prop
  | [], [] => True
  | m :: ms, m' :: ms' => View σ m m' ∧ Views σ ms ms'
  | _, _ => False
theorem Views.same {σ : St} : ∀ ms : List MV, Views σ ms ms
  | [] => trivial
  | m :: ms => ⟨.same m, Views.same ms⟩
theorem Views.app {σ : St} : ∀ {a b c d : List MV}, Views σ a b → Views σ c d → Views σ (a ++ c) (b ++ d)
  | [], [], _, _, _, h => h
  | _ :: _, _ :: _, _, _, h, k => ⟨h.1, Views.app h.2 k⟩
theorem Views.len {σ : St} : ∀ {a b : List MV}, Views σ a b → a.length = b.length
  | [], [], _ => rfl
  | _ :: _, _ :: _, h => congrArg (· + 1) (Views.len h.2)
theorem Views.at {σ : St} : ∀ {a b : List MV}, Views σ a b → ∀ (i : Nat) (m m' : MV), a[i]? = some m → b[i]? = some m' → View σ m m'
  | _ :: _, _ :: _, h, 0, m, m', h1, h2 => by simp at h1 h2; subst h1 h2; exact h.1
  | _ :: _, _ :: _, h, i + 1, m, m', h1, h2 => by simp at h1 h2; exact h.2.at i m m' h1 h2
theorem View.aggL {σ : St} {ms ms' : List MV} (h : Views σ ms ms') (hc : ms'.all MV.isCell = true) : View σ (.agg ms) (.agg ms') :=
  .agg h.len (fun i m hm => List.all_eq_true.1 hc m (List.mem_of_getElem? hm)) h.at
theorem View.nils {σ : St} {e : Nat} {xs : List (List MV)} (h : xs = []) : View σ .nils (.lst e xs false) := by subst h; exact .nil e false
theorem fc_all {f : F8} {r : List MV} : (fc f ++ r).all MV.isCell = r.all MV.isCell := by rw [List.all_append, fc_cell, Bool.true_and]
theorem fc_assoc {f : F8} {a b : List MV} : (fc f ++ a) ++ b = fc f ++ (a ++ b) := List.append_assoc _ _ _
theorem u32z : ((UInt32.toNat 0 : Nat) : Int) = 0 := rfl
theorem RE.cell (a : RE) : a.c.all MV.isCell = true := rfl
theorem PG.cell (a : PG) : a.c.all MV.isCell = true := rfl
theorem CM.cell (c : CM) : c.c.all MV.isCell = true := by
  simp only [CM.c, CM.k, List.all_cons, List.all_append, fc_cell]; rfl
end Go.Proofs.YtfbodefnblpflaaGreatDoor
end

section
/- What both sides use: steps of the logic, views of answers, pages, commands and messages, which may be. No program in sight. -/
set_option linter.unusedVariables false
set_option linter.unusedSimpArgs false
namespace Go.Proofs.YtfbodefnblpflaaGreatDoor
set_option maxRecDepth 100000
theorem le2 {σ : St} {l k : Nat} {o o' : MObj} (h1 : σ l = some o) (h2 : σ k = some o') : ((St.none.set l o).set k o').le σ := St.set_le (St.set_le (St.none_le _) h1) h2
theorem tk_app {α : Type} {f : α → List MV} {l : List α} {ex : List (List MV)} : (l.map f ++ ex).take l.length = l.map f := by rw [List.take_append_of_le_length (by simp), List.take_of_length_le (by simp)]
theorem dr_app {α : Type} {f : α → List MV} {l : List α} {ex : List (List MV)} : (l.map f ++ ex).drop (l.length + 1) = ex.drop 1 := by
  rw [List.drop_append, List.drop_eq_nil_of_le (by simp), List.nil_append]; congr 1; simp
theorem viewR {α : Type} {f : α → List MV} {l : List α} {ex : List (List MV)} {σ : St} {q e : Nat} {t : TypeId} (h : σ q = some (.row t e (l.map f ++ ex))) : View σ (.vec e q 0 l.length) (.lst e (l.map f) false) := by
  have := View.vec (n := l.length) (lo := 0) h (by simp)
  rwa [List.drop_zero, tk_app] at this
theorem ite_imp {c P Q : Prop} [Decidable c] : (if c then P else Q) ↔ (c → P) ∧ (¬ c → Q) := by split <;> simp [*]
theorem repOk_sub {a : RE} (hok : repOk a = true) (h1 : a.code = 0) (h2 : a.kd = 3) : predErr a.fl = 0 := by
  have h := (decide_eq_true_iff (p := _)).1 hok
  have h := h.2.2.2.2.2.2.2.2.2.2.2.2
  rw [if_pos ⟨h1, h2⟩] at h
  exact h.2.2.1
theorem items_empty {p : PG} : (p.items.length : Int) = 0 ↔ p.items = [] := by
  rw [← List.length_eq_zero_iff]; omega
theorem items_snoc {l : List IT} {i : Nat} (h : i < l.length) : ((l.take (i + 1)).map itemB).flatten = ((l.take i).map itemB).flatten ++ itemB (l.getD i it0) := by
  rw [List.take_succ_eq_append_getElem h, List.map_append, List.flatten_append, ← getD_of_lt it0 h]; simp
theorem pageOk_items {p : PG} (hp : pageOk p = true) (hc : p.code = 0) (hr : p.reset = false) : tokOk p.to = true ∧ itemsOk 0 p.items = true ∧ p.items.length ≤ 16 := by
  unfold pageOk at hp
  rw [if_neg (by omega), if_neg (by rw [hr]; simp)] at hp
  simp only [Bool.and_eq_true, decide_eq_true_eq] at hp
  exact ⟨tokGo_to hp.2.1.1, hp.2.1.2, hp.2.2⟩
theorem pageOk_to {p : PG} (hp : pageOk p = true) (hc : p.code = 0) : tokOk p.to = true := by
  cases hr : p.reset
  · exact (pageOk_items hp hc hr).1
  · unfold pageOk at hp
    rw [if_neg (by omega), if_pos hr] at hp
    simp only [Bool.and_eq_true, decide_eq_true_eq] at hp
    exact hp.2.1.2
theorem itemsOk_at {l : List IT} : ∀ {last : Int} {i : Nat}, itemsOk last l = true → i < l.length → ∃ k, itOk k (l.getD i it0) = true := by
  induction l with
  | nil => intro _ _ _ h; simp at h
  | cons x l ih =>
    intro last i h hi
    simp only [itemsOk, Bool.and_eq_true] at h
    cases i with
    | zero => exact ⟨last, h.1⟩
    | succ i =>
      have := ih (i := i) h.2 (by simpa using hi)
      simpa using this
theorem itOk_card {k : Int} {x : IT} (h : itOk k x = true) (h2 : x.kd ≠ 2) : cardOk x.c = true := by
  unfold itOk at h
  rw [Bool.and_eq_true] at h
  have h := h.2
  split at h
  · exact h
  · simp [h2] at h
theorem fl_empty {l : List ND} : (l.length : Int) = 0 ↔ l = [] := by
  rw [← List.length_eq_zero_iff]; omega
theorem cmdOk_1 {c : CM} (h : c.kd = 1) : cmdOk c = (decide ({ c with e := ed0 } = { cm0 with kd := c.kd }) && decide (editErr c.e = 0)) := by
  unfold cmdOk
  rw [if_pos h, Bool.decide_and]
  congr 1
  refine decide_eq_decide.mpr ?_
  simp [cm_iff, h, cm0]
theorem cmdOk_5 {c : CM} (h : c.kd = 5) : cmdOk c = (decide ({ c with keep := 0 } = { cm0 with kd := c.kd }) && decide (0 ≤ c.keep ∧ c.keep ≤ 1099511627776)) := by
  unfold cmdOk big
  rw [if_neg (by omega), if_pos h, Bool.decide_and]
  congr 1
  refine decide_eq_decide.mpr ?_
  simp [cm_iff, h, cm0]
theorem cmdOk_r {c : CM} (h1 : c.kd ≠ 1) (h5 : c.kd ≠ 5) (h : c.dev < 0 ∨ 6 ≤ c.dev ∨ c.req < 1 ∨ 1099511627776 < c.req) : cmdOk c = false := by
  unfold cmdOk big
  rw [if_neg h1, if_neg h5, if_pos h]
theorem cmdOk_2 {c : CM} (h : c.kd = 2) (hr : ¬ (c.dev < 0 ∨ 6 ≤ c.dev ∨ c.req < 1 ∨ 1099511627776 < c.req)) : cmdOk c = (decide ({ c with dev := 0, req := 0, id := 0, base := 0, p := pa0 } = { cm0 with kd := c.kd }) && decide (1 ≤ c.id ∧ c.id < 1073741824 ∧ 1 ≤ c.base ∧ c.base ≤ 1099511627776 ∧ patchErr c.p = 0)) := by
  unfold cmdOk big idMax
  rw [if_neg (by omega), if_neg (by omega), if_neg hr, if_pos h, Bool.decide_and]
  congr 1
  refine decide_eq_decide.mpr ?_
  simp [cm_iff, h, cm0]
theorem cmdOk_3 {c : CM} (h : c.kd = 3) (hr : ¬ (c.dev < 0 ∨ 6 ≤ c.dev ∨ c.req < 1 ∨ 1099511627776 < c.req)) : cmdOk c = (decide ({ c with dev := 0, req := 0, fl := [], mask := 0 } = { cm0 with kd := c.kd }) && decide (predErr c.fl = 0 ∧ c.mask.toNat ≤ 511)) := by
  unfold cmdOk big
  rw [if_neg (by omega), if_neg (by omega), if_neg hr, if_neg (by omega), if_pos h, Bool.decide_and]
  congr 1
  refine decide_eq_decide.mpr ?_
  simp [cm_iff, h, cm0]
theorem cmdOk_4 {c : CM} (h : c.kd = 4) (hr : ¬ (c.dev < 0 ∨ 6 ≤ c.dev ∨ c.req < 1 ∨ 1099511627776 < c.req)) : cmdOk c = decide ({ c with dev := 0, req := 0 } = { cm0 with kd := c.kd }) := by
  unfold cmdOk big
  rw [if_neg (by omega), if_neg (by omega), if_neg hr, if_neg (by omega), if_neg (by omega)]
  refine decide_eq_decide.mpr ?_
  simp [cm_iff, h, cm0]
theorem cmdOk_o {c : CM} (h1 : c.kd ≠ 1) (h5 : c.kd ≠ 5) (h2 : c.kd ≠ 2) (h3 : c.kd ≠ 3) (h4 : c.kd ≠ 4) : cmdOk c = false := by
  unfold cmdOk
  rw [if_neg h1, if_neg h5, if_neg h2, if_neg h3]
  split
  · rfl
  · refine decide_eq_false fun h => h4 ?_
    rw [h]
theorem Views.fc {σ : St} {f : F8} {a b : List MV} (h : Views σ a b) : Views σ (fc f ++ a) (fc f ++ b) := Views.app (Views.same _) h
theorem vcm {σ : St} {c : CM} {m : MV} (h : View σ m (.lst 5 (c.fl.map ND.c) false)) : View σ (.agg (c.k m)) (.agg c.c) :=
  View.aggL ⟨.same _, .same _, .same _, .same _, .same _, .same _, Views.fc ⟨.same _, .same _, .same _, .same _, .same _, .same _, .same _, Views.fc ⟨h, .same _, trivial⟩⟩⟩ (CM.cell c)
theorem cmdOk_e {c : CM} (hok : cmdOk c = true) (h : c.kd = 1) : editErr c.e = 0 := by
  rw [cmdOk_1 h, Bool.and_eq_true, decide_eq_true_eq, decide_eq_true_eq] at hok
  exact hok.2
theorem cmdOk_rng {c : CM} (hok : cmdOk c = true) (h1 : c.kd ≠ 1) (h5 : c.kd ≠ 5) : ¬ (c.dev < 0 ∨ 6 ≤ c.dev ∨ c.req < 1 ∨ 1099511627776 < c.req) := fun h => by
  rw [cmdOk_r h1 h5 h] at hok; cases hok
theorem cmdOk_p {c : CM} (hok : cmdOk c = true) (h : c.kd = 2) : patchErr c.p = 0 := by
  rw [cmdOk_2 h (cmdOk_rng hok (by omega) (by omega)), Bool.and_eq_true, decide_eq_true_eq, decide_eq_true_eq] at hok
  exact hok.2.2.2.2.2
theorem cmdOk_f {c : CM} (hok : cmdOk c = true) (h : c.kd = 3) : predErr c.fl = 0 := by
  rw [cmdOk_3 h (cmdOk_rng hok (by omega) (by omega)), Bool.and_eq_true, decide_eq_true_eq, decide_eq_true_eq] at hok
  exact hok.2.1
abbrev MS.c (m : MS) : List MV := m.k (.lst 5 (m.cmd.fl.map ND.c) false) (.lst 5 (m.rep.fl.map ND.c) false) (.lst 28 (IT.ks m.page.items) false)
theorem MS.cell (m : MS) : m.c.all MV.isCell = true := by
  simp only [MS.c, MS.k, List.all_cons, fc_all]; rfl
theorem vms {σ : St} {m : MS} {f g i : MV} (hf : View σ f (.lst 5 (m.cmd.fl.map ND.c) false)) (hg : View σ g (.lst 5 (m.rep.fl.map ND.c) false)) (hi : View σ i (.lst 28 (IT.ks m.page.items) false)) : View σ (.agg (m.k f g i)) (.agg m.c) := by
  refine View.aggL ?_ (MS.cell m)
  repeat (first | exact trivial | refine ⟨.same _, ?_⟩ | refine Views.fc ?_ | refine ⟨hf, ?_⟩ | refine ⟨hg, ?_⟩ | refine ⟨hi, ?_⟩)
/-- A message whose lists are short. -/
structure Sm (m : MS) : Prop where
  f : m.cmd.fl.length ≤ 1000000
  g : m.rep.fl.length ≤ 1000000
  i : m.page.items.length ≤ 1000000
theorem msgOk_1 {m : MS} (h : m.kd = 1) : msgOk m = ((cmdOk m.cmd && decide (m.cmd.kd ≠ 1 ∧ m.cmd.kd ≠ 5)) && decide (({ ms0 with kd := m.kd, cmd := m.cmd } : MS) = m)) := by
  unfold msgOk
  rw [if_pos h, Bool.decide_and, h]
  cases cmdOk m.cmd <;> simp [eq_comm, Bool.and_comm]
theorem msgOk_2 {m : MS} (h : m.kd = 2) : msgOk m = ((tokOk m.tok && decide (1 ≤ m.size ∧ m.size ≤ 16)) && decide (({ ms0 with kd := m.kd, tok := m.tok, size := m.size } : MS) = m)) := by
  unfold msgOk
  rw [if_neg (by omega), if_pos h, Bool.decide_and, h]
  cases tokOk m.tok <;> simp [eq_comm, Bool.and_comm]
theorem msgOk_3 {m : MS} (h : m.kd = 3) : msgOk m = (repOk m.rep && decide (({ ms0 with kd := m.kd, rep := m.rep } : MS) = m)) := by
  unfold msgOk
  rw [if_neg (by omega), if_neg (by omega), if_pos h, h]
  cases repOk m.rep <;> simp [eq_comm]
theorem msgOk_4 {m : MS} (h : m.kd = 4) : msgOk m = (pageOk m.page && decide (({ ms0 with kd := m.kd, page := m.page } : MS) = m)) := by
  unfold msgOk
  rw [if_neg (by omega), if_neg (by omega), if_neg (by omega), if_pos h, h]
  cases pageOk m.page <;> simp [eq_comm]
theorem msgOk_5 {m : MS} (h : m.kd = 5) : msgOk m = (decide (1 ≤ m.code ∧ m.code ≤ 16) && decide (({ ms0 with kd := m.kd, code := m.code } : MS) = m)) := by
  unfold msgOk
  rw [if_neg (by omega), if_neg (by omega), if_neg (by omega), if_neg (by omega), if_pos h, Bool.decide_and, h]
  simp [eq_comm, Bool.and_comm]
theorem msgOk_o {m : MS} (h1 : m.kd ≠ 1) (h2 : m.kd ≠ 2) (h3 : m.kd ≠ 3) (h4 : m.kd ≠ 4) (h5 : m.kd ≠ 5) : msgOk m = false := by
  unfold msgOk
  rw [if_neg h1, if_neg h2, if_neg h3, if_neg h4, if_neg h5]
end Go.Proofs.YtfbodefnblpflaaGreatDoor
end

section
/- Contracts of the program's fields of masks, and of its bytes of values, cards and patches: the conditions that the theorems name. -/
set_option linter.unusedVariables false
set_option linter.unusedSimpArgs false
namespace Go.Proofs.YtfbodefnblpflaaGreatDoor
set_option maxRecDepth 100000
set_option maxHeartbeats 4000000
abbrev intsL (L : List Nat) : List (List MV) := L.map fun (i : Nat) => [.int .i64 (i : Int)]
theorem peach_seq (s : Nat) (hs : s < 256) (l : Nat) : MSeq Tryz.prog 192 [.ptr l 0 0] (St.none.set l (.row 22 1 [[.int .u32 (s : Int)]])) (intsL (bitsL s)) := by
  refine MSeq.of_body 14 Tryz.func192 rfl rfl rfl rfl fun C hC hspec => ?_
  have hxl : (intsL (bitsL s)).length = (bitsL s).length := by simp [intsL]
  rw [hxl]
  refine R_of (ywp_block (ywp_loop (α := Nat × Nat) (fun a => ⟨14, [(0, .fn (.yield C.l) [] []), (1, .ptr l 0 0)], []⟩) (fun a => St.none.set l (.row 22 1 [[.int .u32 (a.1 : Int)]])) (fun a => some a.2)
      (fun a => a.1 < 256 ∧ bitsL a.1 = (bitsL s).drop a.2 ∧ a.2 ≤ (bitsL s).length) (fun a => (bitsL a.1).length) ?_ ?_))
  · refine .of (.less ?_ (St.le_refl _)) ⟨(s, 0), rfl, rfl, rfl, hs, rfl, Nat.zero_le _⟩
    simp (maxSteps := 4000000) (disch := first | decide | assumption | omega | (simp only [wL]; omega)) only [go_sem, simprocAttr, weak_int, weak_same]
  · rintro ⟨x, j⟩ ⟨hx, hj, hjl⟩
    simp only at hx hj hjl ⊢
    by_cases h0 : x = 0
    · subst h0
      rw [bits_zero] at hj
      have hjj : (bitsL s).length ≤ j := by
        refine Classical.byContradiction fun h => ?_
        have := congrArg List.length hj
        rw [List.length_drop] at this
        simp at this
        omega
      have hje : j = (bitsL s).length := by omega
      refine ywp_seq (ywalk ?_)
      repeat' (first | (with_reducible first | (refine wT ?_; refine wN fun _ hnl => ?_; revert hnl; (repeat refine wS fun _ _ => ?_); intro hnl) | refine wD (by decide +kernel) ?_ | refine wI (fun h => ?_) fun h => ?_ | refine wF (fun h => ?_) fun h => ?_ | refine wG (fun h => ?_) fun h => ?_ | refine wH (fun h => ?_) fun h => ?_ | ((first | refine mfork_bool (fun h => ?_) fun h => ?_ | refine mgfork_bool (fun h => ?_) fun h => ?_) <;> simp only [h])) | simp (maxSteps := 4000000) (disch := first | decide | assumption | omega | (simp only [wL]; omega)) only [go_sem, simprocAttr, Tryz.f192])
      refine .inl ?_
      rw [hje]
    · have hlow := bits_low x hx h0
      have hh := headD_lt hx h0
      have hlt : j < (bitsL s).length := by
        refine Classical.byContradiction fun h => ?_
        rw [List.drop_eq_nil_of_le (by omega)] at hj
        rw [hj] at hlow
        cases hlow
      have hdrop := List.drop_eq_getElem_cons hlt
      rw [← hj, hlow] at hdrop
      obtain ⟨hd1, hd2⟩ := List.cons.inj hdrop
      have hnext : x &&& (x - 1) < 256 := Nat.lt_of_le_of_lt Nat.and_le_left hx
      have htz := ptz_call x (by omega) hx
      have ha : andK .u32 (x : Int) ((x : Int) - 1) = ((x &&& (x - 1) : Nat) : Int) := by
        have := and32 x (x - 1) (by omega) (by omega)
        rwa [show ((x - 1 : Nat) : Int) = (x : Int) - 1 by omega] at this
      have hlen : (bitsL (x &&& (x - 1))).length < (bitsL x).length := by
        conv => rhs; rw [hlow]
        simp
      obtain ⟨d, hde⟩ : ∃ d, (bitsL x).headD 0 = d := ⟨_, rfl⟩
      rw [hde] at htz hh hd1
      obtain ⟨y, hy⟩ : ∃ y, x &&& (x - 1) = y := ⟨_, rfl⟩
      rw [hy] at ha hnext hd2 hlen
      clear hlow hdrop hde
      refine ywp_seq (ywalk ?_)
      repeat' (first | (with_reducible first | (refine wT ?_; refine wN fun _ hnl => ?_; revert hnl; (repeat refine wS fun _ _ => ?_); intro hnl) | refine wD (by decide +kernel) ?_ | refine wI (fun h => ?_) fun h => ?_ | refine wF (fun h => ?_) fun h => ?_ | refine wG (fun h => ?_) fun h => ?_ | refine wH (fun h => ?_) fun h => ?_ | ((first | refine mfork_bool (fun h => ?_) fun h => ?_ | refine mgfork_bool (fun h => ?_) fun h => ?_) <;> simp only [h])) | simp (maxSteps := 4000000) (disch := first | decide | assumption | omega | (simp only [wL]; omega)) only [go_sem, simprocAttr, Tryz.f192])
      refine R_of (ywp_seq (ywp_block (ywp_seq (ywp_yield (ops := #[_, _, _, _, _]) [_, _, _] _ [_] rfl rfl rfl rfl rfl (x := [.int .i64 (d : Int)]) (by
        rw [hC]
        rw [List.getElem?_map, List.getElem?_eq_getElem hlt, ← hd1]; rfl) (fun m hm => by simp at hm; subst hm; exact .flat (.int _ _)) hspec ?_))))
      repeat' (first | (with_reducible first | refine up htz ?_) | (with_reducible first | (refine wT ?_; refine wN fun _ hnl => ?_; revert hnl; (repeat refine wS fun _ _ => ?_); intro hnl) | refine wD (by decide +kernel) ?_ | refine wI (fun h => ?_) fun h => ?_ | refine wF (fun h => ?_) fun h => ?_ | refine wG (fun h => ?_) fun h => ?_ | refine wH (fun h => ?_) fun h => ?_ | ((first | refine mfork_bool (fun h => ?_) fun h => ?_ | refine mgfork_bool (fun h => ?_) fun h => ?_) <;> simp only [h])) | simp (maxSteps := 4000000) (disch := first | decide | assumption | omega | (simp only [wL]; omega)) only [go_sem, simprocAttr])
      refine ⟨R_of (ywalk ?_), R_of (ywalk ?_)⟩
      · repeat' (first | (with_reducible first | (refine wT ?_; refine wN fun _ hnl => ?_; revert hnl; (repeat refine wS fun _ _ => ?_); intro hnl) | refine wD (by decide +kernel) ?_ | refine wI (fun h => ?_) fun h => ?_ | refine wF (fun h => ?_) fun h => ?_ | refine wG (fun h => ?_) fun h => ?_ | refine wH (fun h => ?_) fun h => ?_ | ((first | refine mfork_bool (fun h => ?_) fun h => ?_ | refine mgfork_bool (fun h => ?_) fun h => ?_) <;> simp only [h])) | simp (maxSteps := 4000000) (disch := first | decide | assumption | omega | (simp only [wL]; omega)) only [go_sem, simprocAttr])
        refine R_of (ywalk ?_)
        repeat' (first | (with_reducible first | (refine wT ?_; refine wN fun _ hnl => ?_; revert hnl; (repeat refine wS fun _ _ => ?_); intro hnl) | refine wD (by decide +kernel) ?_ | refine wI (fun h => ?_) fun h => ?_ | refine wF (fun h => ?_) fun h => ?_ | refine wG (fun h => ?_) fun h => ?_ | refine wH (fun h => ?_) fun h => ?_ | ((first | refine mfork_bool (fun h => ?_) fun h => ?_ | refine mgfork_bool (fun h => ?_) fun h => ?_) <;> simp only [h])) | simp (maxSteps := 4000000) (disch := first | decide | assumption | omega | (simp only [wL]; omega)) only [go_sem, simprocAttr, ha])
        refine .of (.less ?_ (St.le_refl _)) ⟨(y, j + 1), rfl, rfl, rfl, ⟨hnext, hd2, by omega⟩, hlen⟩
        simp (maxSteps := 4000000) (disch := first | decide | assumption | omega | (simp only [wL]; omega)) only [go_sem, simprocAttr, weak_int, weak_same]
      · repeat' (first | (with_reducible first | (refine wT ?_; refine wN fun _ hnl => ?_; revert hnl; (repeat refine wS fun _ _ => ?_); intro hnl) | refine wD (by decide +kernel) ?_ | refine wI (fun h => ?_) fun h => ?_ | refine wF (fun h => ?_) fun h => ?_ | refine wG (fun h => ?_) fun h => ?_ | refine wH (fun h => ?_) fun h => ?_ | ((first | refine mfork_bool (fun h => ?_) fun h => ?_ | refine mgfork_bool (fun h => ?_) fun h => ?_) <;> simp only [h])) | simp (maxSteps := 4000000) (disch := first | decide | assumption | omega | (simp only [wL]; omega)) only [go_sem, simprocAttr])
        exact .inr trivial
theorem ints_snoc {L : List Nat} {j : Nat} (h : j < L.length) : intsL (L.take (j + 1)) = intsL (L.take j) ++ [[.int .i64 ((L.getD j 0 : Nat) : Int)]] := by
  rw [intsL, List.take_succ_eq_append_getElem h, List.map_append, getD_of_lt 0 h]; rfl
theorem pappseq_call (s : Nat) (hs : s < 256) (l : Nat) : MCalls Tryz.prog 191 [.nils, .fn (.func 192) [] [.ptr l 0 0]] (St.none.set l (.row 22 1 [[.int .u32 (s : Int)]])) (fun r _ => r = .lst 1 (intsL (bitsL s)) false) := by
  refine MCalls.seen (MCalls.body 13 [.tmp 4] Tryz.func191 rfl rfl rfl rfl ?_)
  repeat' (first | (with_reducible first | (refine wT ?_; (first | ((fail_if_success (have := nl1)); refine wN fun nl1 hnl => ?_) | ((fail_if_success (have := nl2)); refine wN fun nl2 hnl => ?_) | ((fail_if_success (have := nl3)); refine wN fun nl3 hnl => ?_) | refine wN fun _ hnl => ?_); revert hnl; (repeat refine wS fun _ _ => ?_); intro hnl) | refine wD (by decide +kernel) ?_ | refine wI (fun h => ?_) fun h => ?_ | refine wF (fun h => ?_) fun h => ?_ | refine wG (fun h => ?_) fun h => ?_ | refine wH (fun h => ?_) fun h => ?_ | ((first | refine mfork_bool (fun h => ?_) fun h => ?_ | refine mgfork_bool (fun h => ?_) fun h => ?_) <;> simp only [h])) | simp (maxSteps := 4000000) (disch := first | decide | assumption | omega | (simp only [wL]; omega)) only [go_sem, simprocAttr, Tryz.f191])
  have d1 : nl1 ≠ l := by assumption
  have hbl := bitsL_len s
  refine R_of (mwp_rangeFunc (gf := 192) (xs := intsL (bitsL s)) rfl (σi := St.none.set l (.row 22 1 [[.int .u32 (s : Int)]])) (St.set_le (St.none_le _) (by simp [St.set, *])) (peach_seq s hs l) ?_ rfl rfl
    (fc := ⟨13, [(2, .ptr nl1 0 0)], []⟩) rfl (α := Nat × List (List MV))
    (fun j a => (St.none.set nl1 (.row 183 1 [[.vec 1 a.1 0 j]])).set a.1 (.row 3 1 (intsL ((bitsL s).take j) ++ a.2))) (fun j a => a.1 ≠ nl1) ?_ ?_ ?_)
  · intro x hx
    obtain ⟨y, _, rfl⟩ := List.mem_map.1 hx
    rfl
  · refine Gh.rowIn (b := nl1) (t := 183) (e := 1) (pre := []) (post := []) 3 1 ?_ fun q hq => ?_
    · simp [St.minus, St.set, St.none, d1]
    · have q1 : q ≠ nl1 := fun e => by subst e; simp [St.minus, St.set, St.none, d1] at hq
      refine .of (.less ?_ (σ1 := (St.none.set nl1 (.row 183 1 [[.vec 1 q 0 0]])).set q (.row 3 1 [])) (le2 (by simp [St.set, q1, Ne.symm q1]) (by simp [St.set]))) ⟨rfl, (q, []), rfl, q1⟩
      simp (maxSteps := 4000000) (disch := first | decide | assumption | omega | (simp only [wL]; omega)) only [go_sem, simprocAttr, weak_int, weak_same]
  · rintro j x ⟨q, ex⟩ hx q1
    simp only at q1 ⊢
    have hjl : j < (bitsL s).length := by
      have := (List.getElem?_eq_some_iff.1 hx).1
      simpa [intsL] using this
    have hxe : x = [.int .i64 (((bitsL s).getD j 0 : Nat) : Int)] := by
      rw [List.getElem?_map, List.getElem?_eq_getElem hjl, ← getD_of_lt 0 hjl] at hx
      exact (Option.some.inj hx).symm
    subst hxe
    have hsn := ints_snoc hjl
    obtain ⟨d, hd⟩ : ∃ d, (bitsL s).getD j 0 = d := ⟨_, rfl⟩
    rw [hd] at hsn ⊢
    have hlj : (intsL ((bitsL s).take j)).length = j := by rw [List.length_map, List.length_take]; omega
    obtain ⟨pre, hpre⟩ : ∃ pre, intsL ((bitsL s).take j) = pre := ⟨_, rfl⟩
    rw [hpre] at hsn hlj ⊢
    change mwp _ _ (FR.mk 13 [(7, .int .i64 (d : Int)), (2, .ptr nl1 0 0)] []) _ _
    have q2 := Ne.symm q1
    have htk : (pre ++ ex).take j = pre := by rw [← hlj, List.take_left']; rfl
    have hdr : (pre ++ ex).drop (j + 1) = ex.drop 1 := by
      rw [← List.drop_drop, ← hlj, List.drop_left']; rfl
    refine mwalk ?_
    repeat' (first | (with_reducible first | (refine wT ?_; (first | ((fail_if_success (have := nl1)); refine wN fun nl1 hnl => ?_) | ((fail_if_success (have := nl2)); refine wN fun nl2 hnl => ?_) | ((fail_if_success (have := nl3)); refine wN fun nl3 hnl => ?_) | refine wN fun _ hnl => ?_); revert hnl; (repeat refine wS fun _ _ => ?_); intro hnl) | refine wD (by decide +kernel) ?_ | refine wI (fun h => ?_) fun h => ?_ | refine wF (fun h => ?_) fun h => ?_ | refine wG (fun h => ?_) fun h => ?_ | refine wH (fun h => ?_) fun h => ?_ | ((first | refine mfork_bool (fun h => ?_) fun h => ?_ | refine mgfork_bool (fun h => ?_) fun h => ?_) <;> simp only [h])) | simp (maxSteps := 4000000) (disch := first | decide | assumption | omega | (simp only [wL]; omega)) only [go_sem, simprocAttr])
    refine R_of (mwalk ?_)
    repeat' (first | (with_reducible first | (refine wT ?_; (first | ((fail_if_success (have := nl1)); refine wN fun nl1 hnl => ?_) | ((fail_if_success (have := nl2)); refine wN fun nl2 hnl => ?_) | ((fail_if_success (have := nl3)); refine wN fun nl3 hnl => ?_) | refine wN fun _ hnl => ?_); revert hnl; (repeat refine wS fun _ _ => ?_); intro hnl) | refine wD (by decide +kernel) ?_ | refine wI (fun h => ?_) fun h => ?_ | refine wF (fun h => ?_) fun h => ?_ | refine wG (fun h => ?_) fun h => ?_ | refine wH (fun h => ?_) fun h => ?_ | ((first | refine mfork_bool (fun h => ?_) fun h => ?_ | refine mgfork_bool (fun h => ?_) fun h => ?_) <;> simp only [h])) | simp (maxSteps := 4000000) (disch := first | decide | assumption | omega | (simp only [wL]; omega)) only [go_sem, simprocAttr, htk, hdr])
    · have hex : ex = [] := List.eq_nil_of_length_eq_zero (by omega)
      subst hex
      clear h
      refine .of (.less (l1 := []) (fun p hp => by cases hp) (σ1 := (St.none.set nl1 (.row 183 1 [[.vec 1 nl3 0 (j + 1)]])).set nl3 (.row 3 1 (intsL ((bitsL s).take (j + 1)) ++ []))) (le2 (by simp [St.set, *]) (by simp [St.set, *]))) ⟨(nl3, []), rfl, by assumption⟩
    · refine .of (.less (l1 := []) (fun p hp => by cases hp) (σ1 := (St.none.set nl1 (.row 183 1 [[.vec 1 nl3 0 (j + 1)]])).set nl3 (.row 3 1 (intsL ((bitsL s).take (j + 1)) ++ ex.drop 1))) (le2 (by simp [St.set, *]) (by simp [St.set, *]))) ⟨(nl3, ex.drop 1), rfl, by assumption⟩
  · rintro ⟨q, ex⟩ q1
    simp only at q1 ⊢
    have q2 := Ne.symm q1
    have hli : (intsL (bitsL s)).length = (bitsL s).length := List.length_map _
    rw [hli, List.take_length]
    show R _
    repeat' (first | (with_reducible first | (refine wT ?_; (first | ((fail_if_success (have := nl1)); refine wN fun nl1 hnl => ?_) | ((fail_if_success (have := nl2)); refine wN fun nl2 hnl => ?_) | ((fail_if_success (have := nl3)); refine wN fun nl3 hnl => ?_) | refine wN fun _ hnl => ?_); revert hnl; (repeat refine wS fun _ _ => ?_); intro hnl) | refine wD (by decide +kernel) ?_ | refine wI (fun h => ?_) fun h => ?_ | refine wF (fun h => ?_) fun h => ?_ | refine wG (fun h => ?_) fun h => ?_ | refine wH (fun h => ?_) fun h => ?_ | ((first | refine mfork_bool (fun h => ?_) fun h => ?_ | refine mgfork_bool (fun h => ?_) fun h => ?_) <;> simp only [h])) | simp (maxSteps := 4000000) (disch := first | decide | assumption | omega | (simp only [wL]; omega)) only [go_sem, simprocAttr])
    exact viewR (set_hit _ _ _)
theorem pcollect_call (s : Nat) (hs : s < 256) (l : Nat) : MCalls Tryz.prog 179 [.fn (.func 192) [] [.ptr l 0 0]] (St.none.set l (.row 22 1 [[.int .u32 (s : Int)]])) (fun r _ => r = .lst 1 (intsL (bitsL s)) false) := by
  refine (MCalls.body 5 [.tmp 2] Tryz.func179 rfl rfl rfl rfl ?_)
  have h := pappseq_call s hs l
  repeat' (first | (with_reducible first | (refine wT ?_; refine wN fun _ hnl => ?_; revert hnl; (repeat refine wS fun _ _ => ?_); intro hnl) | refine wD (by decide +kernel) ?_ | refine wI (fun h => ?_) fun h => ?_ | refine wF (fun h => ?_) fun h => ?_ | refine wG (fun h => ?_) fun h => ?_ | refine wH (fun h => ?_) fun h => ?_ | ((first | refine mfork_bool (fun h => ?_) fun h => ?_ | refine mgfork_bool (fun h => ?_) fun h => ?_) <;> simp only [h])) | simp (maxSteps := 4000000) (disch := first | decide | assumption | omega | (simp only [wL]; omega)) only [go_sem, simprocAttr, Tryz.f179])
  refine use_frame h (St.le_refl _) ?_
  rintro v σ' rfl -
  repeat' (first | (with_reducible first | (refine wT ?_; refine wN fun _ hnl => ?_; revert hnl; (repeat refine wS fun _ _ => ?_); intro hnl) | refine wD (by decide +kernel) ?_ | refine wI (fun h => ?_) fun h => ?_ | refine wF (fun h => ?_) fun h => ?_ | refine wG (fun h => ?_) fun h => ?_ | refine wH (fun h => ?_) fun h => ?_ | ((first | refine mfork_bool (fun h => ?_) fun h => ?_ | refine mgfork_bool (fun h => ?_) fun h => ?_) <;> simp only [h])) | simp (maxSteps := 4000000) (disch := first | decide | assumption | omega | (simp only [wL]; omega)) only [go_sem, simprocAttr])
theorem pfields_call (m : UInt32) : MCalls Tryz.prog 158 [.int .u32 (m.toNat : Int)] St.none (fun r _ => r = .lst 1 (intsL (bitsL m.toNat)) false) := by
  refine (MCalls.body 7 [.tmp 2] Tryz.func158 rfl rfl rfl rfl ?_)
  have ha : andK .u32 (m.toNat : Int) 255 = _ := and32 m.toNat 255 m.toNat_lt (by decide)
  have hlt : m.toNat &&& 255 < 256 := Nat.lt_of_le_of_lt Nat.and_le_right (by decide)
  have hb := bitsL_and m.toNat
  obtain ⟨s, hs⟩ : ∃ s, m.toNat &&& 255 = s := ⟨_, rfl⟩
  rw [hs] at ha hlt hb
  have he : MCalls Tryz.prog 180 [.int .u32 (s : Int)] St.none (fun v σ' => ∃ l, v = .fn (.func 192) [] [.ptr l 0 0] ∧ σ' = St.none.set l (.row 22 1 [[.int .u32 (s : Int)]])) := by
    refine (MCalls.body 4 [.tmp 2] Tryz.func180 rfl rfl rfl rfl ?_)
    repeat' (first | (with_reducible first | (refine wT ?_; refine wN fun _ hnl => ?_; revert hnl; (repeat refine wS fun _ _ => ?_); intro hnl) | refine wD (by decide +kernel) ?_ | refine wI (fun h => ?_) fun h => ?_ | refine wF (fun h => ?_) fun h => ?_ | refine wG (fun h => ?_) fun h => ?_ | refine wH (fun h => ?_) fun h => ?_ | ((first | refine mfork_bool (fun h => ?_) fun h => ?_ | refine mgfork_bool (fun h => ?_) fun h => ?_) <;> simp only [h])) | simp (maxSteps := 4000000) (disch := first | decide | assumption | omega | (simp only [wL]; omega)) only [go_sem, simprocAttr, Tryz.f180])
    exact ⟨_, rfl, rfl⟩
  repeat' (first | (with_reducible first | (refine wT ?_; refine wN fun _ hnl => ?_; revert hnl; (repeat refine wS fun _ _ => ?_); intro hnl) | refine wD (by decide +kernel) ?_ | refine wI (fun h => ?_) fun h => ?_ | refine wF (fun h => ?_) fun h => ?_ | refine wG (fun h => ?_) fun h => ?_ | refine wH (fun h => ?_) fun h => ?_ | ((first | refine mfork_bool (fun h => ?_) fun h => ?_ | refine mgfork_bool (fun h => ?_) fun h => ?_) <;> simp only [h])) | simp (maxSteps := 4000000) (disch := first | decide | assumption | omega | (simp only [wL]; omega)) only [go_sem, simprocAttr, Tryz.f158, ha])
  refine use_new he fun l hl => ?_
  repeat' (first | (with_reducible first | (refine wT ?_; refine wN fun _ hnl => ?_; revert hnl; (repeat refine wS fun _ _ => ?_); intro hnl) | refine wD (by decide +kernel) ?_ | refine wI (fun h => ?_) fun h => ?_ | refine wF (fun h => ?_) fun h => ?_ | refine wG (fun h => ?_) fun h => ?_ | refine wH (fun h => ?_) fun h => ?_ | ((first | refine mfork_bool (fun h => ?_) fun h => ?_ | refine mgfork_bool (fun h => ?_) fun h => ?_) <;> simp only [h])) | simp (maxSteps := 4000000) (disch := first | decide | assumption | omega | (simp only [wL]; omega)) only [go_sem, simprocAttr])
  have h := pcollect_call s hlt l
  refine use_frame h (St.le_refl _) ?_
  rintro v σ' rfl -
  repeat' (first | (with_reducible first | (refine wT ?_; refine wN fun _ hnl => ?_; revert hnl; (repeat refine wS fun _ _ => ?_); intro hnl) | refine wD (by decide +kernel) ?_ | refine wI (fun h => ?_) fun h => ?_ | refine wF (fun h => ?_) fun h => ?_ | refine wG (fun h => ?_) fun h => ?_ | refine wH (fun h => ?_) fun h => ?_ | ((first | refine mfork_bool (fun h => ?_) fun h => ?_ | refine mgfork_bool (fun h => ?_) fun h => ?_) <;> simp only [h])) | simp (maxSteps := 4000000) (disch := first | decide | assumption | omega | (simp only [wL]; omega)) only [go_sem, simprocAttr])
  rw [hb]
end Go.Proofs.YtfbodefnblpflaaGreatDoor
end

section
/- Contract of the program's next number: the conditions that the theorem names. -/
set_option linter.unusedVariables false
set_option linter.unusedSimpArgs false
namespace Go.Proofs.YtfbodefnblpflaaGreatDoor
set_option maxRecDepth 100000
theorem Sfx.get {bs : BL} {r : RD} (h : Sfx bs r) {i : Nat} (hi : i < r.l.length) : bs.getD (bs.length - r.l.length + i) 0 = r.l.getD i 0 := by
  have := h.drop
  rw [← this, List.getD_eq_getElem?_getD, List.getD_eq_getElem?_getD, List.getElem?_drop, this]
end Go.Proofs.YtfbodefnblpflaaGreatDoor
end

section
/- Contracts of the program's reader: the conditions that the theorems name. -/
set_option linter.unusedVariables false
set_option linter.unusedSimpArgs false
namespace Go.Proofs.YtfbodefnblpflaaGreatDoor
set_option maxRecDepth 100000
/-- Few bytes. -/
class Few (bs : BL) : Prop where
  h : bs.length ≤ 1000000
end Go.Proofs.YtfbodefnblpflaaGreatDoor
end

section
/- Contracts of the program's bytes of values, cards and patches: the conditions that the theorems name. -/
set_option linter.unusedVariables false
set_option linter.unusedSimpArgs false
namespace Go.Proofs.YtfbodefnblpflaaGreatDoor
set_option maxRecDepth 100000
set_option maxHeartbeats 4000000
/-- The program's numbers behind bytes, in regions that draw their order. -/
noncomputable def pnumK (C : Know) : Know := fun g ms => if g = 21 then match ms with | [.lst 1 xs t, .int .i64 n] => some ⟨[], fun v => v = .lst 1 (xs ++ (numB n).map bc) false, none⟩ | _ => none else C g ms
theorem pnumK_hit {C : Know} {bs : BL} {t : Bool} {n : Int} : pnumK C 21 [.lst 1 (bs.map bc) t, .int .i64 n] = some ⟨[], fun v => v = .lst 1 ((bs ++ numB n).map bc) false, none⟩ := by
  simp only [pnumK, if_true, List.map_append]
theorem pputval_call (bs : BL) (hb : bs.length ≤ 500000) (t : Bool) (v : VA) (hok : vaOk v = true) : MCalls Tryz.prog 159 [.lst 1 (bs.map bc) t, .agg v.c] St.none (fun r _ => r = .lst 1 ((bs ++ valB v).map bc) false) := by
  refine MCalls.drops (MCalls.body 29 [.tmp 4] Tryz.func159 rfl rfl rfl rfl ?_)
  have hc := vcheck_call v.kd v.n v.s
  have hc : MCalls Tryz.prog 151 [.agg v.c] St.none (fun r _ => r = .bool (vaOk v)) := hc
  rw [hok] at hc
  have hsz := vaOk_size hok
  have hn := numB_len v.kd
  have h1 := pnum_call bs t v.kd (by omega)
  have h2 := pnum_call (bs ++ numB v.kd) false v.n (by rw [List.length_append]; omega)
  have h3 := pstr_call (bs ++ numB v.kd) false (bl v.s) (by rw [List.length_append]; omega) (by have : (bl v.s).length = v.s.size := rfl; omega)
  rw [bsS_of] at h3
  have hk : v.kd = 0 ∨ v.kd = 1 ∨ v.kd = 2 := by
    rcases (vaOk_iff v).1 hok with ⟨h, -⟩ | ⟨h, -⟩ | ⟨h, -⟩ <;> omega
  unfold valB
  rw [if_pos hok]
  by_cases k1 : v.kd = 1
  · rw [if_pos k1, ← List.append_assoc]
    repeat' (first | (with_reducible first | refine up hc ?_ | refine up h1 ?_ | refine up h2 ?_) | (with_reducible first | (refine wT ?_; refine wN fun _ hnl => ?_; revert hnl; (repeat refine wS fun _ _ => ?_); intro hnl) | refine wD (by decide +kernel) ?_ | refine wI (fun h => ?_) fun h => ?_ | refine wF (fun h => ?_) fun h => ?_ | refine wG (fun h => ?_) fun h => ?_ | refine wH (fun h => ?_) fun h => ?_ | ((first | refine mfork_bool (fun h => ?_) fun h => ?_ | refine mgfork_bool (fun h => ?_) fun h => ?_) <;> simp only [h])) | simp (maxSteps := 4000000) (disch := first | decide | assumption | omega | (simp only [wL]; omega)) only [go_sem, simprocAttr, Tryz.f159])
    all_goals first | exact ⟨_, St.le_refl _, rfl⟩ | exact ⟨_, St.le_refl _⟩
  · rw [if_neg k1]
    by_cases k2 : v.kd = 2
    · rw [if_pos k2, ← List.append_assoc]
      repeat' (first | (with_reducible first | refine up hc ?_ | refine up h1 ?_ | refine up h3 ?_) | (with_reducible first | (refine wT ?_; refine wN fun _ hnl => ?_; revert hnl; (repeat refine wS fun _ _ => ?_); intro hnl) | refine wD (by decide +kernel) ?_ | refine wI (fun h => ?_) fun h => ?_ | refine wF (fun h => ?_) fun h => ?_ | refine wG (fun h => ?_) fun h => ?_ | refine wH (fun h => ?_) fun h => ?_ | ((first | refine mfork_bool (fun h => ?_) fun h => ?_ | refine mgfork_bool (fun h => ?_) fun h => ?_) <;> simp only [h])) | simp (maxSteps := 4000000) (disch := first | decide | assumption | omega | (simp only [wL]; omega)) only [go_sem, simprocAttr, Tryz.f159])
      all_goals first | exact ⟨_, St.le_refl _, rfl⟩ | exact ⟨_, St.le_refl _⟩
    · rw [if_neg k2, List.append_nil]
      repeat' (first | (with_reducible first | refine up hc ?_ | refine up h1 ?_) | (with_reducible first | (refine wT ?_; refine wN fun _ hnl => ?_; revert hnl; (repeat refine wS fun _ _ => ?_); intro hnl) | refine wD (by decide +kernel) ?_ | refine wI (fun h => ?_) fun h => ?_ | refine wF (fun h => ?_) fun h => ?_ | refine wG (fun h => ?_) fun h => ?_ | refine wH (fun h => ?_) fun h => ?_ | ((first | refine mfork_bool (fun h => ?_) fun h => ?_ | refine mgfork_bool (fun h => ?_) fun h => ?_) <;> simp only [h])) | simp (maxSteps := 4000000) (disch := first | decide | assumption | omega | (simp only [wL]; omega)) only [go_sem, simprocAttr, Tryz.f159])
      all_goals first | exact ⟨_, St.le_refl _, rfl⟩ | exact ⟨_, St.le_refl _⟩
def vbs (f : F8) (L : List Nat) : BL := (L.map fun i => valB (f.get i)).flatten
theorem vbs_snoc {f : F8} {L : List Nat} {j : Nat} (h : j < L.length) : vbs f (L.take (j + 1)) = vbs f (L.take j) ++ valB (f.get (L.getD j 0)) := by
  unfold vbs
  rw [List.take_succ_eq_append_getElem h, List.map_append, List.flatten_append, ← getD_of_lt 0 h]; simp
theorem vbs_len (f : F8) : ∀ L : List Nat, (vbs f L).length ≤ 36 * L.length
  | [] => by simp [vbs]
  | i :: L => by
    have := vbs_len f L
    have h := (inferInstance : LB (valB (f.get i)) 36).h
    unfold vbs at this ⊢
    simp only [List.map_cons, List.flatten_cons, List.length_append, List.length_cons]
    omega
theorem pputpatch_call (bs : BL) (hb : bs.length ≤ 400000) (t : Bool) (p : PA) (hok : patchErr p = 0) : MCalls Tryz.prog 105 [.lst 1 (bs.map bc) t, .agg p.c] St.none (fun r _ => r = .lst 1 ((bs ++ patchB p).map bc) false) := by
  refine MCalls.drops (MCalls.body 41 [.tmp 4] Tryz.func105 rfl rfl rfl rfl ?_)
  have hc := pcpatch_call p
  rw [hok] at hc
  have hm := pmlab_call p.mask
  have hf := pfields_call p.mask
  have h1 := numB_len (p.mask.toNat : Int)
  have h2 := numB_len (p.lab.toNat : Int)
  have hmt := p.mask.toNat_lt
  have hlt := p.lab.toNat_lt
  have n1 := pnum_call bs t (p.mask.toNat : Int) (by omega)
  have n2 := pnum_call (bs ++ numB (p.mask.toNat : Int)) false (p.lab.toNat : Int) (by rw [List.length_append]; omega)
  have hva := ((patchErr_iff p).1 hok).2.2
  have hbl := bitsL_len p.mask.toNat
  have hlt8 := fun i => bitsL_lt (m := p.mask.toNat) (i := i)
  have e : patchB p = numB p.mask.toNat ++ (if bit p.mask.toNat 8 = true then numB p.lab.toNat else []) ++ vbs p.f (bitsL p.mask.toNat) := by rw [patchB, if_pos hok, fieldsB_bits]; rfl
  rw [e]
  obtain ⟨L, hL⟩ : ∃ L, bitsL p.mask.toNat = L := ⟨_, rfl⟩
  rw [hL] at hf hbl hlt8 ⊢
  obtain ⟨b8, hb8⟩ : ∃ b, bit p.mask.toNat 8 = b := ⟨_, rfl⟩
  rw [hb8] at hm ⊢
  obtain ⟨hd, hhd⟩ : ∃ hd, bs ++ (numB p.mask.toNat ++ (if b8 = true then numB p.lab.toNat else [])) = hd := ⟨_, rfl⟩
  have hdl : hd.length ≤ 400012 := by rw [← hhd, List.length_append, List.length_append]; split <;> (try simp only [List.length_nil]) <;> omega
  rw [← List.append_assoc, hhd]
  cases b8
  all_goals
    simp only [if_true, Bool.false_eq_true, if_false, List.append_nil, ← List.append_assoc] at hhd
    repeat' (first | (with_reducible first | refine up hc ?_ | refine up hm ?_ | refine up hf ?_ | refine up n1 ?_ | refine up n2 ?_) | (with_reducible first | (refine wT ?_; (first | ((fail_if_success (have := nl1)); refine wN fun nl1 hnl => ?_) | refine wN fun _ hnl => ?_); revert hnl; (repeat refine wS fun _ _ => ?_); intro hnl) | refine wD (by decide +kernel) ?_ | refine wI (fun h => ?_) fun h => ?_ | refine wF (fun h => ?_) fun h => ?_ | refine wG (fun h => ?_) fun h => ?_ | refine wH (fun h => ?_) fun h => ?_ | ((first | refine mfork_bool (fun h => ?_) fun h => ?_ | refine mgfork_bool (fun h => ?_) fun h => ?_) <;> simp only [h])) | simp (maxSteps := 4000000) (disch := first | decide | assumption | omega | (simp only [wL]; omega)) only [go_sem, simprocAttr, Tryz.f105, fc_zero, fc_len, fc_cell, fc_take, fc_take', fc_drop, fc_drop', fc_getD, drop_two, drop_three, take_two, take_three, getD_two, getD_three, fc_at, fc_at_app, fc_get0, fc_get1, fc_get2, fc_fold, F8.get_hit, fc_all, fc_assoc, List.append_nil, List.take_zero, u32z, List.cons_append, List.nil_append])
    rw [hhd]
    refine mloop_intro (α := Nat) (fun k => ⟨41, [(29, .int .i64 (k : Int)), (28, .int .i64 (L.length : Int)), (27, .lst 1 (intsL L) false), (3, .ptr nl1 0 0), (0, .lst 1 ((hd ++ vbs p.f (L.take k)).map bc) false)], []⟩) (fun _ => St.none.set nl1 (.row 27 26 [p.c])) (fun k => k ≤ L.length) (fun k => L.length - k) (.of (.less ?_ (St.le_refl _)) ⟨0, rfl, rfl, Nat.zero_le _⟩) ?_
    · rw [show vbs p.f (L.take 0) = [] from rfl, List.append_nil]
      simp (maxSteps := 4000000) (disch := first | decide | assumption | omega | (simp only [wL]; omega)) only [go_sem, simprocAttr, weak_int, weak_same]
      all_goals rfl
    · intro k hk
      have hk : k ≤ L.length := hk
      by_cases hkl : k < L.length
      · have hi8 := hlt8 _ (getD_mem 0 hkl)
        have hsn := vbs_snoc (f := p.f) hkl
        have hvl := vbs_len p.f (L.take k)
        rw [List.length_take, Nat.min_eq_left hk] at hvl
        obtain ⟨i, hi⟩ : ∃ i, L.getD k 0 = i := ⟨_, rfl⟩
        rw [hi] at hi8 hsn
        obtain ⟨pre, hpre⟩ : ∃ pre, vbs p.f (L.take k) = pre := ⟨_, rfl⟩
        rw [hpre] at hsn hvl ⊢
        have hv := pputval_call (hd ++ pre) (by rw [List.length_append]; omega) false (p.f.get i) (hva i hi8).1
        have hat := fc_at (f := p.f) hi8
        repeat' (first | (with_reducible first | refine up hv ?_) | (with_reducible first | (refine wT ?_; (first | ((fail_if_success (have := nl1)); refine wN fun nl1 hnl => ?_) | refine wN fun _ hnl => ?_); revert hnl; (repeat refine wS fun _ _ => ?_); intro hnl) | refine wD (by decide +kernel) ?_ | refine wI (fun h => ?_) fun h => ?_ | refine wF (fun h => ?_) fun h => ?_ | refine wG (fun h => ?_) fun h => ?_ | refine wH (fun h => ?_) fun h => ?_ | ((first | refine mfork_bool (fun h => ?_) fun h => ?_ | refine mgfork_bool (fun h => ?_) fun h => ?_) <;> simp only [h])) | simp (maxSteps := 4000000) (disch := first | decide | assumption | omega | (simp only [wL]; omega)) only [go_sem, simprocAttr, fc_zero, fc_len, fc_cell, fc_take, fc_take', fc_drop, fc_drop', fc_getD, drop_two, drop_three, take_two, take_three, getD_two, getD_three, fc_at, fc_at_app, fc_get0, fc_get1, fc_get2, fc_fold, F8.get_hit, fc_all, fc_assoc, List.append_nil, List.take_zero, u32z, List.cons_append, List.nil_append, getD_mapd (0 : Nat), hi, hat])
        refine .of (.less (l1 := [(29, .int .i64 ((k + 1 : Nat) : Int)), (28, .int .i64 (L.length : Int)), (27, .lst 1 (intsL L) false), (3, .ptr nl1 0 0), (0, .lst 1 ((hd ++ vbs p.f (L.take (k + 1))).map bc) false)]) ?_ (St.le_refl _)) ⟨k + 1, rfl, rfl, by omega, by omega⟩
        rw [hsn, ← List.append_assoc]
        simp (maxSteps := 4000000) (disch := first | decide | assumption | omega | (simp only [wL]; omega)) only [go_sem, simprocAttr, weak_int, weak_same]
        all_goals rfl
      · have : k = L.length := by omega
        subst this
        rw [List.take_length]
        repeat' (first | (with_reducible first | (refine wT ?_; (first | ((fail_if_success (have := nl1)); refine wN fun nl1 hnl => ?_) | refine wN fun _ hnl => ?_); revert hnl; (repeat refine wS fun _ _ => ?_); intro hnl) | refine wD (by decide +kernel) ?_ | refine wI (fun h => ?_) fun h => ?_ | refine wF (fun h => ?_) fun h => ?_ | refine wG (fun h => ?_) fun h => ?_ | refine wH (fun h => ?_) fun h => ?_ | ((first | refine mfork_bool (fun h => ?_) fun h => ?_ | refine mgfork_bool (fun h => ?_) fun h => ?_) <;> simp only [h])) | simp (maxSteps := 4000000) (disch := first | decide | assumption | omega | (simp only [wL]; omega)) only [go_sem, simprocAttr])
        all_goals first | exact ⟨_, St.le_refl _, rfl⟩ | exact ⟨_, St.le_refl _⟩
end Go.Proofs.YtfbodefnblpflaaGreatDoor
end

section
/- Contracts of the program's edits: the conditions that the theorems name. -/
set_option linter.unusedVariables false
set_option linter.unusedSimpArgs false
namespace Go.Proofs.YtfbodefnblpflaaGreatDoor
set_option maxRecDepth 100000
set_option maxHeartbeats 4000000
def edW (w k : Int) : Bool := if w = 1 then edG k else if w = 2 then edI k else edP k
theorem phas_call (k w : Int) (h0 : 0 ≤ k) (h7 : k ≤ 7) (hw : w = 1 ∨ w = 2 ∨ w = 4) : MCalls Tryz.prog 149 [.int .i64 k, .int .i64 w] St.none (fun r _ => r = .bool (edW w k)) := by
  refine (MCalls.body 12 [.tmp 4] Tryz.func149 rfl rfl rfl rfl ?_)
  have hk : k = 0 ∨ k = 1 ∨ k = 2 ∨ k = 3 ∨ k = 4 ∨ k = 5 ∨ k = 6 ∨ k = 7 := by omega
  rcases hk with rfl | rfl | rfl | rfl | rfl | rfl | rfl | rfl <;> rcases hw with rfl | rfl | rfl
  all_goals
    repeat' (first | (with_reducible first | (refine wT ?_; refine wN fun _ hnl => ?_; revert hnl; (repeat refine wS fun _ _ => ?_); intro hnl) | refine wD (by decide +kernel) ?_ | refine wI (fun h => ?_) fun h => ?_ | refine wF (fun h => ?_) fun h => ?_ | refine wG (fun h => ?_) fun h => ?_ | refine wH (fun h => ?_) fun h => ?_ | ((first | refine mfork_bool (fun h => ?_) fun h => ?_ | refine mgfork_bool (fun h => ?_) fun h => ?_) <;> simp only [h])) | simp (maxSteps := 4000000) (disch := first | decide | assumption | omega | (simp only [wL]; omega)) only [go_sem, simprocAttr, Tryz.f149])
    try decide
theorem pecheck_call (e : ED) : MCalls Tryz.prog 99 [.agg e.c] St.none (fun r _ => r = .int .i64 (editErr e)) := by
  refine MCalls.drops (MCalls.body 69 [.tmp 2] Tryz.func99 rfl rfl rfl rfl ?_)
  have hq : mbin Tryz.prog 27 .neq (.agg (.int .u32 (e.p.mask.toNat : Int) :: .int .u32 (e.p.lab.toNat : Int) :: fc e.p.f)) (.agg (.int .u32 0 :: .int .u32 0 :: fc f80)) = some (True, .bool (!decide (e.p = pa0))) := mbn_patch e.p pa0
  by_cases h : e.kd < 1 ∨ 7 < e.kd
  · have e1 : editErr e = 1 := by unfold editErr; rw [if_pos h]
    rw [e1]
    repeat' (first | (with_reducible first | (refine wT ?_; refine wN fun _ hnl => ?_; revert hnl; (repeat refine wS fun _ _ => ?_); intro hnl) | refine wD (by decide +kernel) ?_ | refine wI (fun h => ?_) fun h => ?_ | refine wF (fun h => ?_) fun h => ?_ | refine wG (fun h => ?_) fun h => ?_ | refine wH (fun h => ?_) fun h => ?_ | ((first | refine mfork_bool (fun h => ?_) fun h => ?_ | refine mgfork_bool (fun h => ?_) fun h => ?_) <;> simp only [h])) | simp (maxSteps := 4000000) (disch := first | decide | assumption | omega | (simp only [wL]; omega)) only [go_sem, simprocAttr, Tryz.f99, fc_zero, fc_len, fc_cell, fc_take, fc_take', fc_drop, fc_drop', fc_getD, drop_two, drop_three, take_two, take_three, getD_two, getD_three, fc_at, fc_at_app, fc_get0, fc_get1, fc_get2, fc_fold, F8.get_hit])
    all_goals first | exact ⟨_, St.le_refl _, rfl⟩ | exact ⟨_, St.le_refl _⟩ | skip
    all_goals (exfalso; omega)
  · have hg := phas_call e.kd 1 (by omega) (by omega) (.inl rfl)
    have hi := phas_call e.kd 2 (by omega) (by omega) (.inr (.inl rfl))
    have hp := phas_call e.kd 4 (by omega) (by omega) (.inr (.inr rfl))
    have hc := pcpatch_call e.p
    rw [show edW 1 e.kd = edG e.kd from rfl] at hg
    rw [show edW 2 e.kd = edI e.kd from rfl] at hi
    rw [show edW 4 e.kd = edP e.kd from rfl] at hp
    obtain ⟨res, hres⟩ : ∃ x, editErr e = x := ⟨_, rfl⟩
    rw [hres]
    unfold editErr at hres
    rw [if_neg h] at hres
    obtain ⟨bg, hbg⟩ : ∃ b, edG e.kd = b := ⟨_, rfl⟩
    obtain ⟨bi, hbi⟩ : ∃ b, edI e.kd = b := ⟨_, rfl⟩
    obtain ⟨bp, hbp⟩ : ∃ b, edP e.kd = b := ⟨_, rfl⟩
    obtain ⟨qp, hqp⟩ : ∃ b, decide (e.p = pa0) = b := ⟨_, rfl⟩
    have hqq : e.p = pa0 ↔ qp = true := by rw [← hqp]; simp
    obtain ⟨pe, hpe⟩ : ∃ x, patchErr e.p = x := ⟨_, rfl⟩
    rw [hbg] at hg hres
    rw [hbi] at hi hres
    rw [hbp] at hp hres
    rw [hqp] at hq
    rw [hpe] at hc hres
    simp only [hqq, ne_eq, idMax] at hres
    clear hbg hbi hbp hqp hpe hqq
    cases bg <;> cases bi <;> cases bp <;> cases qp
    all_goals
      simp only [true_and, false_and, or_false, false_or, Bool.false_eq_true, Bool.true_eq_false, not_true_eq_false, not_false_eq_true, and_false, and_true, if_true, if_false, reduceCtorEq] at hres
      repeat' (first | (with_reducible first | refine up hg ?_ | refine up hi ?_ | refine up hp ?_ | refine up hc ?_) | (with_reducible first | (refine wT ?_; refine wN fun _ hnl => ?_; revert hnl; (repeat refine wS fun _ _ => ?_); intro hnl) | refine wD (by decide +kernel) ?_ | refine wI (fun h => ?_) fun h => ?_ | refine wF (fun h => ?_) fun h => ?_ | refine wG (fun h => ?_) fun h => ?_ | refine wH (fun h => ?_) fun h => ?_ | ((first | refine mfork_bool (fun h => ?_) fun h => ?_ | refine mgfork_bool (fun h => ?_) fun h => ?_) <;> simp only [h])) | simp (maxSteps := 4000000) (disch := first | decide | assumption | omega | (simp only [wL]; omega)) only [go_sem, simprocAttr, Tryz.f99, fc_zero, fc_len, fc_cell, fc_take, fc_take', fc_drop, fc_drop', fc_getD, drop_two, drop_three, take_two, take_three, getD_two, getD_three, fc_at, fc_at_app, fc_get0, fc_get1, fc_get2, fc_fold, F8.get_hit, hq])
      all_goals first | refine ⟨_, St.le_refl _, ?_⟩ | refine ⟨_, St.le_refl _⟩ | skip
      all_goals (subst hres)
      all_goals first | rfl | (rw [if_pos (by omega)]; done) | (rw [if_neg (by omega)]; done) | (exfalso; omega) | ((repeat' split) <;> first | rfl | omega | (simp_all; done) | (simp_all; omega) | skip)
end Go.Proofs.YtfbodefnblpflaaGreatDoor
end

section
/- Contracts of the program's own functions for filters: the conditions that each theorem names. -/
set_option linter.unusedVariables false
set_option linter.unusedSimpArgs false
namespace Go.Proofs.YtfbodefnblpflaaGreatDoor
def cmpIntV : List MV → MV
  | [.int _ a, .int _ b] => .int .i64 (ordI (cmpL [a] [b]))
  | _ => .junk
theorem or_at (l : Nat) (a b c : Int) : MCalls Tryz.prog 141 [.vec 1 l 0 3] (St.ofList [l] [.row 3 1 [[.int .i64 a], [.int .i64 b], [.int .i64 c]]]) (fun r σ' => r = .int .i64 (if a ≠ 0 then a else if b ≠ 0 then b else c) ∧ σ' = St.ofList [l] [.row 3 1 [[.int .i64 a], [.int .i64 b], [.int .i64 c]]]) :=
  MCalls.lend (or_call a b c) (fun r hr => by rw [hr]; exact .int _ _) rfl (fun i m m' h1 h2 => by
    match i, h1, h2 with
    | 0, h1, h2 =>
      simp only [List.getElem?_cons_zero, Option.some.injEq] at h1 h2
      subst h1 h2
      exact .vecAll (set_hit _ _ _) rfl)
theorem key_or (x y : ND) : (if ordI (cmpL [x.op] [y.op]) ≠ 0 then ordI (cmpL [x.op] [y.op]) else if ordI (cmpL [x.n] [y.n]) ≠ 0 then ordI (cmpL [x.n] [y.n]) else ordI (cmpL x.v.key y.v.key)) = ordI (cmpL x.key y.key) := by
  have z : ∀ a b : Int, ordI (cmpL [a] [b]) = 0 ↔ a = b := fun a b => by rw [ordI_zero, cmpL_eq]; simp
  by_cases h1 : x.op = y.op
  · rw [if_neg (by simp [(z _ _).2 h1])]
    have e1 : cmpL x.key y.key = cmpL (x.n :: x.v.key) (y.n :: y.v.key) := by rw [ND.key, ND.key, h1, cmpL_same]
    by_cases h2 : x.n = y.n
    · rw [if_neg (by simp [(z _ _).2 h2]), e1, h2, cmpL_same]
    · rw [if_pos (by rw [ne_eq, z]; exact h2), e1, cmpL_ne (x := x.v.key) (y := y.v.key) h2]
  · rw [if_pos (by rw [ne_eq, z]; exact h1), ND.key, ND.key, cmpL_ne (x := x.n :: x.v.key) (y := y.n :: y.v.key) h1]
def orC (x y : ND) : Know := fun g ms => if g = 142 then some ⟨[], fun v => v = cmpIntV ms, none⟩ else if g = 143 then some ⟨[], fun v => v = .int .i64 (ordI (cmpL x.v.key y.v.key)), none⟩ else if g = 141 then (match ms with
    | [.vec _ l _ _] => some ⟨[l], fun v => v = .int .i64 (ordI (cmpL x.key y.key)), none⟩
    | _ => none) else none
theorem pcmp1_call (x y : ND) : MCalls Tryz.prog 140 [.agg x.c, .agg y.c] St.none (fun r _ => r = .int .i64 (ordI (cmpL x.key y.key))) := by
  refine (MCalls.body 22 [.tmp 4] Tryz.func140 rfl rfl rfl rfl ?_)
  have hv := vcompare_call x.v y.v
  have ho := fun l => or_at l (ordI (cmpL [x.op] [y.op])) (ordI (cmpL [x.n] [y.n])) (ordI (cmpL x.v.key y.v.key))
  simp only [key_or] at ho
  repeat' (first | (with_reducible refine mdraw_know mixed (by decide +kernel) (orC x y) ?_) | (with_reducible refine know_pure rfl (cmpint_call _ _) ?_) | (with_reducible refine know_pure rfl hv ?_) | (with_reducible first | (refine wN fun nl hnl => ?_; revert hnl; (repeat refine wS fun _ _ => ?_); intro hnl) | refine wD (by decide +kernel) ?_ | refine wI (fun h => ?_) fun h => ?_ | refine wF (fun h => ?_) fun h => ?_ | refine wG (fun h => ?_) fun h => ?_ | refine wH (fun h => ?_) fun h => ?_ | ((first | refine mfork_bool (fun h => ?_) fun h => ?_ | refine mgfork_bool (fun h => ?_) fun h => ?_) <;> simp only [h])) | simp (maxSteps := 4000000) (disch := first | decide | assumption | omega | (simp only [wL]; omega)) only [go_sem, simprocAttr, Tryz.f140])
  refine know_at [nl] [.row 3 1 [[.int .i64 (ordI (cmpL [x.op] [y.op]))], [.int .i64 (ordI (cmpL [x.n] [y.n]))], [.int .i64 (ordI (cmpL x.v.key y.v.key))]]] rfl ?_ (ho nl) ⟨_, rfl⟩ (fun v hv => ?_)
  · simp (maxSteps := 4000000) (disch := first | decide | assumption | omega | (simp only [wL]; omega)) only [go_sem, simprocAttr]
  subst hv
  repeat' (first | (with_reducible first | (refine wN fun nl hnl => ?_; revert hnl; (repeat refine wS fun _ _ => ?_); intro hnl) | refine wD (by decide +kernel) ?_ | refine wI (fun h => ?_) fun h => ?_ | refine wF (fun h => ?_) fun h => ?_ | refine wG (fun h => ?_) fun h => ?_ | refine wH (fun h => ?_) fun h => ?_ | ((first | refine mfork_bool (fun h => ?_) fun h => ?_ | refine mgfork_bool (fun h => ?_) fun h => ?_) <;> simp only [h])) | simp (maxSteps := 4000000) (disch := first | decide | assumption | omega | (simp only [wL]; omega)) only [go_sem, simprocAttr])
theorem vaOk_kd {v : VA} (h : vaOk v = true) : v.kd = 0 ∨ v.kd = 1 ∨ v.kd = 2 := by
  unfold vaOk at h
  split at h
  · exact .inl ‹_›
  · split at h
    · exact .inr (.inl ‹_›)
    · split at h
      · exact .inr (.inr ‹_›)
      · cases h
set_option maxHeartbeats 4000000 in
theorem pnode_call (x : ND) : MCalls Tryz.prog 155 [.agg x.c] St.none (fun r _ => r = .bool (ndOk x)) := by
  refine (MCalls.body 49 [.tmp 2] Tryz.func155 rfl rfl rfl rfl ?_)
  obtain ⟨op, n, kd, vn, s⟩ := x
  have hvc := vcheck_call kd vn s
  cases hv : vaOk ⟨kd, vn, s⟩
  · rw [hv] at hvc
    have h0 : (⟨kd, vn, s⟩ : VA) ≠ va0 := fun e => by rw [e] at hv; simp [vaOk, va0] at hv
    have hn : ndOk ⟨op, n, kd, vn, s⟩ = false := by simp [ndOk, h0, hv]
    rw [hn]
    repeat' (first | (with_reducible refine use_pure hvc ?_) | (with_reducible first | (refine wN fun nl hnl => ?_; revert hnl; (repeat refine wS fun _ _ => ?_); intro hnl) | refine wD (by decide +kernel) ?_ | refine wI (fun h => ?_) fun h => ?_ | refine wF (fun h => ?_) fun h => ?_ | refine wG (fun h => ?_) fun h => ?_ | refine wH (fun h => ?_) fun h => ?_ | ((first | refine mfork_bool (fun h => ?_) fun h => ?_ | refine mgfork_bool (fun h => ?_) fun h => ?_) <;> simp only [h])) | simp (maxSteps := 4000000) (disch := first | decide | assumption | omega | (simp only [wL]; omega)) only [go_sem, simprocAttr, Tryz.f155])
  · rw [hv] at hvc
    rcases vaOk_kd hv with h | h | h
    · simp only at h
      subst h
      have hz : (⟨0, vn, s⟩ : VA) = va0 := by simpa [vaOk] using hv
      simp only [va0, VA.mk.injEq, true_and] at hz
      obtain ⟨rfl, rfl⟩ := hz
      repeat' (first | (with_reducible refine use_pure hvc ?_) | (with_reducible first | (refine wN fun nl hnl => ?_; revert hnl; (repeat refine wS fun _ _ => ?_); intro hnl) | refine wD (by decide +kernel) ?_ | refine wI (fun h => ?_) fun h => ?_ | refine wF (fun h => ?_) fun h => ?_ | refine wG (fun h => ?_) fun h => ?_ | refine wH (fun h => ?_) fun h => ?_ | ((first | refine mfork_bool (fun h => ?_) fun h => ?_ | refine mgfork_bool (fun h => ?_) fun h => ?_) <;> simp only [h])) | simp (maxSteps := 4000000) (disch := first | decide | assumption | omega | (simp only [wL]; omega)) only [go_sem, simprocAttr, Tryz.f155])
      all_goals first
        | (simp [ndOk, va0, vaOk, andK, IntKind.wrap, IntKind.bits, IntKind.signed, *]; done)
        | (simp [ndOk, va0, vaOk, andK, IntKind.wrap, IntKind.bits, IntKind.signed, *]; omega)
        | (simp [ndOk, va0, vaOk, andK, IntKind.wrap, IntKind.bits, IntKind.signed, *]; decide)
    · simp only at h
      subst h
      have hz : (⟨1, vn, s⟩ : VA) ≠ va0 := by simp [va0]
      repeat' (first | (with_reducible refine use_pure hvc ?_) | (with_reducible first | (refine wN fun nl hnl => ?_; revert hnl; (repeat refine wS fun _ _ => ?_); intro hnl) | refine wD (by decide +kernel) ?_ | refine wI (fun h => ?_) fun h => ?_ | refine wF (fun h => ?_) fun h => ?_ | refine wG (fun h => ?_) fun h => ?_ | refine wH (fun h => ?_) fun h => ?_ | ((first | refine mfork_bool (fun h => ?_) fun h => ?_ | refine mgfork_bool (fun h => ?_) fun h => ?_) <;> simp only [h])) | simp (maxSteps := 4000000) (disch := first | decide | assumption | omega | (simp only [wL]; omega)) only [go_sem, simprocAttr, Tryz.f155])
      all_goals first
        | (simp [ndOk, hz, hv, andK, IntKind.wrap, IntKind.bits, IntKind.signed, *]; done)
        | (simp [ndOk, hz, hv, andK, IntKind.wrap, IntKind.bits, IntKind.signed, *]; omega)
        | (simp [ndOk, hz, hv, andK, IntKind.wrap, IntKind.bits, IntKind.signed, *]; decide)
    · simp only at h
      subst h
      have hz : (⟨2, vn, s⟩ : VA) ≠ va0 := by simp [va0]
      repeat' (first | (with_reducible refine use_pure hvc ?_) | (with_reducible first | (refine wN fun nl hnl => ?_; revert hnl; (repeat refine wS fun _ _ => ?_); intro hnl) | refine wD (by decide +kernel) ?_ | refine wI (fun h => ?_) fun h => ?_ | refine wF (fun h => ?_) fun h => ?_ | refine wG (fun h => ?_) fun h => ?_ | refine wH (fun h => ?_) fun h => ?_ | ((first | refine mfork_bool (fun h => ?_) fun h => ?_ | refine mgfork_bool (fun h => ?_) fun h => ?_) <;> simp only [h])) | simp (maxSteps := 4000000) (disch := first | decide | assumption | omega | (simp only [wL]; omega)) only [go_sem, simprocAttr, Tryz.f155])
      all_goals first
        | (simp [ndOk, hz, hv, andK, IntKind.wrap, IntKind.bits, IntKind.signed, *]; done)
        | (simp [ndOk, hz, hv, andK, IntKind.wrap, IntKind.bits, IntKind.signed, *]; omega)
        | (simp [ndOk, hz, hv, andK, IntKind.wrap, IntKind.bits, IntKind.signed, *]; decide)
end Go.Proofs.YtfbodefnblpflaaGreatDoor
end

section
/- How deep a filter is. No program in sight. -/
set_option linter.unusedVariables false
set_option linter.unusedSimpArgs false
namespace Go.Proofs.YtfbodefnblpflaaGreatDoor
def T.depth : T → Nat
  | .leaf _ => 1
  | .one _ a => 1 + a.depth
  | .two _ a b => 1 + max a.depth b.depth
/-- What is open behind a part. -/
def shutP : List Nat → List Nat
  | [] => []
  | k :: s => shut ((k - 1) :: s)
theorem shut_zero (s : List Nat) : shut (0 :: s) = shutP s := by
  cases s with
  | nil => rw [shut]; rfl
  | cons k s => rw [shut]; rfl
theorem shut_succ (n : Nat) (s : List Nat) : shut ((n + 1) :: s) = (n + 1) :: s := by rw [shut]
theorem dp_tree : ∀ {t : T}, t.ok → ∀ (d : Nat) (s : List Nat) (l : List ND), dp d s (t.fl ++ l) = dp (max d (s.length + t.depth)) (shutP s) l
  | .leaf x, h, d, s, l => by
    simp only [T.ok] at h
    rw [T.fl, List.cons_append, List.nil_append, dp, h, shut_zero]; rfl
  | .one x a, h, d, s, l => by
    rw [T.fl, List.cons_append, dp, h.1, shut_succ, dp_tree h.2, shutP, show 0 + 1 - 1 = 0 from rfl, shut_zero]
    congr 1
    simp only [List.length_cons, T.depth]; omega
  | .two x a b, h, d, s, l => by
    rw [T.fl, List.cons_append, dp, h.1, shut_succ, List.append_assoc, dp_tree h.2.1, shutP, show 1 + 1 - 1 = 0 + 1 from rfl, shut_succ, dp_tree h.2.2, shutP, show 0 + 1 - 1 = 0 from rfl, shut_zero]
    congr 1
    simp only [List.length_cons, T.depth]; omega
theorem depth_tree {t : T} (h : t.ok) (he : endS t.fl 0 = (t.fl.length : Int)) : depthS t.fl = t.depth := by
  have := dp_tree h 0 [] []
  rw [List.append_nil] at this
  rw [depthS, if_neg, this]
  · simp [dp]
  · rintro (h1 | h1)
    · have := t.fl_pos; rw [h1] at this; simp at this
    · exact h1 he
end Go.Proofs.YtfbodefnblpflaaGreatDoor
end

section
/- Contracts of the program's depth and checks of filters: the conditions that the theorems name. -/
set_option linter.unusedVariables false
set_option linter.unusedSimpArgs false
namespace Go.Proofs.YtfbodefnblpflaaGreatDoor
set_option maxRecDepth 100000
set_option maxHeartbeats 4000000
abbrev natL (L : List Nat) : List (List MV) := L.map fun (i : Nat) => [.int .i64 (i : Int)]
theorem nat_get {s : List Nat} {k : Nat} {ex : List (List MV)} : (natL ((k :: s).reverse) ++ ex).getD s.length [] = [.int .i64 (k : Int)] := by
  simp [natL, List.getD]
theorem nat_set {s : List Nat} {k j : Nat} {ex : List (List MV)} : (natL ((k :: s).reverse) ++ ex).set s.length [.int .i64 (j : Int)] = natL ((j :: s).reverse) ++ ex := by
  simp [natL]
theorem nat_push {s : List Nat} {k : Nat} {ex : List (List MV)} : natL s.reverse ++ ([.int .i64 (k : Int)] :: ex) = natL ((k :: s).reverse) ++ ex := by
  simp [natL]
theorem shut_pop {s : List Nat} : shut (0 :: s) = shut (match s with | [] => [] | k :: r => (k - 1) :: r) := by
  cases s with
  | nil => rw [shut]; simp [shut]
  | cons k r => rw [shut]
theorem pdepth_call (l : List ND) (hl : l.length ≤ 1000000) (tt : Bool) : MCalls Tryz.prog 156 [.lst 5 (l.map ND.c) tt] St.none (fun r _ => r = .int .i64 (depthS l : Int)) := by
  refine MCalls.drops (MCalls.body 64 [.tmp 2] Tryz.func156 rfl rfl rfl rfl ?_)
  have hend := pend_call l hl tt 0
  by_cases h : l = [] ∨ endS l 0 ≠ l.length
  · have e : depthS l = 0 := by unfold depthS; rw [if_pos h]
    rw [e]
    rcases h with rfl | h
    · repeat' (first | (with_reducible first | refine up hend ?_) | (with_reducible first | (refine wT ?_; (first | ((fail_if_success (have := nl1)); refine wN fun nl1 hnl => ?_) | ((fail_if_success (have := nl2)); refine wN fun nl2 hnl => ?_) | ((fail_if_success (have := nl3)); refine wN fun nl3 hnl => ?_) | refine wN fun _ hnl => ?_); revert hnl; (repeat refine wS fun _ _ => ?_); intro hnl) | refine wD (by decide +kernel) ?_ | refine wI (fun h => ?_) fun h => ?_ | refine wF (fun h => ?_) fun h => ?_ | refine wG (fun h => ?_) fun h => ?_ | refine wH (fun h => ?_) fun h => ?_ | ((first | refine mfork_bool (fun h => ?_) fun h => ?_ | refine mgfork_bool (fun h => ?_) fun h => ?_) <;> simp only [h])) | simp (maxSteps := 4000000) (disch := first | decide | assumption | omega | (simp only [wL]; omega)) only [go_sem, simprocAttr, Tryz.f156])
      all_goals first | exact ⟨_, St.le_refl _, rfl⟩ | exact ⟨_, St.le_refl _⟩
    · repeat' (first | (with_reducible first | refine up hend ?_) | (with_reducible first | (refine wT ?_; (first | ((fail_if_success (have := nl1)); refine wN fun nl1 hnl => ?_) | ((fail_if_success (have := nl2)); refine wN fun nl2 hnl => ?_) | ((fail_if_success (have := nl3)); refine wN fun nl3 hnl => ?_) | refine wN fun _ hnl => ?_); revert hnl; (repeat refine wS fun _ _ => ?_); intro hnl) | refine wD (by decide +kernel) ?_ | refine wI (fun h => ?_) fun h => ?_ | refine wF (fun h => ?_) fun h => ?_ | refine wG (fun h => ?_) fun h => ?_ | refine wH (fun h => ?_) fun h => ?_ | ((first | refine mfork_bool (fun h => ?_) fun h => ?_ | refine mgfork_bool (fun h => ?_) fun h => ?_) <;> simp only [h])) | simp (maxSteps := 4000000) (disch := first | decide | assumption | omega | (simp only [wL]; omega)) only [go_sem, simprocAttr, Tryz.f156])
      all_goals first | exact ⟨_, St.le_refl _, rfl⟩ | exact ⟨_, St.le_refl _⟩
  · have e : depthS l = dp 0 [] l := by unfold depthS; rw [if_neg h]
    rw [e]
    have h2 : endS l 0 = l.length := Classical.not_not.1 fun h3 => h (.inr h3)
    have h0 : 0 < l.length := by
      cases l with
      | nil => exact absurd (.inl rfl) h
      | cons x l => simp
    rw [h2] at hend
    clear e h
    repeat' (first | (with_reducible first | refine up hend ?_) | (with_reducible first | (refine wT ?_; (first | ((fail_if_success (have := nl1)); refine wN fun nl1 hnl => ?_) | ((fail_if_success (have := nl2)); refine wN fun nl2 hnl => ?_) | ((fail_if_success (have := nl3)); refine wN fun nl3 hnl => ?_) | refine wN fun _ hnl => ?_); revert hnl; (repeat refine wS fun _ _ => ?_); intro hnl) | refine wD (by decide +kernel) ?_ | refine wI (fun h => ?_) fun h => ?_ | refine wF (fun h => ?_) fun h => ?_ | refine wG (fun h => ?_) fun h => ?_ | refine wH (fun h => ?_) fun h => ?_ | ((first | refine mfork_bool (fun h => ?_) fun h => ?_ | refine mgfork_bool (fun h => ?_) fun h => ?_) <;> simp only [h])) | simp (maxSteps := 4000000) (disch := first | decide | assumption | omega | (simp only [wL]; omega)) only [go_sem, simprocAttr, Tryz.f156])
    refine mloop_intro (α := Nat × Nat × List Nat × Nat × List (List MV)) (fun a => ⟨64, [(19, .int .i64 (a.1 : Int)), (18, .int .i64 (l.length : Int)), (17, .lst 5 (l.map ND.c) tt), (4, .int .i64 (a.2.1 : Int)), (3, .vec 1 a.2.2.2.1 0 a.2.2.1.length)], []⟩)
      (fun a => St.none.set a.2.2.2.1 (.row 3 1 (natL a.2.2.1.reverse ++ a.2.2.2.2))) (fun a => a.1 ≤ l.length ∧ dp 0 [] l = dp a.2.1 a.2.2.1 (l.drop a.1) ∧ a.2.1 ≤ 1 + a.1 ∧ a.2.2.1.length ≤ a.1 ∧ ∀ x, x ∈ a.2.2.1 → 1 ≤ x ∧ x ≤ 2) (fun a => l.length - a.1) ?_ ?_
    · refine Gh.rowNew 3 1 (fun q => [(19, .int .i64 0), (18, .int .i64 (l.length : Int)), (17, .lst 5 (l.map ND.c) tt), (4, .int .i64 0), (3, .vec 1 q 0 0)]) (fun k => by (repeat' (refine And.intro ?_ ?_)) <;> first | exact trivial | exact .inl rfl | exact .inr ⟨rfl, .inl rfl⟩ | exact .inr ⟨rfl, .inr rfl⟩) fun q hq => ?_
      exact .done ⟨(0, 0, [], q, []), rfl, rfl, Nat.zero_le _, rfl, Nat.zero_le _, Nat.le_refl _, fun x hx => by cases hx⟩
    · rintro ⟨i, d, s, q, ex⟩ ⟨hi, hq, hd, hsl, hs⟩
      simp only at hi hq hd hsl hs ⊢
      by_cases hlt : i < l.length
      · rw [drop_getD nd0 hlt, dp] at hq
        obtain ⟨x, hx⟩ : ∃ x, l.getD i nd0 = x := ⟨_, rfl⟩
        rw [hx] at hq
        have hp := parts_call x.op
        have hpc := parts_cases x.op
        obtain ⟨p, hpe⟩ : ∃ p, parts x.op = p := ⟨_, rfl⟩
        rw [hpe] at hq hp hpc
        have htk : (natL s.reverse ++ ex).take s.length = natL s.reverse := by have := tk_app (f := fun (i : Nat) => [MV.int .i64 (i : Int)]) (l := s.reverse) (ex := ex); rwa [List.length_reverse] at this
        have hdr : (natL s.reverse ++ ex).drop (s.length + 1) = ex.drop 1 := by have := dr_app (f := fun (i : Nat) => [MV.int .i64 (i : Int)]) (l := s.reverse) (ex := ex); rwa [List.length_reverse] at this
        repeat' (first | (with_reducible first | refine up hp ?_) | (with_reducible first | (refine wT ?_; (first | ((fail_if_success (have := nl1)); refine wN fun nl1 hnl => ?_) | ((fail_if_success (have := nl2)); refine wN fun nl2 hnl => ?_) | ((fail_if_success (have := nl3)); refine wN fun nl3 hnl => ?_) | refine wN fun _ hnl => ?_); revert hnl; (repeat refine wS fun _ _ => ?_); intro hnl) | refine wD (by decide +kernel) ?_ | refine wI (fun h => ?_) fun h => ?_ | refine wF (fun h => ?_) fun h => ?_ | refine wG (fun h => ?_) fun h => ?_ | refine wH (fun h => ?_) fun h => ?_ | ((first | refine mfork_bool (fun h => ?_) fun h => ?_ | refine mgfork_bool (fun h => ?_) fun h => ?_) <;> simp only [h])) | simp (maxSteps := 4000000) (disch := first | decide | assumption | omega | (simp only [wL]; omega)) only [go_sem, simprocAttr, getD_mapd nd0, hx, htk, hdr, List.length_reverse])
        case' refine_1 =>
          have hex : ex = [] := List.eq_nil_of_length_eq_zero (by omega)
          subst hex
          clear h
          have erow : natL s.reverse ++ [] ++ [[MV.int .i64 (p : Int)]] = natL ((p :: s).reverse) ++ [] := by simp [natL]
          obtain ⟨ex1, hex1⟩ : ∃ e, ([] : List (List MV)) = e := ⟨_, rfl⟩
        case' refine_2 =>
          have erow : natL s.reverse ++ [[MV.int .i64 (p : Int)]] ++ ex.drop 1 = natL ((p :: s).reverse) ++ ex.drop 1 := by simp [natL]
          obtain ⟨ex1, hex1⟩ : ∃ e, ex.drop 1 = e := ⟨_, rfl⟩
        all_goals
          rw [erow]
          obtain ⟨D, hD⟩ : ∃ D, max d (s.length + 1) = D := ⟨_, rfl⟩
          rw [hD] at hq
          refine mloop_intro (α := List Nat × List (List MV)) (fun b => ⟨64, [(19, .int .i64 (i : Int)), (18, .int .i64 (l.length : Int)), (17, .lst 5 (l.map ND.c) tt), (4, .int .i64 (D : Int)), (3, .vec 1 nl3 0 b.1.length)], []⟩)
            (fun b => St.none.set nl3 (.row 3 1 (natL b.1.reverse ++ b.2))) (fun b => shut b.1 = shut (p :: s) ∧ b.1.length ≤ i + 1 ∧ (∀ x, x ∈ b.1.tail → 1 ≤ x) ∧ ∀ x, x ∈ b.1 → x ≤ 2) (fun b => b.1.length) (.of (.less ?_ (St.set_le (St.none_le _) (set_hit _ _ _))) ⟨(p :: s, _), rfl, rfl, rfl, by simp only [List.length_cons]; omega, fun x hx => (hs x hx).1, fun x hx => ?_⟩) ?_
          · simp (maxSteps := 4000000) (disch := first | decide | assumption | omega | (simp only [wL]; omega)) only [go_sem, simprocAttr, weak_int, weak_same, List.length_cons]
            all_goals (split <;> omega)
          · rcases List.mem_cons.1 hx with rfl | hx
            · omega
            · exact (hs x hx).2
          · rintro ⟨b, ex2⟩ ⟨hb, hbl, hb1, hb2⟩
            simp only at hb hbl hb1 hb2 ⊢
            cases b with
            | nil =>
              rw [shut] at hb
              rw [← hb] at hq
              repeat' (first | (with_reducible first | (refine wT ?_; (first | ((fail_if_success (have := nl1)); refine wN fun nl1 hnl => ?_) | ((fail_if_success (have := nl2)); refine wN fun nl2 hnl => ?_) | ((fail_if_success (have := nl3)); refine wN fun nl3 hnl => ?_) | refine wN fun _ hnl => ?_); revert hnl; (repeat refine wS fun _ _ => ?_); intro hnl) | refine wD (by decide +kernel) ?_ | refine wI (fun h => ?_) fun h => ?_ | refine wF (fun h => ?_) fun h => ?_ | refine wG (fun h => ?_) fun h => ?_ | refine wH (fun h => ?_) fun h => ?_ | ((first | refine mfork_bool (fun h => ?_) fun h => ?_ | refine mgfork_bool (fun h => ?_) fun h => ?_) <;> simp only [h])) | simp (maxSteps := 4000000) (disch := first | decide | assumption | omega | (simp only [wL]; omega)) only [go_sem, simprocAttr])
              refine .of (.less ?_ (St.le_refl _)) ⟨(i + 1, D, [], nl3, ex2), rfl, rfl, ⟨by simp only; omega, hq, by simp only; omega, Nat.zero_le _, fun x hx => by cases hx⟩, by simp only; omega⟩
              simp (maxSteps := 4000000) (disch := first | decide | assumption | omega | (simp only [wL]; omega)) only [go_sem, simprocAttr, weak_int, weak_same]
              all_goals first | rfl | exact .same _
            | cons k r =>
              have hk2 := hb2 k (by simp)
              have hge := nat_get (s := r) (k := k) (ex := ex2)
              have hWl : (natL (k :: r).reverse).length = r.length + 1 := by simp [natL]
              simp only [List.length_cons] at hbl ⊢
              cases k with
              | zero =>
                rw [shut_pop] at hb
                cases r with
                | nil =>
                  have hrow : natL [0].reverse ++ ex2 = natL [] ++ ([.int .i64 0] :: ex2) := rfl
                  obtain ⟨W, hW⟩ : ∃ W, natL [0].reverse ++ ex2 = W := ⟨_, rfl⟩
                  have hl1 : W.length = 1 + ex2.length := by rw [← hW]; simp [natL]; omega
                  rw [hW] at hge hrow ⊢
                  simp only [List.length_nil] at hge ⊢
                  repeat' (first | (with_reducible first | (refine wT ?_; (first | ((fail_if_success (have := nl1)); refine wN fun nl1 hnl => ?_) | ((fail_if_success (have := nl2)); refine wN fun nl2 hnl => ?_) | ((fail_if_success (have := nl3)); refine wN fun nl3 hnl => ?_) | refine wN fun _ hnl => ?_); revert hnl; (repeat refine wS fun _ _ => ?_); intro hnl) | refine wD (by decide +kernel) ?_ | refine wI (fun h => ?_) fun h => ?_ | refine wF (fun h => ?_) fun h => ?_ | refine wG (fun h => ?_) fun h => ?_ | refine wH (fun h => ?_) fun h => ?_ | ((first | refine mfork_bool (fun h => ?_) fun h => ?_ | refine mgfork_bool (fun h => ?_) fun h => ?_) <;> simp only [h])) | simp (maxSteps := 4000000) (disch := first | decide | assumption | omega | (simp only [wL]; omega)) only [go_sem, simprocAttr, hge])
                  refine .of (.less ?_ (St.le_refl _)) ⟨([], [.int .i64 0] :: ex2), rfl, by rw [hrow]; rfl, ⟨hb, Nat.zero_le _, (fun x hx => by cases hx), (fun x hx => by cases hx)⟩, by simp⟩
                  simp (maxSteps := 4000000) (disch := first | decide | assumption | omega | (simp only [wL]; omega)) only [go_sem, simprocAttr, weak_int, weak_same]
                  all_goals first | rfl | exact .same _
                | cons k2 r =>
                  have h12 := hb1 k2 (by simp)
                  have h22 := hb2 k2 (by simp)
                  have hrow : natL (0 :: k2 :: r).reverse ++ ex2 = natL (k2 :: r).reverse ++ ([.int .i64 0] :: ex2) := nat_push.symm
                  have hge2 := nat_get (s := r) (k := k2) (ex := [.int .i64 0] :: ex2)
                  have hst := nat_set (s := r) (k := k2) (j := k2 - 1) (ex := [.int .i64 0] :: ex2)
                  rw [← hrow] at hge2 hst
                  rw [show ((k2 - 1 : Nat) : Int) = (k2 : Int) - 1 by omega] at hst
                  simp only [List.length_cons] at hge hWl hbl ⊢
                  obtain ⟨W, hW⟩ : ∃ W, natL (0 :: k2 :: r).reverse ++ ex2 = W := ⟨_, rfl⟩
                  have hl1 : W.length = r.length + 1 + 1 + ex2.length := by rw [← hW, List.length_append, hWl]
                  rw [hW] at hge hge2 hst ⊢
                  obtain ⟨n, hn⟩ : ∃ n, r.length = n := ⟨_, rfl⟩
                  rw [hn] at hge hge2 hst hl1 hbl ⊢
                  have hto1 : (((n + 1 + 1 : Nat) : Int) - 1).toNat = n + 1 := by omega
                  have hto2 : (((n + 1 : Nat) : Int) - 1).toNat = n := by omega
                  repeat' (first | (with_reducible first | (refine wT ?_; (first | ((fail_if_success (have := nl1)); refine wN fun nl1 hnl => ?_) | ((fail_if_success (have := nl2)); refine wN fun nl2 hnl => ?_) | ((fail_if_success (have := nl3)); refine wN fun nl3 hnl => ?_) | refine wN fun _ hnl => ?_); revert hnl; (repeat refine wS fun _ _ => ?_); intro hnl) | refine wD (by decide +kernel) ?_ | refine wI (fun h => ?_) fun h => ?_ | refine wF (fun h => ?_) fun h => ?_ | refine wG (fun h => ?_) fun h => ?_ | refine wH (fun h => ?_) fun h => ?_ | ((first | refine mfork_bool (fun h => ?_) fun h => ?_ | refine mgfork_bool (fun h => ?_) fun h => ?_) <;> simp only [h])) | simp (maxSteps := 4000000) (disch := first | decide | assumption | omega | (simp only [wL]; omega)) only [go_sem, simprocAttr, hge, hge2, hst, hto1, hto2])
                  refine .of (.less ?_ (St.le_refl _)) ⟨((k2 - 1) :: r, [.int .i64 0] :: ex2), rfl, rfl, ⟨hb, by simp only [List.length_cons]; omega, fun x hx => hb1 x (by simp at hx ⊢; exact .inr hx), fun x hx => ?_⟩, by simp only [List.length_cons]; omega⟩
                  · simp only [List.length_cons, hn]
                    simp (maxSteps := 4000000) (disch := first | decide | assumption | omega | (simp only [wL]; omega)) only [go_sem, simprocAttr, weak_int, weak_same]
                    all_goals first | rfl | exact .same _
                  · rcases List.mem_cons.1 hx with rfl | hx
                    · omega
                    · exact hb2 x (by simp [hx])
              | succ k =>
                rw [shut] at hb
                rw [← hb] at hq
                obtain ⟨W, hW⟩ : ∃ W, natL ((k + 1) :: r).reverse ++ ex2 = W := ⟨_, rfl⟩
                have hl1 : W.length = r.length + 1 + ex2.length := by rw [← hW, List.length_append, hWl]
                rw [hW] at hge ⊢
                obtain ⟨n, hn⟩ : ∃ n, r.length = n := ⟨_, rfl⟩
                rw [hn] at hge hl1 hbl ⊢
                have hkc : ((k + 1 : Nat) : Int) = (k : Int) + 1 := by omega
                rw [hkc] at hge
                have hto2 : (((n + 1 : Nat) : Int) - 1).toNat = n := by omega
                repeat' (first | (with_reducible first | (refine wT ?_; (first | ((fail_if_success (have := nl1)); refine wN fun nl1 hnl => ?_) | ((fail_if_success (have := nl2)); refine wN fun nl2 hnl => ?_) | ((fail_if_success (have := nl3)); refine wN fun nl3 hnl => ?_) | refine wN fun _ hnl => ?_); revert hnl; (repeat refine wS fun _ _ => ?_); intro hnl) | refine wD (by decide +kernel) ?_ | refine wI (fun h => ?_) fun h => ?_ | refine wF (fun h => ?_) fun h => ?_ | refine wG (fun h => ?_) fun h => ?_ | refine wH (fun h => ?_) fun h => ?_ | ((first | refine mfork_bool (fun h => ?_) fun h => ?_ | refine mgfork_bool (fun h => ?_) fun h => ?_) <;> simp only [h])) | simp (maxSteps := 4000000) (disch := first | decide | assumption | omega | (simp only [wL]; omega)) only [go_sem, simprocAttr, hge, hto2])
                refine .of (.less ?_ (St.le_refl _)) ⟨(i + 1, D, (k + 1) :: r, nl3, ex2), rfl, by rw [← hW], ⟨by simp only; omega, hq, by simp only; omega, by simp only [List.length_cons]; omega, fun x hx => ?_⟩, by simp only; omega⟩
                · simp only [List.length_cons, hn]
                  simp (maxSteps := 4000000) (disch := first | decide | assumption | omega | (simp only [wL]; omega)) only [go_sem, simprocAttr, weak_int, weak_same]
                  all_goals first | rfl | exact .same _
                · refine ⟨?_, hb2 x hx⟩
                  rcases List.mem_cons.1 hx with rfl | hx
                  · omega
                  · exact hb1 x hx
      · have : i = l.length := by omega
        subst this
        rw [List.drop_length, dp] at hq
        rw [hq]
        repeat' (first | (with_reducible first | (refine wT ?_; (first | ((fail_if_success (have := nl1)); refine wN fun nl1 hnl => ?_) | ((fail_if_success (have := nl2)); refine wN fun nl2 hnl => ?_) | ((fail_if_success (have := nl3)); refine wN fun nl3 hnl => ?_) | refine wN fun _ hnl => ?_); revert hnl; (repeat refine wS fun _ _ => ?_); intro hnl) | refine wD (by decide +kernel) ?_ | refine wI (fun h => ?_) fun h => ?_ | refine wF (fun h => ?_) fun h => ?_ | refine wG (fun h => ?_) fun h => ?_ | refine wH (fun h => ?_) fun h => ?_ | ((first | refine mfork_bool (fun h => ?_) fun h => ?_ | refine mgfork_bool (fun h => ?_) fun h => ?_) <;> simp only [h])) | simp (maxSteps := 4000000) (disch := first | decide | assumption | omega | (simp only [wL]; omega)) only [go_sem, simprocAttr])
        all_goals first | exact ⟨_, St.le_refl _, rfl⟩ | exact ⟨_, St.le_refl _⟩
end Go.Proofs.YtfbodefnblpflaaGreatDoor
end

section
/- Contracts of the program's own functions for filters (2), and of the library's that they call: the conditions that each theorem names. -/
set_option linter.unusedVariables false
set_option linter.unusedSimpArgs false
namespace Go.Proofs.YtfbodefnblpflaaGreatDoor
theorem pcompare_call (a b : List ND) (la : a.length ≤ 1000000) (lb : b.length ≤ 1000000) (ta tb : Bool) : MCalls Tryz.prog 85 [.lst 5 (a.map ND.c) ta, .lst 5 (b.map ND.c) tb] St.none (fun r _ => r = .int .i64 (ordI (cmpF a b))) := by
  refine (MCalls.body 8 [.tmp 4] Tryz.func85 rfl rfl rfl rfl ?_)
  have h := cmpfn_call 140 a b la lb ta tb (fun x y _ _ => pcmp1_call x y)
  repeat' (first | (with_reducible refine use_pure h ?_) | (with_reducible first | (refine wN fun nl hnl => ?_; revert hnl; (repeat refine wS fun _ _ => ?_); intro hnl) | refine wD (by decide +kernel) ?_ | refine wI (fun h => ?_) fun h => ?_ | refine wF (fun h => ?_) fun h => ?_ | refine wG (fun h => ?_) fun h => ?_ | refine wH (fun h => ?_) fun h => ?_ | ((first | refine mfork_bool (fun h => ?_) fun h => ?_ | refine mgfork_bool (fun h => ?_) fun h => ?_) <;> simp only [h])) | simp (maxSteps := 4000000) (disch := first | decide | assumption | omega | (simp only [wL]; omega)) only [go_sem, simprocAttr, Tryz.f85])
end Go.Proofs.YtfbodefnblpflaaGreatDoor
end

section
/- Contracts of the program's check of filters and of their bytes: the conditions that the theorems name. -/
set_option linter.unusedVariables false
set_option linter.unusedSimpArgs false
namespace Go.Proofs.YtfbodefnblpflaaGreatDoor
set_option maxRecDepth 100000
set_option maxHeartbeats 4000000
theorem ppcheck1_call (x : ND) : MCalls Tryz.prog 154 [.agg x.c] St.none (fun r _ => r = .bool (!ndOk x)) := by
  refine MCalls.drops (MCalls.body 6 [.tmp 2] Tryz.func154 rfl rfl rfl rfl ?_)
  have h := pnode_call x
  repeat' (first | (with_reducible first | refine up h ?_) | (with_reducible first | (refine wT ?_; refine wN fun _ hnl => ?_; revert hnl; (repeat refine wS fun _ _ => ?_); intro hnl) | refine wD (by decide +kernel) ?_ | refine wI (fun h => ?_) fun h => ?_ | refine wF (fun h => ?_) fun h => ?_ | refine wG (fun h => ?_) fun h => ?_ | refine wH (fun h => ?_) fun h => ?_ | ((first | refine mfork_bool (fun h => ?_) fun h => ?_ | refine mgfork_bool (fun h => ?_) fun h => ?_) <;> simp only [h])) | simp (maxSteps := 4000000) (disch := first | decide | assumption | omega | (simp only [wL]; omega)) only [go_sem, simprocAttr, Tryz.f154])
  all_goals first | exact ⟨_, St.le_refl _, rfl⟩ | exact ⟨_, St.le_refl _⟩
theorem ppcheck_call (l : List ND) (hl : l.length ≤ 1000000) (t : Bool) : MCalls Tryz.prog 101 [.lst 5 (l.map ND.c) t] St.none (fun r _ => r = .int .i64 (predErr l)) := by
  refine (MCalls.body 25 [.tmp 2] Tryz.func101 rfl rfl rfl rfl ?_)
  have hc := contains_call (fun x => !ndOk x) 154 l hl t (fun x _ => ppcheck1_call x)
  have hd := pdepth_call l hl t
  have he := pend_call l hl t 0
  have hall : (l.any fun x => !ndOk x) = !l.all ndOk := by
    rw [Bool.eq_iff_iff]
    simp
  rw [hall] at hc
  have hlen : l.length = 0 ↔ l = [] := List.length_eq_zero_iff
  obtain ⟨al, hal⟩ : ∃ b, l.all ndOk = b := ⟨_, rfl⟩
  obtain ⟨dd, hdd⟩ : ∃ d, depthS l = d := ⟨_, rfl⟩
  obtain ⟨ee, hee⟩ : ∃ d, endS l 0 = d := ⟨_, rfl⟩
  have e : predErr l = if 31 < l.length then 4 else if l.length = 0 ∨ ee ≠ l.length ∨ al = false then 1 else if 8 < dd then 5 else 0 := by
    unfold predErr; rw [hal, hdd, hee]; simp only [hlen]
  rw [e]
  rw [hal] at hc
  rw [hdd] at hd
  rw [hee] at he
  clear e hlen hall hal hdd hee
  by_cases h31 : 31 < l.length
  · rw [if_pos h31]
    repeat' (first | (with_reducible first | (refine wT ?_; refine wN fun _ hnl => ?_; revert hnl; (repeat refine wS fun _ _ => ?_); intro hnl) | refine wD (by decide +kernel) ?_ | refine wI (fun h => ?_) fun h => ?_ | refine wF (fun h => ?_) fun h => ?_ | refine wG (fun h => ?_) fun h => ?_ | refine wH (fun h => ?_) fun h => ?_ | ((first | refine mfork_bool (fun h => ?_) fun h => ?_ | refine mgfork_bool (fun h => ?_) fun h => ?_) <;> simp only [h])) | simp (maxSteps := 4000000) (disch := first | decide | assumption | omega | (simp only [wL]; omega)) only [go_sem, simprocAttr, Tryz.f101])
  · rw [if_neg h31]
    by_cases h0 : l.length = 0
    · rw [if_pos (.inl h0)]
      repeat' (first | (with_reducible first | refine up he ?_) | (with_reducible first | (refine wT ?_; refine wN fun _ hnl => ?_; revert hnl; (repeat refine wS fun _ _ => ?_); intro hnl) | refine wD (by decide +kernel) ?_ | refine wI (fun h => ?_) fun h => ?_ | refine wF (fun h => ?_) fun h => ?_ | refine wG (fun h => ?_) fun h => ?_ | refine wH (fun h => ?_) fun h => ?_ | ((first | refine mfork_bool (fun h => ?_) fun h => ?_ | refine mgfork_bool (fun h => ?_) fun h => ?_) <;> simp only [h])) | simp (maxSteps := 4000000) (disch := first | decide | assumption | omega | (simp only [wL]; omega)) only [go_sem, simprocAttr, Tryz.f101])
    · by_cases h1 : ee = l.length
      · subst h1
        cases al
        · rw [if_pos (.inr (.inr rfl))]
          repeat' (first | (with_reducible first | refine up he ?_ | refine up hc ?_) | (with_reducible first | (refine wT ?_; refine wN fun _ hnl => ?_; revert hnl; (repeat refine wS fun _ _ => ?_); intro hnl) | refine wD (by decide +kernel) ?_ | refine wI (fun h => ?_) fun h => ?_ | refine wF (fun h => ?_) fun h => ?_ | refine wG (fun h => ?_) fun h => ?_ | refine wH (fun h => ?_) fun h => ?_ | ((first | refine mfork_bool (fun h => ?_) fun h => ?_ | refine mgfork_bool (fun h => ?_) fun h => ?_) <;> simp only [h])) | simp (maxSteps := 4000000) (disch := first | decide | assumption | omega | (simp only [wL]; omega)) only [go_sem, simprocAttr, Tryz.f101])
        · rw [if_neg (by simp [h0])]
          by_cases h8 : 8 < dd
          · rw [if_pos h8]
            repeat' (first | (with_reducible first | refine up he ?_ | refine up hc ?_ | refine up hd ?_) | (with_reducible first | (refine wT ?_; refine wN fun _ hnl => ?_; revert hnl; (repeat refine wS fun _ _ => ?_); intro hnl) | refine wD (by decide +kernel) ?_ | refine wI (fun h => ?_) fun h => ?_ | refine wF (fun h => ?_) fun h => ?_ | refine wG (fun h => ?_) fun h => ?_ | refine wH (fun h => ?_) fun h => ?_ | ((first | refine mfork_bool (fun h => ?_) fun h => ?_ | refine mgfork_bool (fun h => ?_) fun h => ?_) <;> simp only [h])) | simp (maxSteps := 4000000) (disch := first | decide | assumption | omega | (simp only [wL]; omega)) only [go_sem, simprocAttr, Tryz.f101])
          · rw [if_neg h8]
            repeat' (first | (with_reducible first | refine up he ?_ | refine up hc ?_ | refine up hd ?_) | (with_reducible first | (refine wT ?_; refine wN fun _ hnl => ?_; revert hnl; (repeat refine wS fun _ _ => ?_); intro hnl) | refine wD (by decide +kernel) ?_ | refine wI (fun h => ?_) fun h => ?_ | refine wF (fun h => ?_) fun h => ?_ | refine wG (fun h => ?_) fun h => ?_ | refine wH (fun h => ?_) fun h => ?_ | ((first | refine mfork_bool (fun h => ?_) fun h => ?_ | refine mgfork_bool (fun h => ?_) fun h => ?_) <;> simp only [h])) | simp (maxSteps := 4000000) (disch := first | decide | assumption | omega | (simp only [wL]; omega)) only [go_sem, simprocAttr, Tryz.f101])
      · rw [if_pos (.inr (.inl h1))]
        repeat' (first | (with_reducible first | refine up he ?_) | (with_reducible first | (refine wT ?_; refine wN fun _ hnl => ?_; revert hnl; (repeat refine wS fun _ _ => ?_); intro hnl) | refine wD (by decide +kernel) ?_ | refine wI (fun h => ?_) fun h => ?_ | refine wF (fun h => ?_) fun h => ?_ | refine wG (fun h => ?_) fun h => ?_ | refine wH (fun h => ?_) fun h => ?_ | ((first | refine mfork_bool (fun h => ?_) fun h => ?_ | refine mgfork_bool (fun h => ?_) fun h => ?_) <;> simp only [h])) | simp (maxSteps := 4000000) (disch := first | decide | assumption | omega | (simp only [wL]; omega)) only [go_sem, simprocAttr, Tryz.f101])
theorem pnamed_call (op : Int) : MCalls Tryz.prog 160 [.int .i64 op] St.none (fun r _ => r = .bool (opN op)) := by
  refine (MCalls.body 9 [.tmp 2] Tryz.func160 rfl rfl rfl rfl ?_)
  unfold opN
  repeat' (first | (with_reducible first | (refine wT ?_; refine wN fun _ hnl => ?_; revert hnl; (repeat refine wS fun _ _ => ?_); intro hnl) | refine wD (by decide +kernel) ?_ | refine wI (fun h => ?_) fun h => ?_ | refine wF (fun h => ?_) fun h => ?_ | refine wG (fun h => ?_) fun h => ?_ | refine wH (fun h => ?_) fun h => ?_ | ((first | refine mfork_bool (fun h => ?_) fun h => ?_ | refine mgfork_bool (fun h => ?_) fun h => ?_) <;> simp only [h])) | simp (maxSteps := 4000000) (disch := first | decide | assumption | omega | (simp only [wL]; omega)) only [go_sem, simprocAttr, Tryz.f160])
  all_goals first | exact decide_eq_false (by omega) | exact (decide_eq_false (by omega)).symm | (rw [eq_comm, decide_eq_decide]; omega) | (rw [decide_eq_decide]; omega)
theorem pvalued_call (op : Int) : MCalls Tryz.prog 161 [.int .i64 op] St.none (fun r _ => r = .bool (opV op)) := by
  refine (MCalls.body 9 [.tmp 2] Tryz.func161 rfl rfl rfl rfl ?_)
  unfold opV
  repeat' (first | (with_reducible first | (refine wT ?_; refine wN fun _ hnl => ?_; revert hnl; (repeat refine wS fun _ _ => ?_); intro hnl) | refine wD (by decide +kernel) ?_ | refine wI (fun h => ?_) fun h => ?_ | refine wF (fun h => ?_) fun h => ?_ | refine wG (fun h => ?_) fun h => ?_ | refine wH (fun h => ?_) fun h => ?_ | ((first | refine mfork_bool (fun h => ?_) fun h => ?_ | refine mgfork_bool (fun h => ?_) fun h => ?_) <;> simp only [h])) | simp (maxSteps := 4000000) (disch := first | decide | assumption | omega | (simp only [wL]; omega)) only [go_sem, simprocAttr, Tryz.f161])
  all_goals first | exact decide_eq_false (by omega) | exact (decide_eq_false (by omega)).symm | (rw [eq_comm, decide_eq_decide]; omega) | (rw [decide_eq_decide]; omega)
theorem predErr_31 {l : List ND} (h : predErr l = 0) : l.length ≤ 31 ∧ l.all ndOk = true := by
  unfold predErr at h
  by_cases h31 : 31 < l.length
  · rw [if_pos h31] at h; cases h
  · rw [if_neg h31] at h
    by_cases h1 : l = [] ∨ endS l 0 ≠ l.length ∨ l.all ndOk = false
    · rw [if_pos h1] at h; cases h
    · refine ⟨by omega, ?_⟩
      cases ha : l.all ndOk
      · exact absurd (.inr (.inr ha)) h1
      · rfl
theorem pnodes_snoc {l : List ND} {i : Nat} (h : i < l.length) : ((l.take (i + 1)).map nodeB).flatten = ((l.take i).map nodeB).flatten ++ nodeB (l.getD i nd0) := by
  rw [List.take_succ_eq_append_getElem h, List.map_append, List.flatten_append, ← getD_of_lt nd0 h]; simp
theorem nodeB_len (x : ND) : (nodeB x).length ≤ 60 := by
  have h1 := numB_len x.op
  have h2 := numB_len x.n
  have h3 := (inferInstance : LB (valB x.v) 36).h
  unfold nodeB
  simp only [List.length_append]
  split <;> split <;> (try simp only [List.length_nil]) <;> omega
theorem pnodes_len : ∀ (l : List ND), ((l.map nodeB).flatten).length ≤ 60 * l.length
  | [] => by simp
  | x :: l => by
    have := pnodes_len l
    have h := nodeB_len x
    simp only [List.map_cons, List.flatten_cons, List.length_append, List.length_cons]
    omega
theorem ndOk_val {x : ND} (h : ndOk x = true) (hv : opV x.op = true) : vaOk x.v = true := by
  unfold opV at hv
  rw [decide_eq_true_eq] at hv
  unfold ndOk at h
  rw [if_neg (by omega), if_neg (by omega), if_neg (by omega)] at h
  by_cases h9 : x.op = 9
  · rw [if_neg (by omega), if_pos h9, decide_eq_true_eq] at h
    exact h.2.2.1
  · rw [if_pos (by omega), decide_eq_true_eq] at h
    exact h.2.2.1
theorem pputpred_call (bs : BL) (hb : bs.length ≤ 400000) (t : Bool) (l : List ND) (tt : Bool) (hok : predErr l = 0) : MCalls Tryz.prog 106 [.lst 1 (bs.map bc) t, .lst 5 (l.map ND.c) tt] St.none (fun r _ => r = .lst 1 ((bs ++ predB l).map bc) false) := by
  refine MCalls.drops (MCalls.body 42 [.tmp 4] Tryz.func106 rfl rfl rfl rfl ?_)
  have hl31 := predErr_31 hok
  obtain ⟨hl31, hall⟩ := hl31
  have hc := ppcheck_call l (by omega) tt
  rw [hok] at hc
  have hn := pnum_call bs t (l.length : Int) (by omega)
  have hnl' := numB_len (l.length : Int)
  unfold predB
  rw [if_pos hok]
  repeat' (first | (with_reducible first | refine up hc ?_ | refine up hn ?_) | (with_reducible first | (refine wT ?_; refine wN fun _ hnl => ?_; revert hnl; (repeat refine wS fun _ _ => ?_); intro hnl) | refine wD (by decide +kernel) ?_ | refine wI (fun h => ?_) fun h => ?_ | refine wF (fun h => ?_) fun h => ?_ | refine wG (fun h => ?_) fun h => ?_ | refine wH (fun h => ?_) fun h => ?_ | ((first | refine mfork_bool (fun h => ?_) fun h => ?_ | refine mgfork_bool (fun h => ?_) fun h => ?_) <;> simp only [h])) | simp (maxSteps := 4000000) (disch := first | decide | assumption | omega | (simp only [wL]; omega)) only [go_sem, simprocAttr, Tryz.f106])
  refine mloop_intro (α := Nat) (fun i => ⟨42, [(18, .int .i64 (i : Int)), (17, .int .i64 (l.length : Int)), (16, .lst 5 (l.map ND.c) tt), (0, .lst 1 ((bs ++ (numB (l.length : Int) ++ ((l.take i).map nodeB).flatten)).map bc) false)], []⟩) (fun _ => St.none) (fun i => i ≤ l.length) (fun i => l.length - i) (.of (.less ?_ (St.le_refl _)) ⟨0, rfl, rfl, Nat.zero_le _⟩) ?_
  · rw [List.take_zero, List.map_nil, List.flatten_nil, List.append_nil]
    simp (maxSteps := 4000000) (disch := first | decide | assumption | omega | (simp only [wL]; omega)) only [go_sem, simprocAttr, weak_int, weak_same]
    all_goals rfl
  · intro i hi
    have hi : i ≤ l.length := hi
    by_cases hlt : i < l.length
    · have hsn := pnodes_snoc hlt
      have hpl := pnodes_len (l.take i)
      have hxo := List.all_eq_true.1 hall _ (getD_mem nd0 hlt)
      rw [List.length_take, Nat.min_eq_left hi] at hpl
      obtain ⟨x, hx⟩ : ∃ x, l.getD i nd0 = x := ⟨_, rfl⟩
      rw [hx] at hsn hxo
      obtain ⟨pre, hpre⟩ : ∃ pre, bs ++ (numB (l.length : Int) ++ ((l.take i).map nodeB).flatten) = pre := ⟨_, rfl⟩
      have hprl : pre.length ≤ 405000 := by rw [← hpre, List.length_append, List.length_append]; omega
      have h1 := numB_len x.op
      have h2 := numB_len x.n
      rw [hpre]
      have e : bs ++ (numB (l.length : Int) ++ ((l.take (i + 1)).map nodeB).flatten) = pre ++ numB x.op ++ (if opN x.op = true then numB x.n else []) ++ (if opV x.op = true then valB x.v else []) := by
        rw [hsn, ← hpre, nodeB]; simp only [List.append_assoc]
      have hn1 := pnum_call pre false x.op (by omega)
      have hn2 := pnum_call (pre ++ numB x.op) false x.n (by rw [List.length_append]; omega)
      have hpn := pnamed_call x.op
      have hpv := pvalued_call x.op
      have hnv : opV x.op = true → opN x.op = true := by unfold opV opN; simp only [decide_eq_true_eq]; omega
      have hvo := ndOk_val hxo
      obtain ⟨bN, hbN⟩ : ∃ b, opN x.op = b := ⟨_, rfl⟩
      obtain ⟨bV, hbV⟩ : ∃ b, opV x.op = b := ⟨_, rfl⟩
      rw [hbN] at hpn e hnv
      rw [hbV] at hpv e hnv hvo
      clear hpre hsn hpl hbN hbV hall hok hxo
      cases bN
      · cases bV
        · simp only [Bool.false_eq_true, if_false, List.append_nil] at e
          repeat' (first | (with_reducible first | refine up hn1 ?_ | refine up hpn ?_ | refine up hpv ?_) | (with_reducible first | (refine wT ?_; refine wN fun _ hnl => ?_; revert hnl; (repeat refine wS fun _ _ => ?_); intro hnl) | refine wD (by decide +kernel) ?_ | refine wI (fun h => ?_) fun h => ?_ | refine wF (fun h => ?_) fun h => ?_ | refine wG (fun h => ?_) fun h => ?_ | refine wH (fun h => ?_) fun h => ?_ | ((first | refine mfork_bool (fun h => ?_) fun h => ?_ | refine mgfork_bool (fun h => ?_) fun h => ?_) <;> simp only [h])) | simp (maxSteps := 4000000) (disch := first | decide | assumption | omega | (simp only [wL]; omega)) only [go_sem, simprocAttr, getD_mapd nd0, hx])
          refine .of (.less (l1 := [(18, .int .i64 ((i + 1 : Nat) : Int)), (17, .int .i64 (l.length : Int)), (16, .lst 5 (l.map ND.c) tt), (0, .lst 1 ((bs ++ (numB (l.length : Int) ++ ((l.take (i + 1)).map nodeB).flatten)).map bc) false)]) ?_ (St.none_le _)) ⟨i + 1, rfl, rfl, by omega, by omega⟩
          rw [e]
          simp (maxSteps := 4000000) (disch := first | decide | assumption | omega | (simp only [wL]; omega)) only [go_sem, simprocAttr, weak_int, weak_same]
          all_goals rfl
        · exact absurd (hnv rfl) (by decide)
      · cases bV
        · simp only [Bool.false_eq_true, if_false, if_true, List.append_nil] at e
          repeat' (first | (with_reducible first | refine up hn1 ?_ | refine up hn2 ?_ | refine up hpn ?_ | refine up hpv ?_) | (with_reducible first | (refine wT ?_; refine wN fun _ hnl => ?_; revert hnl; (repeat refine wS fun _ _ => ?_); intro hnl) | refine wD (by decide +kernel) ?_ | refine wI (fun h => ?_) fun h => ?_ | refine wF (fun h => ?_) fun h => ?_ | refine wG (fun h => ?_) fun h => ?_ | refine wH (fun h => ?_) fun h => ?_ | ((first | refine mfork_bool (fun h => ?_) fun h => ?_ | refine mgfork_bool (fun h => ?_) fun h => ?_) <;> simp only [h])) | simp (maxSteps := 4000000) (disch := first | decide | assumption | omega | (simp only [wL]; omega)) only [go_sem, simprocAttr, getD_mapd nd0, hx])
          refine .of (.less (l1 := [(18, .int .i64 ((i + 1 : Nat) : Int)), (17, .int .i64 (l.length : Int)), (16, .lst 5 (l.map ND.c) tt), (0, .lst 1 ((bs ++ (numB (l.length : Int) ++ ((l.take (i + 1)).map nodeB).flatten)).map bc) false)]) ?_ (St.none_le _)) ⟨i + 1, rfl, rfl, by omega, by omega⟩
          rw [e]
          simp (maxSteps := 4000000) (disch := first | decide | assumption | omega | (simp only [wL]; omega)) only [go_sem, simprocAttr, weak_int, weak_same]
          all_goals rfl
        · have hv := pputval_call (pre ++ numB x.op ++ numB x.n) (by rw [List.length_append, List.length_append]; omega) false x.v (hvo rfl)
          simp only [if_true] at e
          repeat' (first | (with_reducible first | refine up hn1 ?_ | refine up hn2 ?_ | refine up hpn ?_ | refine up hpv ?_ | refine up hv ?_) | (with_reducible first | (refine wT ?_; refine wN fun _ hnl => ?_; revert hnl; (repeat refine wS fun _ _ => ?_); intro hnl) | refine wD (by decide +kernel) ?_ | refine wI (fun h => ?_) fun h => ?_ | refine wF (fun h => ?_) fun h => ?_ | refine wG (fun h => ?_) fun h => ?_ | refine wH (fun h => ?_) fun h => ?_ | ((first | refine mfork_bool (fun h => ?_) fun h => ?_ | refine mgfork_bool (fun h => ?_) fun h => ?_) <;> simp only [h])) | simp (maxSteps := 4000000) (disch := first | decide | assumption | omega | (simp only [wL]; omega)) only [go_sem, simprocAttr, getD_mapd nd0, hx])
          refine .of (.less (l1 := [(18, .int .i64 ((i + 1 : Nat) : Int)), (17, .int .i64 (l.length : Int)), (16, .lst 5 (l.map ND.c) tt), (0, .lst 1 ((bs ++ (numB (l.length : Int) ++ ((l.take (i + 1)).map nodeB).flatten)).map bc) false)]) ?_ (St.none_le _)) ⟨i + 1, rfl, rfl, by omega, by omega⟩
          rw [e]
          simp (maxSteps := 4000000) (disch := first | decide | assumption | omega | (simp only [wL]; omega)) only [go_sem, simprocAttr, weak_int, weak_same]
          all_goals rfl
    · have : i = l.length := by omega
      subst this
      rw [List.take_length]
      repeat' (first | (with_reducible first | (refine wT ?_; refine wN fun _ hnl => ?_; revert hnl; (repeat refine wS fun _ _ => ?_); intro hnl) | refine wD (by decide +kernel) ?_ | refine wI (fun h => ?_) fun h => ?_ | refine wF (fun h => ?_) fun h => ?_ | refine wG (fun h => ?_) fun h => ?_ | refine wH (fun h => ?_) fun h => ?_ | ((first | refine mfork_bool (fun h => ?_) fun h => ?_ | refine mgfork_bool (fun h => ?_) fun h => ?_) <;> simp only [h])) | simp (maxSteps := 4000000) (disch := first | decide | assumption | omega | (simp only [wL]; omega)) only [go_sem, simprocAttr])
      all_goals first | exact ⟨_, St.le_refl _, rfl⟩ | exact ⟨_, St.le_refl _⟩
end Go.Proofs.YtfbodefnblpflaaGreatDoor
end

section
/- Words and tables of bits; what trees say of sets of atoms. No program in sight. -/
set_option linter.unusedVariables false
set_option linter.unusedSimpArgs false
namespace Go.Proofs.YtfbodefnblpflaaGreatDoor
/-- The word whose bits are told. -/
def wd (g : Nat → Bool) : Nat → Nat
  | 0 => 0
  | n + 1 => wd g n ||| (if g n = true then 2 ^ n else 0)
/-- A table's word. -/
def tw (f : Nat → Bool) (i : Nat) : Nat := wd (fun j => f (64 * i + j)) 64
end Go.Proofs.YtfbodefnblpflaaGreatDoor
end

section
/- Forms of filters. No program in sight. -/
set_option linter.unusedVariables false
set_option linter.unusedSimpArgs false
namespace Go.Proofs.YtfbodefnblpflaaGreatDoor
def T.root : T → ND
  | .leaf x => x
  | .one x _ => x
  | .two x _ _ => x
def T.kids : T → List T
  | .leaf _ => []
  | .one _ a => [a]
  | .two _ a b => [a, b]
theorem T.fl_kids (t : T) : t.fl = t.root :: (t.kids.map T.fl).flatten := by cases t <;> simp [T.fl, T.kids, T.root]
theorem T.ok_kids {t : T} (h : t.ok) : t.kids.length = parts t.root.op ∧ ∀ k, k ∈ t.kids → k.ok := by
  cases t with
  | leaf x => simp only [T.ok] at h; simp [T.kids, T.root, h]
  | one x a => simp only [T.ok] at h; simp [T.kids, T.root, h.1, h.2]
  | two x a b => simp only [T.ok] at h; simp [T.kids, T.root, h.1, h.2.1, h.2.2]
/-! ### The order of filters -/
theorem cmpF_eq : ∀ {a b : List ND}, cmpF a b = .eq ↔ a = b
  | [], [] => by simp [cmpF]
  | [], _ :: _ => by simp [cmpF]
  | _ :: _, [] => by simp [cmpF]
  | a :: x, b :: y => by
    rw [cmpF_cons]
    constructor
    · intro h
      split at h
      · rename_i h1; rw [ND.key_inj (cmpL_eq.1 h1), cmpF_eq.1 h]
      · contradiction
    · intro h
      simp only [List.cons.injEq] at h
      rw [h.1, h.2, if_pos (cmpL_refl _)]
      exact cmpF_eq.2 rfl
/-! ### Forms -/
end Go.Proofs.YtfbodefnblpflaaGreatDoor
end

section
/- Contracts of the program's answers: which may be, whether two are alike, bytes: the conditions that the theorems name. -/
set_option linter.unusedVariables false
set_option linter.unusedSimpArgs false
namespace Go.Proofs.YtfbodefnblpflaaGreatDoor
set_option maxRecDepth 100000
set_option maxHeartbeats 4000000
def wi (n from_ to : Int) (must : Bool) : Bool := if must = true then decide (from_ ≤ n ∧ n ≤ to) else decide (n = 0)
theorem pwithin_call (n a b : Int) (must : Bool) : MCalls Tryz.prog 117 [.int .i64 n, .int .i64 a, .int .i64 b, .bool must] St.none (fun r _ => r = .bool (wi n a b must)) := by
  refine (MCalls.body 21 [.tmp 8] Tryz.func117 rfl rfl rfl rfl ?_)
  unfold wi
  cases must
  · repeat' (first | (with_reducible first | (refine wT ?_; refine wN fun _ hnl => ?_; revert hnl; (repeat refine wS fun _ _ => ?_); intro hnl) | refine wD (by decide +kernel) ?_ | refine wI (fun h => ?_) fun h => ?_ | refine wF (fun h => ?_) fun h => ?_ | refine wG (fun h => ?_) fun h => ?_ | refine wH (fun h => ?_) fun h => ?_ | ((first | refine mfork_bool (fun h => ?_) fun h => ?_ | refine mgfork_bool (fun h => ?_) fun h => ?_) <;> simp only [h])) | simp (maxSteps := 4000000) (disch := first | decide | assumption | omega | (simp only [wL]; omega)) only [go_sem, simprocAttr, Tryz.f117])
    all_goals simp
  · repeat' (first | (with_reducible first | (refine wT ?_; refine wN fun _ hnl => ?_; revert hnl; (repeat refine wS fun _ _ => ?_); intro hnl) | refine wD (by decide +kernel) ?_ | refine wI (fun h => ?_) fun h => ?_ | refine wF (fun h => ?_) fun h => ?_ | refine wG (fun h => ?_) fun h => ?_ | refine wH (fun h => ?_) fun h => ?_ | ((first | refine mfork_bool (fun h => ?_) fun h => ?_ | refine mgfork_bool (fun h => ?_) fun h => ?_) <;> simp only [h])) | simp (maxSteps := 4000000) (disch := first | decide | assumption | omega | (simp only [wL]; omega)) only [go_sem, simprocAttr, Tryz.f117])
    all_goals first | (exact (decide_eq_false (by omega)).symm) | (exact decide_eq_decide.mpr (by omega)) | (exact (decide_eq_true (by omega)).symm) | (simp; omega)
theorem prcheck_call (a : RE) (hl : a.fl.length ≤ 1000000) : MCalls Tryz.prog 64 [.agg a.c] St.none (fun r _ => r = .bool (repOk a)) := by
  refine MCalls.drops (MCalls.body 104 [.tmp 2] Tryz.func64 rfl rfl rfl rfl ?_)
  have hp := ppcheck_call a.fl hl
  have hm := pmcheck_call a.mask
  have hmt := a.mask.toNat_lt
  obtain ⟨res, hres⟩ : ∃ b, repOk a = b := ⟨_, rfl⟩
  have e : Unit → repOk a = res := fun _ => hres
  simp only [repOk, big, idMax, u32_zero, ← List.length_eq_zero_iff, ite_imp] at e
  rw [hres]
  clear hres
  have h4 : (a.code = 0 ∧ a.kd = 2) ∨ (a.code = 0 ∧ a.kd = 3) ∨ (a.code = 0 ∧ ¬ a.kd = 2 ∧ ¬ a.kd = 3) ∨ ¬ a.code = 0 := by omega
  rcases h4 with ⟨h0, h2⟩ | ⟨h0, h3⟩ | ⟨h0, h2, h3⟩ | h0
  · have d0 : decide (a.code = 0) = true := decide_eq_true h0
    have d2 : decide (a.kd = 2) = true := decide_eq_true h2
    have d3 : decide (a.kd = 3) = false := decide_eq_false (by omega)
    have w1 := pwithin_call a.sq 0 1099511627776 true
    have w2 := pwithin_call a.id 1 1073741823 true
    have w3 := pwithin_call a.ver 1 1099511627776 true
    have w4 := pwithin_call a.ep 1 1099511627776 false
    simp only [wi, Bool.false_eq_true, if_true, if_false] at w1 w2 w3 w4
    repeat' (first | (with_reducible first | refine up w1 ?_ | refine up w2 ?_ | refine up w3 ?_ | refine up w4 ?_) | (with_reducible first | (refine wT ?_; refine wN fun _ hnl => ?_; revert hnl; (repeat refine wS fun _ _ => ?_); intro hnl) | refine wD (by decide +kernel) ?_ | refine wI (fun h => ?_) fun h => ?_ | refine wF (fun h => ?_) fun h => ?_ | refine wG (fun h => ?_) fun h => ?_ | refine wH (fun h => ?_) fun h => ?_ | ((first | refine mfork_bool (fun h => ?_) fun h => ?_ | refine mgfork_bool (fun h => ?_) fun h => ?_) <;> simp only [h])) | simp (maxSteps := 4000000) (disch := first | decide | assumption | omega | (simp only [wL]; omega)) only [go_sem, simprocAttr, Tryz.f64, d0, d2, d3])
    all_goals (first | refine ⟨_, St.le_refl _, ?_⟩ | skip)
    all_goals rw [← e ()]
    all_goals clear e hp hm w1 w2 w3 w4
    all_goals (first | (exact (decide_eq_false (by omega)).symm) | (exact decide_eq_decide.mpr (by omega)) | (exact (decide_eq_true (by omega)).symm) | skip)
  · have d0 : decide (a.code = 0) = true := decide_eq_true h0
    have d2 : decide (a.kd = 2) = false := decide_eq_false (by omega)
    have d3 : decide (a.kd = 3) = true := decide_eq_true h3
    have w1 := pwithin_call a.sq 0 1099511627776 true
    have w2 := pwithin_call a.id 1 1073741823 false
    have w3 := pwithin_call a.ver 1 1099511627776 false
    have w4 := pwithin_call a.ep 1 1099511627776 true
    simp only [wi, Bool.false_eq_true, if_true, if_false] at w1 w2 w3 w4
    have hp := hp false
    repeat' (first | (with_reducible first | refine up hm ?_ | refine up hp ?_ | refine up w1 ?_ | refine up w2 ?_ | refine up w3 ?_ | refine up w4 ?_) | (with_reducible first | (refine wT ?_; refine wN fun _ hnl => ?_; revert hnl; (repeat refine wS fun _ _ => ?_); intro hnl) | refine wD (by decide +kernel) ?_ | refine wI (fun h => ?_) fun h => ?_ | refine wF (fun h => ?_) fun h => ?_ | refine wG (fun h => ?_) fun h => ?_ | refine wH (fun h => ?_) fun h => ?_ | ((first | refine mfork_bool (fun h => ?_) fun h => ?_ | refine mgfork_bool (fun h => ?_) fun h => ?_) <;> simp only [h])) | simp (maxSteps := 4000000) (disch := first | decide | assumption | omega | (simp only [wL]; omega)) only [go_sem, simprocAttr, Tryz.f64, d0, d2, d3])
    all_goals (first | refine ⟨_, St.le_refl _, ?_⟩ | skip)
    all_goals rw [← e ()]
    all_goals clear e hp hm w1 w2 w3 w4
    all_goals (first | (exact (decide_eq_false (by omega)).symm) | (exact decide_eq_decide.mpr (by omega)) | (exact (decide_eq_true (by omega)).symm) | skip)
  · have d0 : decide (a.code = 0) = true := decide_eq_true h0
    have d2 : decide (a.kd = 2) = false := decide_eq_false h2
    have d3 : decide (a.kd = 3) = false := decide_eq_false h3
    have w1 := pwithin_call a.sq 0 1099511627776 true
    have w2 := pwithin_call a.id 1 1073741823 false
    have w3 := pwithin_call a.ver 1 1099511627776 false
    have w4 := pwithin_call a.ep 1 1099511627776 false
    simp only [wi, Bool.false_eq_true, if_true, if_false] at w1 w2 w3 w4
    repeat' (first | (with_reducible first | refine up w1 ?_ | refine up w2 ?_ | refine up w3 ?_ | refine up w4 ?_) | (with_reducible first | (refine wT ?_; refine wN fun _ hnl => ?_; revert hnl; (repeat refine wS fun _ _ => ?_); intro hnl) | refine wD (by decide +kernel) ?_ | refine wI (fun h => ?_) fun h => ?_ | refine wF (fun h => ?_) fun h => ?_ | refine wG (fun h => ?_) fun h => ?_ | refine wH (fun h => ?_) fun h => ?_ | ((first | refine mfork_bool (fun h => ?_) fun h => ?_ | refine mgfork_bool (fun h => ?_) fun h => ?_) <;> simp only [h])) | simp (maxSteps := 4000000) (disch := first | decide | assumption | omega | (simp only [wL]; omega)) only [go_sem, simprocAttr, Tryz.f64, d0, d2, d3])
    all_goals (first | refine ⟨_, St.le_refl _, ?_⟩ | skip)
    all_goals rw [← e ()]
    all_goals clear e hp hm w1 w2 w3 w4
    all_goals (first | (exact (decide_eq_false (by omega)).symm) | (exact decide_eq_decide.mpr (by omega)) | (exact (decide_eq_true (by omega)).symm) | skip)
  · have d0 : decide (a.code = 0) = false := decide_eq_false h0
    have w1 := pwithin_call a.sq 0 1099511627776 false
    have w2 := pwithin_call a.id 1 1073741823 false
    have w3 := pwithin_call a.ver 1 1099511627776 false
    have w4 := pwithin_call a.ep 1 1099511627776 false
    simp only [wi, Bool.false_eq_true, if_true, if_false] at w1 w2 w3 w4
    repeat' (first | (with_reducible first | refine up w1 ?_ | refine up w2 ?_ | refine up w3 ?_ | refine up w4 ?_) | (with_reducible first | (refine wT ?_; refine wN fun _ hnl => ?_; revert hnl; (repeat refine wS fun _ _ => ?_); intro hnl) | refine wD (by decide +kernel) ?_ | refine wI (fun h => ?_) fun h => ?_ | refine wF (fun h => ?_) fun h => ?_ | refine wG (fun h => ?_) fun h => ?_ | refine wH (fun h => ?_) fun h => ?_ | ((first | refine mfork_bool (fun h => ?_) fun h => ?_ | refine mgfork_bool (fun h => ?_) fun h => ?_) <;> simp only [h])) | simp (maxSteps := 4000000) (disch := first | decide | assumption | omega | (simp only [wL]; omega)) only [go_sem, simprocAttr, Tryz.f64, d0])
    all_goals (first | refine ⟨_, St.le_refl _, ?_⟩ | skip)
    all_goals rw [← e ()]
    all_goals clear e hp hm w1 w2 w3 w4
    all_goals (first | (exact (decide_eq_false (by omega)).symm) | (exact decide_eq_decide.mpr (by omega)) | (exact (decide_eq_true (by omega)).symm) | skip)
theorem prsame_call (a b : RE) (ha : a.fl.length ≤ 1000000) (hb : b.fl.length ≤ 1000000) : MCalls Tryz.prog 37 [.agg a.c, .agg b.c] St.none (fun r _ => r = .bool (decide (a = b))) := by
  refine MCalls.drops (MCalls.body 72 [.tmp 4] Tryz.func37 rfl rfl rfl rfl ?_)
  have hs := pcompare_call a.fl b.fl ha hb false false
  have hu := u32_int (a := a.mask) (b := b.mask)
  have hz : ordI (cmpF a.fl b.fl) = 0 ↔ a.fl = b.fl := by rw [← cmpF_eq]; cases cmpF a.fl b.fl <;> simp [ordI]
  obtain ⟨z, hzz⟩ : ∃ z, ordI (cmpF a.fl b.fl) = z := ⟨_, rfl⟩
  rw [hzz] at hs hz
  obtain ⟨res, hres⟩ : ∃ r, decide (a = b) = r := ⟨_, rfl⟩
  have e : Unit → decide (a.kd = b.kd ∧ a.dev = b.dev ∧ a.req = b.req ∧ a.code = b.code ∧ a.id = b.id ∧ a.ver = b.ver ∧ a.sq = b.sq ∧ a.ep = b.ep ∧ z = 0 ∧ (a.mask.toNat : Int) = (b.mask.toNat : Int)) = res := fun _ => by
    rw [← hres]
    refine decide_eq_decide.mpr ?_
    rw [re_iff, hu, hz]
  rw [hres]
  clear hres hu hz hzz
  repeat' (first | (with_reducible first | refine up hs ?_) | (with_reducible first | (refine wT ?_; refine wN fun _ hnl => ?_; revert hnl; (repeat refine wS fun _ _ => ?_); intro hnl) | refine wD (by decide +kernel) ?_ | refine wI (fun h => ?_) fun h => ?_ | refine wF (fun h => ?_) fun h => ?_ | refine wG (fun h => ?_) fun h => ?_ | refine wH (fun h => ?_) fun h => ?_ | ((first | refine mfork_bool (fun h => ?_) fun h => ?_ | refine mgfork_bool (fun h => ?_) fun h => ?_) <;> simp only [h])) | simp (maxSteps := 4000000) (disch := first | decide | assumption | omega | (simp only [wL]; omega)) only [go_sem, simprocAttr, Tryz.f37])
  all_goals first | refine ⟨_, St.le_refl _, ?_⟩ | skip
  all_goals rw [← e ()]
  all_goals clear e
  all_goals first | (simp [*]; done) | exact decide_eq_decide.mpr (by omega)
end Go.Proofs.YtfbodefnblpflaaGreatDoor
end

section
/- Contracts of the program's commands: which may be, whether two are alike: the conditions that the theorems name. -/
set_option linter.unusedVariables false
set_option linter.unusedSimpArgs false
namespace Go.Proofs.YtfbodefnblpflaaGreatDoor
set_option maxRecDepth 100000
set_option maxHeartbeats 4000000
/-- Within the machine's numbers. -/
abbrev In64 (a : Int) : Prop := -9223372036854775808 ≤ a ∧ a ≤ 9223372036854775807
abbrev Rg (c : CM) : Prop := In64 c.dev ∧ In64 c.req ∧ In64 c.id ∧ In64 c.base ∧ In64 c.keep
theorem or64v (a b : Int) : ∃ x y : Nat, x < 18446744073709551616 ∧ y < 18446744073709551616 ∧ (x : Int) = a % 18446744073709551616 ∧ (y : Int) = b % 18446744073709551616 ∧ x ||| y < 18446744073709551616 ∧ orK .i64 a b = IntKind.i64.wrap ((x ||| y : Nat) : Int) := by
  refine ⟨(a % 18446744073709551616).toNat, (b % 18446744073709551616).toNat, by omega, by omega, by omega, by omega, ?_, ?_⟩
  · exact Nat.or_lt_two_pow (n := 64) (by omega) (by omega)
  · unfold orK
    congr 2
theorem in0 : In64 0 := by decide
theorem wrapI (n : Int) : IntKind.i64.wrap n = (n + 9223372036854775808) % 18446744073709551616 - 9223372036854775808 := by
  simp [IntKind.wrap, IntKind.bits, IntKind.signed]
  split <;> omega
theorem wrap_zero {x : Nat} (h : x < 18446744073709551616) : IntKind.i64.wrap (x : Int) = 0 ↔ x = 0 := by
  rw [wrapI]
  omega
theorem wrap_in (x : Int) : In64 (IntKind.i64.wrap x) := by
  rw [wrapI]
  simp only [In64]
  omega
theorem or_in (a b : Int) : In64 (orK .i64 a b) := by
  obtain ⟨x, y, _, _, _, _, _, e⟩ := or64v a b
  rw [e]
  exact wrap_in _
theorem or_zero {a b : Int} (ha : In64 a) (hb : In64 b) : orK .i64 a b = 0 ↔ a = 0 ∧ b = 0 := by
  obtain ⟨x, y, hx, hy, ex, ey, hxy, e⟩ := or64v a b
  rw [e, wrap_zero hxy, Nat.or_eq_zero_iff]
  simp only [In64] at ha hb
  omega
theorem or5 {a b c d e : Int} (ha : In64 a) (hb : In64 b) (hc : In64 c) (hd : In64 d) (he : In64 e) : orK .i64 (orK .i64 (orK .i64 (orK .i64 a b) c) d) e = 0 ↔ a = 0 ∧ b = 0 ∧ c = 0 ∧ d = 0 ∧ e = 0 := by
  rw [or_zero (or_in _ _) he, or_zero (or_in _ _) hd, or_zero (or_in _ _) hc, or_zero ha hb]
  simp only [and_assoc]
theorem pbare_call (c : CM) (hg : Rg c) : MCalls Tryz.prog 98 [.agg c.c] St.none (fun r _ => r = .bool (decide (c = { cm0 with kd := c.kd }))) := by
  refine MCalls.drops (MCalls.body 43 [.tmp 2] Tryz.func98 rfl rfl rfl rfl ?_)
  have hE : mbin Tryz.prog 29 .eql (.agg c.e.c) (.agg (.int .i64 0 :: .int .i64 0 :: .int .i64 0 :: .int .u32 0 :: .int .u32 0 :: fc f80)) = some (True, .bool (decide (c.e = ed0))) := mbe_edit c.e ed0
  have hP : mbin Tryz.prog 27 .eql (.agg c.p.c) (.agg (.int .u32 0 :: .int .u32 0 :: fc f80)) = some (True, .bool (decide (c.p = pa0))) := mbe_patch c.p pa0
  obtain ⟨bE, hbE⟩ : ∃ x, decide (c.e = ed0) = x := ⟨_, rfl⟩
  obtain ⟨bP, hbP⟩ : ∃ x, decide (c.p = pa0) = x := ⟨_, rfl⟩
  obtain ⟨res, hres⟩ : ∃ r, decide (c = { cm0 with kd := c.kd }) = r := ⟨_, rfl⟩
  have hm : c.mask = 0 ↔ (c.mask.toNat : Int) = 0 := by rw [u32_zero]; omega
  obtain ⟨g1, g2, g3, g4, g5⟩ := hg
  have ho := or5 g1 g2 g3 g4 g5
  obtain ⟨v, hv⟩ : ∃ v, orK .i64 (orK .i64 (orK .i64 (orK .i64 c.dev c.req) c.id) c.base) c.keep = v := ⟨_, rfl⟩
  rw [hv] at ho
  have e : Unit → decide (v = 0 ∧ bE = true ∧ bP = true ∧ (c.fl.length : Int) = 0 ∧ (c.mask.toNat : Int) = 0) = res := fun _ => by
    rw [← hres, ← hbE, ← hbP]
    refine decide_eq_decide.mpr ?_
    rw [cm_iff, decide_eq_true_iff, decide_eq_true_iff, fl_empty, ← hm]
    rw [ho]
    simp only [cm0, true_and]
    constructor
    · rintro ⟨⟨a1, a2, a3, a4, a5⟩, a6, a7, a8, a9⟩
      exact ⟨a6, a1, a2, a3, a4, a5, a7, a8, a9⟩
    · rintro ⟨a6, a1, a2, a3, a4, a5, a7, a8, a9⟩
      exact ⟨⟨a1, a2, a3, a4, a5⟩, a6, a7, a8, a9⟩
  rw [hbE] at hE
  rw [hbP] at hP
  rw [hres]
  clear hres hbE hbP hm ho g1 g2 g3 g4 g5
  cases bE <;> cases bP
  all_goals
    repeat' (first | (with_reducible first | (refine wT ?_; refine wN fun _ hnl => ?_; revert hnl; (repeat refine wS fun _ _ => ?_); intro hnl) | refine wD (by decide +kernel) ?_ | refine wI (fun h => ?_) fun h => ?_ | refine wF (fun h => ?_) fun h => ?_ | refine wG (fun h => ?_) fun h => ?_ | refine wH (fun h => ?_) fun h => ?_ | ((first | refine mfork_bool (fun h => ?_) fun h => ?_ | refine mgfork_bool (fun h => ?_) fun h => ?_) <;> simp only [h])) | simp (maxSteps := 4000000) (disch := first | decide | assumption | omega | (simp only [wL]; omega)) only [go_sem, simprocAttr, Tryz.f98, fc_zero, fc_len, fc_cell, fc_take, fc_take', fc_drop, fc_drop', fc_getD, drop_two, drop_three, take_two, take_three, getD_two, getD_three, fc_at, fc_at_app, fc_get0, fc_get1, fc_get2, fc_fold, F8.get_hit, fc_all, fc_assoc, List.append_nil, List.take_zero, u32z, List.cons_append, List.nil_append, hE, hP, hv])
  all_goals first | refine ⟨_, St.le_refl _, ?_⟩ | skip
  all_goals rw [← e ()]
  all_goals clear e
  all_goals (first | (simp [*]; done) | (simp only [*, not_false_eq_true, decide_false, decide_true, true_and, and_true, and_false, false_and]; done) | skip)
theorem pcmsame_call (a b : CM) (ha : a.fl.length ≤ 1000000) (hb : b.fl.length ≤ 1000000) : MCalls Tryz.prog 36 [.agg a.c, .agg b.c] St.none (fun r _ => r = .bool (decide (a = b))) := by
  refine MCalls.drops (MCalls.body 72 [.tmp 4] Tryz.func36 rfl rfl rfl rfl ?_)
  have hs := pcompare_call a.fl b.fl ha hb false false
  have hz : ordI (cmpF a.fl b.fl) = 0 ↔ a.fl = b.fl := by rw [← cmpF_eq]; cases cmpF a.fl b.fl <;> simp [ordI]
  obtain ⟨z, hzz⟩ : ∃ z, ordI (cmpF a.fl b.fl) = z := ⟨_, rfl⟩
  rw [hzz] at hs hz
  have hE := mbn_edit a.e b.e
  have hP := mbn_patch a.p b.p
  obtain ⟨bE, hbE⟩ : ∃ x, decide (a.e = b.e) = x := ⟨_, rfl⟩
  obtain ⟨bP, hbP⟩ : ∃ x, decide (a.p = b.p) = x := ⟨_, rfl⟩
  have hu := u32_int (a := a.mask) (b := b.mask)
  obtain ⟨res, hres⟩ : ∃ r, decide (a = b) = r := ⟨_, rfl⟩
  have e : Unit → decide (a.kd = b.kd ∧ bE = true ∧ a.dev = b.dev ∧ a.req = b.req ∧ a.id = b.id ∧ a.base = b.base ∧ a.keep = b.keep ∧ bP = true ∧ z = 0 ∧ (a.mask.toNat : Int) = (b.mask.toNat : Int)) = res := fun _ => by
    rw [← hres, ← hbE, ← hbP]
    refine decide_eq_decide.mpr ?_
    rw [cm_iff, hu, hz, decide_eq_true_iff, decide_eq_true_iff]
  rw [hbE] at hE
  rw [hbP] at hP
  rw [hres]
  clear hres hu hbE hbP hz hzz
  by_cases z0 : z = 0 <;> cases bE <;> cases bP
  all_goals
    repeat' (first | (with_reducible first | refine up hs ?_) | (with_reducible first | (refine wT ?_; refine wN fun _ hnl => ?_; revert hnl; (repeat refine wS fun _ _ => ?_); intro hnl) | refine wD (by decide +kernel) ?_ | refine wI (fun h => ?_) fun h => ?_ | refine wF (fun h => ?_) fun h => ?_ | refine wG (fun h => ?_) fun h => ?_ | refine wH (fun h => ?_) fun h => ?_ | ((first | refine mfork_bool (fun h => ?_) fun h => ?_ | refine mgfork_bool (fun h => ?_) fun h => ?_) <;> simp only [h])) | simp (maxSteps := 4000000) (disch := first | decide | assumption | omega | (simp only [wL]; omega)) only [go_sem, simprocAttr, Tryz.f36, fc_zero, fc_len, fc_cell, fc_take, fc_take', fc_drop, fc_drop', fc_getD, drop_two, drop_three, take_two, take_three, getD_two, getD_three, fc_at, fc_at_app, fc_get0, fc_get1, fc_get2, fc_fold, F8.get_hit, fc_all, fc_assoc, List.append_nil, List.take_zero, u32z, List.cons_append, List.nil_append, hE, hP])
  all_goals first | refine ⟨_, St.le_refl _, ?_⟩ | skip
  all_goals rw [← e ()]
  all_goals clear e
  all_goals (first | (simp [*]; done) | exact decide_eq_decide.mpr (by omega) | skip)
theorem pcmcheck_call (c : CM) (hg : Rg c) (hl : c.fl.length ≤ 1000000) : MCalls Tryz.prog 58 [.agg c.c] St.none (fun r _ => r = .bool (cmdOk c)) := by
  refine MCalls.drops (MCalls.body 114 [.tmp 2] Tryz.func58 rfl rfl rfl rfl ?_)
  obtain ⟨res, hres⟩ : ∃ b, cmdOk c = b := ⟨_, rfl⟩
  rw [hres]
  by_cases k1 : c.kd = 1
  · rw [cmdOk_1 k1] at hres
    have hz := pbare_call { c with e := ed0 } (by first | exact ⟨hg.1, hg.2.1, hg.2.2.1, hg.2.2.2.1, hg.2.2.2.2⟩ | (obtain ⟨g1, g2, g3, g4, g5⟩ := hg; refine ⟨?_, ?_, ?_, ?_, ?_⟩ <;> first | assumption | exact in0))
    have he := pecheck_call c.e
    obtain ⟨b, hb⟩ : ∃ b, decide (({ c with e := ed0 } : CM) = { cm0 with kd := c.kd }) = b := ⟨_, rfl⟩
    rw [hb] at hres
    have hz : MCalls Tryz.prog 98 _ St.none fun r _ => r = .bool b := hb ▸ hz
    simp only [CM.c, CM.k, ed0, pa0, u32z] at hz
    have e := fun (_ : Unit) => hres
    clear hres hb
    cases b
    all_goals
      repeat' (first | (with_reducible first | refine up hz ?_ | refine up he ?_) | (with_reducible first | (refine wT ?_; refine wN fun _ hnl => ?_; revert hnl; (repeat refine wS fun _ _ => ?_); intro hnl) | refine wD (by decide +kernel) ?_ | refine wI (fun h => ?_) fun h => ?_ | refine wF (fun h => ?_) fun h => ?_ | refine wG (fun h => ?_) fun h => ?_ | refine wH (fun h => ?_) fun h => ?_ | ((first | refine mfork_bool (fun h => ?_) fun h => ?_ | refine mgfork_bool (fun h => ?_) fun h => ?_) <;> simp only [h])) | simp (maxSteps := 4000000) (disch := first | decide | assumption | omega | (simp only [wL]; omega)) only [go_sem, simprocAttr, Tryz.f58, fc_zero, fc_len, fc_cell, fc_take, fc_take', fc_drop, fc_drop', fc_getD, drop_two, drop_three, take_two, take_three, getD_two, getD_three, fc_at, fc_at_app, fc_get0, fc_get1, fc_get2, fc_fold, F8.get_hit, fc_all, fc_assoc, List.append_nil, List.take_zero, u32z, List.cons_append, List.nil_append])
      all_goals first | refine ⟨_, St.le_refl _, ?_⟩ | refine ⟨_, St.le_refl _⟩ | skip
      all_goals rw [← e ()]
      all_goals (first | (simp [*]; done) | (simp; omega) | skip)
  · by_cases k5 : c.kd = 5
    · rw [cmdOk_5 k5] at hres
      have hz := pbare_call { c with keep := 0 } (by first | exact ⟨hg.1, hg.2.1, hg.2.2.1, hg.2.2.2.1, hg.2.2.2.2⟩ | (obtain ⟨g1, g2, g3, g4, g5⟩ := hg; refine ⟨?_, ?_, ?_, ?_, ?_⟩ <;> first | assumption | exact in0))
      obtain ⟨b, hb⟩ : ∃ b, decide (({ c with keep := 0 } : CM) = { cm0 with kd := c.kd }) = b := ⟨_, rfl⟩
      rw [hb] at hres
      have hz : MCalls Tryz.prog 98 _ St.none fun r _ => r = .bool b := hb ▸ hz
      simp only [CM.c, CM.k, ed0, pa0, u32z] at hz
      have e := fun (_ : Unit) => hres
      clear hres hb
      cases b
      all_goals
        repeat' (first | (with_reducible first | refine up hz ?_) | (with_reducible first | (refine wT ?_; refine wN fun _ hnl => ?_; revert hnl; (repeat refine wS fun _ _ => ?_); intro hnl) | refine wD (by decide +kernel) ?_ | refine wI (fun h => ?_) fun h => ?_ | refine wF (fun h => ?_) fun h => ?_ | refine wG (fun h => ?_) fun h => ?_ | refine wH (fun h => ?_) fun h => ?_ | ((first | refine mfork_bool (fun h => ?_) fun h => ?_ | refine mgfork_bool (fun h => ?_) fun h => ?_) <;> simp only [h])) | simp (maxSteps := 4000000) (disch := first | decide | assumption | omega | (simp only [wL]; omega)) only [go_sem, simprocAttr, Tryz.f58, fc_zero, fc_len, fc_cell, fc_take, fc_take', fc_drop, fc_drop', fc_getD, drop_two, drop_three, take_two, take_three, getD_two, getD_three, fc_at, fc_at_app, fc_get0, fc_get1, fc_get2, fc_fold, F8.get_hit, fc_all, fc_assoc, List.append_nil, List.take_zero, u32z, List.cons_append, List.nil_append])
        all_goals first | refine ⟨_, St.le_refl _, ?_⟩ | refine ⟨_, St.le_refl _⟩ | skip
        all_goals rw [← e ()]
        all_goals (first | (simp [*]; done) | (simp; omega) | skip)
    · by_cases hr : c.dev < 0 ∨ 6 ≤ c.dev ∨ c.req < 1 ∨ 1099511627776 < c.req
      · rw [cmdOk_r k1 k5 hr] at hres
        subst hres
        repeat' (first | (with_reducible first | (refine wT ?_; refine wN fun _ hnl => ?_; revert hnl; (repeat refine wS fun _ _ => ?_); intro hnl) | refine wD (by decide +kernel) ?_ | refine wI (fun h => ?_) fun h => ?_ | refine wF (fun h => ?_) fun h => ?_ | refine wG (fun h => ?_) fun h => ?_ | refine wH (fun h => ?_) fun h => ?_ | ((first | refine mfork_bool (fun h => ?_) fun h => ?_ | refine mgfork_bool (fun h => ?_) fun h => ?_) <;> simp only [h])) | simp (maxSteps := 4000000) (disch := first | decide | assumption | omega | (simp only [wL]; omega)) only [go_sem, simprocAttr, Tryz.f58, fc_zero, fc_len, fc_cell, fc_take, fc_take', fc_drop, fc_drop', fc_getD, drop_two, drop_three, take_two, take_three, getD_two, getD_three, fc_at, fc_at_app, fc_get0, fc_get1, fc_get2, fc_fold, F8.get_hit, fc_all, fc_assoc, List.append_nil, List.take_zero, u32z, List.cons_append, List.nil_append])
        all_goals first | exact ⟨_, St.le_refl _, rfl⟩ | exact ⟨_, St.le_refl _⟩ | (exfalso; omega)
      · by_cases k2 : c.kd = 2
        · rw [cmdOk_2 k2 hr] at hres
          have hz := pbare_call { c with dev := 0, req := 0, id := 0, base := 0, p := pa0 } (by first | exact ⟨hg.1, hg.2.1, hg.2.2.1, hg.2.2.2.1, hg.2.2.2.2⟩ | (obtain ⟨g1, g2, g3, g4, g5⟩ := hg; refine ⟨?_, ?_, ?_, ?_, ?_⟩ <;> first | assumption | exact in0))
          have hp := pcpatch_call c.p
          obtain ⟨b, hb⟩ : ∃ b, decide (({ c with dev := 0, req := 0, id := 0, base := 0, p := pa0 } : CM) = { cm0 with kd := c.kd }) = b := ⟨_, rfl⟩
          rw [hb] at hres
          have hz : MCalls Tryz.prog 98 _ St.none fun r _ => r = .bool b := hb ▸ hz
          simp only [CM.c, CM.k, ed0, pa0, u32z] at hz
          have e := fun (_ : Unit) => hres
          clear hres hb
          cases b
          all_goals
            repeat' (first | (with_reducible first | refine up hz ?_ | refine up hp ?_) | (with_reducible first | (refine wT ?_; refine wN fun _ hnl => ?_; revert hnl; (repeat refine wS fun _ _ => ?_); intro hnl) | refine wD (by decide +kernel) ?_ | refine wI (fun h => ?_) fun h => ?_ | refine wF (fun h => ?_) fun h => ?_ | refine wG (fun h => ?_) fun h => ?_ | refine wH (fun h => ?_) fun h => ?_ | ((first | refine mfork_bool (fun h => ?_) fun h => ?_ | refine mgfork_bool (fun h => ?_) fun h => ?_) <;> simp only [h])) | simp (maxSteps := 4000000) (disch := first | decide | assumption | omega | (simp only [wL]; omega)) only [go_sem, simprocAttr, Tryz.f58, fc_zero, fc_len, fc_cell, fc_take, fc_take', fc_drop, fc_drop', fc_getD, drop_two, drop_three, take_two, take_three, getD_two, getD_three, fc_at, fc_at_app, fc_get0, fc_get1, fc_get2, fc_fold, F8.get_hit, fc_all, fc_assoc, List.append_nil, List.take_zero, u32z, List.cons_append, List.nil_append])
            all_goals first | refine ⟨_, St.le_refl _, ?_⟩ | refine ⟨_, St.le_refl _⟩ | skip
            all_goals rw [← e ()]
            all_goals (first | (simp [*]; done) | (simp; omega) | skip)
        · by_cases k3 : c.kd = 3
          · rw [cmdOk_3 k3 hr] at hres
            have hz := pbare_call { c with dev := 0, req := 0, fl := [], mask := 0 } (by first | exact ⟨hg.1, hg.2.1, hg.2.2.1, hg.2.2.2.1, hg.2.2.2.2⟩ | (obtain ⟨g1, g2, g3, g4, g5⟩ := hg; refine ⟨?_, ?_, ?_, ?_, ?_⟩ <;> first | assumption | exact in0))
            have hp := ppcheck_call c.fl hl false
            have hm := pmcheck_call c.mask
            obtain ⟨b, hb⟩ : ∃ b, decide (({ c with dev := 0, req := 0, fl := [], mask := 0 } : CM) = { cm0 with kd := c.kd }) = b := ⟨_, rfl⟩
            rw [hb] at hres
            have hz : MCalls Tryz.prog 98 _ St.none fun r _ => r = .bool b := hb ▸ hz
            simp only [CM.c, CM.k, ed0, pa0, u32z] at hz
            have e := fun (_ : Unit) => hres
            clear hres hb
            cases b
            all_goals
              repeat' (first | (with_reducible refine use_lend _ hz (.bool _) rfl (views_one (vcm (c := { c with dev := 0, req := 0, fl := [], mask := 0 }) (.nil _ _))) ?_) | (with_reducible first | refine up hp ?_ | refine up hm ?_) | (with_reducible first | (refine wT ?_; refine wN fun _ hnl => ?_; revert hnl; (repeat refine wS fun _ _ => ?_); intro hnl) | refine wD (by decide +kernel) ?_ | refine wI (fun h => ?_) fun h => ?_ | refine wF (fun h => ?_) fun h => ?_ | refine wG (fun h => ?_) fun h => ?_ | refine wH (fun h => ?_) fun h => ?_ | ((first | refine mfork_bool (fun h => ?_) fun h => ?_ | refine mgfork_bool (fun h => ?_) fun h => ?_) <;> simp only [h])) | simp (maxSteps := 4000000) (disch := first | decide | assumption | omega | (simp only [wL]; omega)) only [go_sem, simprocAttr, Tryz.f58, fc_zero, fc_len, fc_cell, fc_take, fc_take', fc_drop, fc_drop', fc_getD, drop_two, drop_three, take_two, take_three, getD_two, getD_three, fc_at, fc_at_app, fc_get0, fc_get1, fc_get2, fc_fold, F8.get_hit, fc_all, fc_assoc, List.append_nil, List.take_zero, u32z, List.cons_append, List.nil_append])
              all_goals first | refine ⟨_, St.le_refl _, ?_⟩ | refine ⟨_, St.le_refl _⟩ | skip
              all_goals rw [← e ()]
              all_goals (first | (simp [*]; done) | (simp; omega) | skip)
          · by_cases k4 : c.kd = 4
            · rw [cmdOk_4 k4 hr] at hres
              have hz := pbare_call { c with dev := 0, req := 0 } (by first | exact ⟨hg.1, hg.2.1, hg.2.2.1, hg.2.2.2.1, hg.2.2.2.2⟩ | (obtain ⟨g1, g2, g3, g4, g5⟩ := hg; refine ⟨?_, ?_, ?_, ?_, ?_⟩ <;> first | assumption | exact in0))
              obtain ⟨b, hb⟩ : ∃ b, decide (({ c with dev := 0, req := 0 } : CM) = { cm0 with kd := c.kd }) = b := ⟨_, rfl⟩
              rw [hb] at hres
              have hz : MCalls Tryz.prog 98 _ St.none fun r _ => r = .bool b := hb ▸ hz
              simp only [CM.c, CM.k, ed0, pa0, u32z] at hz
              have e := fun (_ : Unit) => hres
              clear hres hb
              cases b
              all_goals
                repeat' (first | (with_reducible first | refine up hz ?_) | (with_reducible first | (refine wT ?_; refine wN fun _ hnl => ?_; revert hnl; (repeat refine wS fun _ _ => ?_); intro hnl) | refine wD (by decide +kernel) ?_ | refine wI (fun h => ?_) fun h => ?_ | refine wF (fun h => ?_) fun h => ?_ | refine wG (fun h => ?_) fun h => ?_ | refine wH (fun h => ?_) fun h => ?_ | ((first | refine mfork_bool (fun h => ?_) fun h => ?_ | refine mgfork_bool (fun h => ?_) fun h => ?_) <;> simp only [h])) | simp (maxSteps := 4000000) (disch := first | decide | assumption | omega | (simp only [wL]; omega)) only [go_sem, simprocAttr, Tryz.f58, fc_zero, fc_len, fc_cell, fc_take, fc_take', fc_drop, fc_drop', fc_getD, drop_two, drop_three, take_two, take_three, getD_two, getD_three, fc_at, fc_at_app, fc_get0, fc_get1, fc_get2, fc_fold, F8.get_hit, fc_all, fc_assoc, List.append_nil, List.take_zero, u32z, List.cons_append, List.nil_append])
                all_goals first | refine ⟨_, St.le_refl _, ?_⟩ | refine ⟨_, St.le_refl _⟩ | skip
                all_goals rw [← e ()]
                all_goals (first | (simp [*]; done) | (simp; omega) | skip)
            · rw [cmdOk_o k1 k5 k2 k3 k4] at hres
              subst hres
              repeat' (first | (with_reducible first | (refine wT ?_; refine wN fun _ hnl => ?_; revert hnl; (repeat refine wS fun _ _ => ?_); intro hnl) | refine wD (by decide +kernel) ?_ | refine wI (fun h => ?_) fun h => ?_ | refine wF (fun h => ?_) fun h => ?_ | refine wG (fun h => ?_) fun h => ?_ | refine wH (fun h => ?_) fun h => ?_ | ((first | refine mfork_bool (fun h => ?_) fun h => ?_ | refine mgfork_bool (fun h => ?_) fun h => ?_) <;> simp only [h])) | simp (maxSteps := 4000000) (disch := first | decide | assumption | omega | (simp only [wL]; omega)) only [go_sem, simprocAttr, Tryz.f58, fc_zero, fc_len, fc_cell, fc_take, fc_take', fc_drop, fc_drop', fc_getD, drop_two, drop_three, take_two, take_three, getD_two, getD_three, fc_at, fc_at_app, fc_get0, fc_get1, fc_get2, fc_fold, F8.get_hit, fc_all, fc_assoc, List.append_nil, List.take_zero, u32z, List.cons_append, List.nil_append])
              all_goals first | exact ⟨_, St.le_refl _, rfl⟩ | exact ⟨_, St.le_refl _⟩ | (exfalso; omega)
end Go.Proofs.YtfbodefnblpflaaGreatDoor
end

section
/- Contracts of the program's edits as bytes: the conditions that the theorems name. -/
set_option linter.unusedVariables false
set_option linter.unusedSimpArgs false
namespace Go.Proofs.YtfbodefnblpflaaGreatDoor
set_option maxRecDepth 100000
set_option maxHeartbeats 4000000
theorem editErr_kd {e : ED} (h : editErr e = 0) : 1 ≤ e.kd ∧ e.kd ≤ 7 := by
  unfold editErr at h
  by_cases hk : e.kd < 1 ∨ 7 < e.kd
  · rw [if_pos hk] at h; cases h
  · omega
theorem pputedit_call (bs : BL) (hb : bs.length ≤ 300000) (t : Bool) (e : ED) (hok : editErr e = 0) : MCalls Tryz.prog 104 [.lst 1 (bs.map bc) t, .agg e.c] St.none (fun r _ => r = .lst 1 ((bs ++ editB e).map bc) false) := by
  refine MCalls.drops (MCalls.body 36 [.tmp 4] Tryz.func104 rfl rfl rfl rfl ?_)
  have hc := pecheck_call e
  rw [hok] at hc
  obtain ⟨k1, k7⟩ := editErr_kd hok
  have hg := phas_call e.kd 1 (by omega) (by omega) (.inl rfl)
  have hi := phas_call e.kd 2 (by omega) (by omega) (.inr (.inl rfl))
  have hp := phas_call e.kd 4 (by omega) (by omega) (.inr (.inr rfl))
  rw [show edW 1 e.kd = edG e.kd from rfl] at hg
  rw [show edW 2 e.kd = edI e.kd from rfl] at hi
  rw [show edW 4 e.kd = edP e.kd from rfl] at hp
  have l1 := numB_len e.kd
  have l2 := numB_len e.gr
  have l3 := numB_len e.id
  have hpe : edP e.kd = true → patchErr e.p = 0 := fun h => by
    have := ((editErr_iff e).1 hok).2.2.2
    rwa [if_pos h] at this
  have n1 := pnum_call bs t e.kd (by omega)
  obtain ⟨b1, hb1⟩ : ∃ b, bs ++ numB e.kd = b := ⟨_, rfl⟩
  have hl1 : b1.length ≤ 300010 := by rw [← hb1, List.length_append]; omega
  obtain ⟨bg, hbg⟩ : ∃ b, edG e.kd = b := ⟨_, rfl⟩
  obtain ⟨bi, hbi⟩ : ∃ b, edI e.kd = b := ⟨_, rfl⟩
  obtain ⟨bp, hbp⟩ : ∃ b, edP e.kd = b := ⟨_, rfl⟩
  have n2 := pnum_call b1 false e.gr (by omega)
  obtain ⟨b2, hb2⟩ : ∃ b, b1 ++ (if bg = true then numB e.gr else []) = b := ⟨_, rfl⟩
  have hl2 : b2.length ≤ 300020 := by rw [← hb2, List.length_append]; split <;> (try simp only [List.length_nil]) <;> omega
  have n3 := pnum_call b2 false e.id (by omega)
  obtain ⟨b3, hb3⟩ : ∃ b, b2 ++ (if bi = true then numB e.id else []) = b := ⟨_, rfl⟩
  have hl3 : b3.length ≤ 300030 := by rw [← hb3, List.length_append]; split <;> (try simp only [List.length_nil]) <;> omega
  have n4 := fun h => pputpatch_call b3 (by omega) false e.p (hpe h)
  have e1 : bs ++ editB e = b3 ++ (if bp = true then patchB e.p else []) := by
    unfold editB
    rw [if_pos hok, hbg, hbi, hbp, ← hb3, ← hb2, ← hb1]
    simp only [List.append_assoc]
  rw [e1]
  rw [hbg] at hg
  rw [hbi] at hi
  rw [hbp] at hp n4
  rw [hb1] at n1
  clear hpe hbg hbi hbp hb1 e1 hok
  cases bg <;> cases bi <;> cases bp
  all_goals
    simp only [if_true, Bool.false_eq_true, if_false, List.append_nil] at hb2 hb3 ⊢
    try have n4 := n4 rfl
    try rw [hb2] at n2
    try rw [hb3] at n3
    try subst hb2
    try subst hb3
    repeat' (first | (with_reducible first | refine up hc ?_ | refine up hg ?_ | refine up hi ?_ | refine up hp ?_ | refine up n1 ?_ | refine up n2 ?_ | refine up n3 ?_ | refine up n4 ?_) | (with_reducible first | (refine wT ?_; refine wN fun _ hnl => ?_; revert hnl; (repeat refine wS fun _ _ => ?_); intro hnl) | refine wD (by decide +kernel) ?_ | refine wI (fun h => ?_) fun h => ?_ | refine wF (fun h => ?_) fun h => ?_ | refine wG (fun h => ?_) fun h => ?_ | refine wH (fun h => ?_) fun h => ?_ | ((first | refine mfork_bool (fun h => ?_) fun h => ?_ | refine mgfork_bool (fun h => ?_) fun h => ?_) <;> simp only [h])) | simp (maxSteps := 4000000) (disch := first | decide | assumption | omega | (simp only [wL]; omega)) only [go_sem, simprocAttr, Tryz.f104, fc_zero, fc_len, fc_cell, fc_take, fc_take', fc_drop, fc_drop', fc_getD, drop_two, drop_three, take_two, take_three, getD_two, getD_three, fc_at, fc_at_app, fc_get0, fc_get1, fc_get2, fc_fold, F8.get_hit])
    all_goals first | exact ⟨_, St.le_refl _, rfl⟩ | exact ⟨_, St.le_refl _⟩
end Go.Proofs.YtfbodefnblpflaaGreatDoor
end

section
/- Contracts of the program's answers as bytes: the conditions that the theorems name. -/
set_option linter.unusedVariables false
set_option linter.unusedSimpArgs false
namespace Go.Proofs.YtfbodefnblpflaaGreatDoor
set_option maxRecDepth 100000
set_option maxHeartbeats 4000000
theorem pnumK_skip {C : Know} {g : FuncId} {ms : List MV} {F : Fact} (h : C g ms = some F) (hg : (g == 21) = false) : pnumK C g ms = some F := by
  unfold pnumK
  rw [if_neg (by simpa using hg)]
  exact h
/-- The bytes of an answer's first numbers. -/
def repP (a : RE) (i : Int) : BL := (if 0 < i then numB a.kd else []) ++ (if 1 < i then numB a.dev else []) ++ (if 2 < i then numB a.req else []) ++ (if 3 < i then numB a.code else [])
theorem repP0 (t : RE) : repP t 0 = [] := by simp [repP]
theorem repP1 (t : RE) : repP t 1 = numB t.kd := by simp [repP]
theorem repP2 (t : RE) : repP t 2 = numB t.kd ++ numB t.dev := by simp [repP]
theorem repP3 (t : RE) : repP t 3 = numB t.kd ++ numB t.dev ++ numB t.req := by simp [repP]
theorem repP4 (t : RE) : repP t 4 = numB t.kd ++ numB t.dev ++ numB t.req ++ numB t.code := by simp [repP]
theorem pputrep_call (bs : BL) (hb : bs.length ≤ 300000) (tt : Bool) (a : RE) (hl : a.fl.length ≤ 1000000) (hok : repOk a = true) : MCalls Tryz.prog 65 [.lst 1 (bs.map bc) tt, .agg a.c] St.none (fun r _ => r = .lst 1 ((bs ++ repB a).map bc) false) := by
  refine MCalls.drops (MCalls.body 61 [.tmp 4] Tryz.func65 rfl rfl rfl rfl ?_)
  have hc := prcheck_call a hl
  rw [hok] at hc
  have l1 := numB_len a.kd
  have l2 := numB_len a.dev
  have l3 := numB_len a.req
  have l4 := numB_len a.code
  have l5 := numB_len a.sq
  have l6 := numB_len a.id
  have l7 := numB_len a.ver
  have l8 := numB_len a.ep
  have n1 := pnum_call bs tt a.kd (by omega)
  have n2 := pnum_call (bs ++ numB a.kd) false a.dev (by simp only [List.length_append]; omega)
  have n3 := pnum_call (bs ++ numB a.kd ++ numB a.dev) false a.req (by simp only [List.length_append]; omega)
  have n4 := pnum_call (bs ++ numB a.kd ++ numB a.dev ++ numB a.req) false a.code (by simp only [List.length_append]; omega)
  repeat' (first | (with_reducible first | refine up hc ?_) | (with_reducible first | (refine wT ?_; (first | ((fail_if_success (have := nl1)); refine wN fun nl1 hnl => ?_) | refine wN fun _ hnl => ?_); revert hnl; (repeat refine wS fun _ _ => ?_); intro hnl) | refine wD (by decide +kernel) ?_ | refine wI (fun h => ?_) fun h => ?_ | refine wF (fun h => ?_) fun h => ?_ | refine wG (fun h => ?_) fun h => ?_ | refine wH (fun h => ?_) fun h => ?_ | ((first | refine mfork_bool (fun h => ?_) fun h => ?_ | refine mgfork_bool (fun h => ?_) fun h => ?_) <;> simp only [h])) | simp (maxSteps := 4000000) (disch := first | decide | assumption | omega | (simp only [wL]; omega)) only [go_sem, simprocAttr, Tryz.f65])
  refine mloop_intro (α := Int) (fun i => ⟨61, [(21, .int .i64 i), (20, .agg [.int .i64 a.kd, .int .i64 a.dev, .int .i64 a.req, .int .i64 a.code]), (3, .ptr nl1 0 0), (0, .lst 1 ((bs ++ repP a i).map bc) (if i = 0 then tt else false))], []⟩)
    (fun _ => St.none.set nl1 (.row 37 10 [a.c])) (fun i => 0 ≤ i ∧ i ≤ 4) (fun i => (4 - i).toNat) (.of (.less ?_ (St.le_refl _)) ⟨0, rfl, rfl, by omega, by omega⟩) ?_
  · rw [repP0, List.append_nil]
    simp (maxSteps := 4000000) (disch := first | decide | assumption | omega | (simp only [wL]; omega)) only [go_sem, simprocAttr, weak_int, weak_same]
  · rintro i ⟨h0, h4⟩
    by_cases hi4 : i = 4
    · subst hi4
      have e : bs ++ repB a = (bs ++ repP a 4) ++ (if a.code = 0 then numB a.sq ++ (if a.kd = 2 then numB a.id ++ numB a.ver else []) ++ (if a.kd = 3 then numB a.ep ++ predB a.fl ++ numB a.mask.toNat else []) else []) := by
        unfold repB
        rw [if_pos hok, repP4]
        simp only [List.append_assoc]
      rw [e]
      have hpl : (bs ++ repP a 4).length ≤ 300024 := by rw [repP4]; simp only [List.length_append]; omega
      obtain ⟨pre, hpre⟩ : ∃ pre, bs ++ repP a 4 = pre := ⟨_, rfl⟩
      rw [hpre] at hpl ⊢
      have m1 := pnum_call pre false a.sq (by omega)
      clear n1 n2 n3 n4 e hpre
      simp only [Int.reduceEq, if_false]
      by_cases hc0 : a.code = 0
      · rw [if_pos hc0]
        have hp := fun h => repOk_sub (a := a) hok hc0 h
        clear hok hc
        by_cases k2 : a.kd = 2
        · rw [if_pos k2, if_neg (by omega)]
          have m2 := pnum_call (pre ++ numB a.sq) false a.id (by simp only [List.length_append]; omega)
          have m3 := pnum_call (pre ++ numB a.sq ++ numB a.id) false a.ver (by simp only [List.length_append]; omega)
          repeat' (first | ((with_reducible refine mdraw_know mixed ?chk (pnumK (fun _ _ => none)) ?_); (case chk => decide +kernel)) | (with_reducible refine know_pure pnumK_hit m2 ?_) | (with_reducible refine know_pure pnumK_hit m3 ?_) | (with_reducible first | refine up m1 ?_) | (with_reducible first | (refine wT ?_; (first | ((fail_if_success (have := nl1)); refine wN fun nl1 hnl => ?_) | refine wN fun _ hnl => ?_); revert hnl; (repeat refine wS fun _ _ => ?_); intro hnl) | refine wD (by decide +kernel) ?_ | refine wI (fun h => ?_) fun h => ?_ | refine wF (fun h => ?_) fun h => ?_ | refine wG (fun h => ?_) fun h => ?_ | refine wH (fun h => ?_) fun h => ?_ | ((first | refine mfork_bool (fun h => ?_) fun h => ?_ | refine mgfork_bool (fun h => ?_) fun h => ?_) <;> simp only [h])) | simp (maxSteps := 4000000) (disch := first | decide | assumption | omega | (simp only [wL]; omega)) only [go_sem, simprocAttr])
          all_goals first | refine ⟨_, St.le_refl _, ?_⟩ | refine ⟨_, St.le_refl _⟩ | skip
          all_goals simp only [List.append_assoc, List.append_nil]
        · rw [if_neg k2]
          by_cases k3 : a.kd = 3
          · rw [if_pos k3]
            have hp := hp k3
            have lp := (inferInstance : LB (predB a.fl) 1600).h
            have m2 := pnum_call (pre ++ numB a.sq) false a.ep (by simp only [List.length_append]; omega)
            have m3 := pputpred_call (pre ++ numB a.sq ++ numB a.ep) (by simp only [List.length_append]; omega) false a.fl false hp
            have m4 := pnum_call (pre ++ numB a.sq ++ numB a.ep ++ predB a.fl) false (a.mask.toNat : Int) (by simp only [List.length_append]; omega)
            have hmt := a.mask.toNat_lt
            repeat' (first | ((with_reducible refine mdraw_know mixed ?chk (pnumK (kn [(106, [.lst 1 ((pre ++ numB a.sq ++ numB a.ep).map bc) false, .lst 5 (a.fl.map ND.c) false], ⟨[], fun v => v = .lst 1 ((pre ++ numB a.sq ++ numB a.ep ++ predB a.fl).map bc) false, none⟩)])) ?_); (case chk => decide +kernel)) | (with_reducible refine know_pure pnumK_hit m2 ?_) | (with_reducible refine know_pure (pnumK_skip kn_hit rfl) m3 ?_) | (with_reducible refine know_pure pnumK_hit m4 ?_) | (with_reducible first | refine up m1 ?_) | (with_reducible first | (refine wT ?_; (first | ((fail_if_success (have := nl1)); refine wN fun nl1 hnl => ?_) | refine wN fun _ hnl => ?_); revert hnl; (repeat refine wS fun _ _ => ?_); intro hnl) | refine wD (by decide +kernel) ?_ | refine wI (fun h => ?_) fun h => ?_ | refine wF (fun h => ?_) fun h => ?_ | refine wG (fun h => ?_) fun h => ?_ | refine wH (fun h => ?_) fun h => ?_ | ((first | refine mfork_bool (fun h => ?_) fun h => ?_ | refine mgfork_bool (fun h => ?_) fun h => ?_) <;> simp only [h])) | simp (maxSteps := 4000000) (disch := first | decide | assumption | omega | (simp only [wL]; omega)) only [go_sem, simprocAttr])
            all_goals first | refine ⟨_, St.le_refl _, ?_⟩ | refine ⟨_, St.le_refl _⟩ | skip
            all_goals simp only [List.append_assoc, List.append_nil, List.nil_append]
          · rw [if_neg k3]
            repeat' (first | (with_reducible first | refine up m1 ?_) | (with_reducible first | (refine wT ?_; (first | ((fail_if_success (have := nl1)); refine wN fun nl1 hnl => ?_) | refine wN fun _ hnl => ?_); revert hnl; (repeat refine wS fun _ _ => ?_); intro hnl) | refine wD (by decide +kernel) ?_ | refine wI (fun h => ?_) fun h => ?_ | refine wF (fun h => ?_) fun h => ?_ | refine wG (fun h => ?_) fun h => ?_ | refine wH (fun h => ?_) fun h => ?_ | ((first | refine mfork_bool (fun h => ?_) fun h => ?_ | refine mgfork_bool (fun h => ?_) fun h => ?_) <;> simp only [h])) | simp (maxSteps := 4000000) (disch := first | decide | assumption | omega | (simp only [wL]; omega)) only [go_sem, simprocAttr])
            all_goals first | refine ⟨_, St.le_refl _, ?_⟩ | refine ⟨_, St.le_refl _⟩ | skip
            all_goals simp only [List.append_assoc, List.append_nil, List.nil_append]
      · rw [if_neg hc0]
        repeat' (first | (with_reducible first | refine up m1 ?_) | (with_reducible first | (refine wT ?_; (first | ((fail_if_success (have := nl1)); refine wN fun nl1 hnl => ?_) | refine wN fun _ hnl => ?_); revert hnl; (repeat refine wS fun _ _ => ?_); intro hnl) | refine wD (by decide +kernel) ?_ | refine wI (fun h => ?_) fun h => ?_ | refine wF (fun h => ?_) fun h => ?_ | refine wG (fun h => ?_) fun h => ?_ | refine wH (fun h => ?_) fun h => ?_ | ((first | refine mfork_bool (fun h => ?_) fun h => ?_ | refine mgfork_bool (fun h => ?_) fun h => ?_) <;> simp only [h])) | simp (maxSteps := 4000000) (disch := first | decide | assumption | omega | (simp only [wL]; omega)) only [go_sem, simprocAttr])
        all_goals first | refine ⟨_, St.le_refl _, ?_⟩ | refine ⟨_, St.le_refl _⟩ | skip
        all_goals simp only [List.append_assoc, List.append_nil]
    · have hi : i = 0 ∨ i = 1 ∨ i = 2 ∨ i = 3 := by omega
      rcases hi with rfl | rfl | rfl | rfl
      all_goals
        simp only [repP0, repP1, repP2, repP3, repP4, Int.reduceEq, if_true, if_false, ← List.append_assoc, List.append_nil]
        repeat' (first | (with_reducible first | refine up n1 ?_ | refine up n2 ?_ | refine up n3 ?_ | refine up n4 ?_) | (with_reducible first | (refine wT ?_; (first | ((fail_if_success (have := nl1)); refine wN fun nl1 hnl => ?_) | refine wN fun _ hnl => ?_); revert hnl; (repeat refine wS fun _ _ => ?_); intro hnl) | refine wD (by decide +kernel) ?_ | refine wI (fun h => ?_) fun h => ?_ | refine wF (fun h => ?_) fun h => ?_ | refine wG (fun h => ?_) fun h => ?_ | refine wH (fun h => ?_) fun h => ?_ | ((first | refine mfork_bool (fun h => ?_) fun h => ?_ | refine mgfork_bool (fun h => ?_) fun h => ?_) <;> simp only [h])) | simp (maxSteps := 4000000) (disch := first | decide | assumption | omega | (simp only [wL]; omega)) only [go_sem, simprocAttr])
      all_goals first
        | refine .of (.less ?_ (St.le_refl _)) ⟨1, rfl, rfl, ⟨by omega, by omega⟩, by omega⟩
        | refine .of (.less ?_ (St.le_refl _)) ⟨2, rfl, rfl, ⟨by omega, by omega⟩, by omega⟩
        | refine .of (.less ?_ (St.le_refl _)) ⟨3, rfl, rfl, ⟨by omega, by omega⟩, by omega⟩
        | refine .of (.less ?_ (St.le_refl _)) ⟨4, rfl, rfl, ⟨by omega, by omega⟩, by omega⟩
      all_goals
        simp only [repP0, repP1, repP2, repP3, repP4, Int.reduceEq, if_true, if_false, ← List.append_assoc, List.append_nil]
        simp (maxSteps := 4000000) (disch := first | decide | assumption | omega | (simp only [wL]; omega)) only [go_sem, simprocAttr, weak_int, weak_same]
end Go.Proofs.YtfbodefnblpflaaGreatDoor
end

section
/- Contract of the program's commands as bytes: the conditions that the theorems name. -/
set_option linter.unusedVariables false
set_option linter.unusedSimpArgs false
namespace Go.Proofs.YtfbodefnblpflaaGreatDoor
set_option maxRecDepth 100000
set_option maxHeartbeats 4000000
theorem pputcm_call (bs : BL) (hb : bs.length ≤ 200000) (tt : Bool) (c : CM) (hg : Rg c) (hl : c.fl.length ≤ 1000000) (hok : cmdOk c = true) : MCalls Tryz.prog 59 [.lst 1 (bs.map bc) tt, .agg c.c] St.none (fun r _ => r = .lst 1 ((bs ++ cmdB c).map bc) false) := by
  refine MCalls.drops (MCalls.body 60 [.tmp 4] Tryz.func59 rfl rfl rfl rfl ?_)
  have hc := pcmcheck_call c hg hl
  rw [hok] at hc
  have l1 := numB_len c.kd
  have l2 := numB_len c.dev
  have l3 := numB_len c.req
  have l4 := numB_len c.id
  have l5 := numB_len c.base
  have n1 := pnum_call bs tt c.kd (by omega)
  obtain ⟨hd, hhd⟩ : ∃ hd, bs ++ numB c.kd = hd := ⟨_, rfl⟩
  have hdl : hd.length ≤ 200010 := by rw [← hhd]; simp only [List.length_append]; omega
  have e1 : bs ++ cmdB c = hd ++ (if c.kd = 1 then editB c.e else if c.kd = 5 then numB c.keep else numB c.dev ++ numB c.req ++ (if c.kd = 2 then numB c.id ++ numB c.base ++ patchB c.p else []) ++ (if c.kd = 3 then predB c.fl ++ numB c.mask.toNat else [])) := by
    unfold cmdB
    rw [if_pos hok, ← hhd]
    simp only [List.append_assoc]
  rw [e1]
  rw [hhd] at n1
  clear e1 hhd
  by_cases k1 : c.kd = 1
  · rw [if_pos k1]
    have m1 := pputedit_call hd (by omega) false c.e (cmdOk_e hok k1)
    repeat' (first | (with_reducible first | refine up hc ?_ | refine up n1 ?_ | refine up m1 ?_) | (with_reducible first | (refine wT ?_; refine wN fun _ hnl => ?_; revert hnl; (repeat refine wS fun _ _ => ?_); intro hnl) | refine wD (by decide +kernel) ?_ | refine wI (fun h => ?_) fun h => ?_ | refine wF (fun h => ?_) fun h => ?_ | refine wG (fun h => ?_) fun h => ?_ | refine wH (fun h => ?_) fun h => ?_ | ((first | refine mfork_bool (fun h => ?_) fun h => ?_ | refine mgfork_bool (fun h => ?_) fun h => ?_) <;> simp only [h])) | simp (maxSteps := 4000000) (disch := first | decide | assumption | omega | (simp only [wL]; omega)) only [go_sem, simprocAttr, Tryz.f59, fc_zero, fc_len, fc_cell, fc_take, fc_take', fc_drop, fc_drop', fc_getD, drop_two, drop_three, take_two, take_three, getD_two, getD_three, fc_at, fc_at_app, fc_get0, fc_get1, fc_get2, fc_fold, F8.get_hit, fc_all, fc_assoc, List.append_nil, List.take_zero, u32z, List.cons_append, List.nil_append])
    all_goals first | refine ⟨_, St.le_refl _, ?_⟩ | refine ⟨_, St.le_refl _⟩ | (exfalso; omega)
    all_goals rfl
  · rw [if_neg k1]
    by_cases k5 : c.kd = 5
    · rw [if_pos k5]
      have m1 := pnum_call hd false c.keep (by omega)
      repeat' (first | (with_reducible first | refine up hc ?_ | refine up n1 ?_ | refine up m1 ?_) | (with_reducible first | (refine wT ?_; refine wN fun _ hnl => ?_; revert hnl; (repeat refine wS fun _ _ => ?_); intro hnl) | refine wD (by decide +kernel) ?_ | refine wI (fun h => ?_) fun h => ?_ | refine wF (fun h => ?_) fun h => ?_ | refine wG (fun h => ?_) fun h => ?_ | refine wH (fun h => ?_) fun h => ?_ | ((first | refine mfork_bool (fun h => ?_) fun h => ?_ | refine mgfork_bool (fun h => ?_) fun h => ?_) <;> simp only [h])) | simp (maxSteps := 4000000) (disch := first | decide | assumption | omega | (simp only [wL]; omega)) only [go_sem, simprocAttr, Tryz.f59, fc_zero, fc_len, fc_cell, fc_take, fc_take', fc_drop, fc_drop', fc_getD, drop_two, drop_three, take_two, take_three, getD_two, getD_three, fc_at, fc_at_app, fc_get0, fc_get1, fc_get2, fc_fold, F8.get_hit, fc_all, fc_assoc, List.append_nil, List.take_zero, u32z, List.cons_append, List.nil_append])
      all_goals first | refine ⟨_, St.le_refl _, ?_⟩ | refine ⟨_, St.le_refl _⟩ | (exfalso; omega)
      all_goals rfl
    · rw [if_neg k5]
      have hr := cmdOk_rng hok k1 k5
      have m1 := pnum_call hd false c.dev (by omega)
      have m2 := pnum_call (hd ++ numB c.dev) false c.req (by simp only [List.length_append]; omega)
      obtain ⟨h2, hh2⟩ : ∃ h, hd ++ numB c.dev ++ numB c.req = h := ⟨_, rfl⟩
      have h2l : h2.length ≤ 200030 := by rw [← hh2]; simp only [List.length_append]; omega
      have e2 : hd ++ (numB c.dev ++ numB c.req ++ (if c.kd = 2 then numB c.id ++ numB c.base ++ patchB c.p else []) ++ (if c.kd = 3 then predB c.fl ++ numB c.mask.toNat else [])) = h2 ++ (if c.kd = 2 then numB c.id ++ numB c.base ++ patchB c.p else []) ++ (if c.kd = 3 then predB c.fl ++ numB c.mask.toNat else []) := by
        rw [← hh2]; simp only [List.append_assoc]
      rw [e2]
      rw [hh2] at m2
      have hmt := c.mask.toNat_lt
      obtain ⟨C, hN, hN2, hF, hP⟩ : ∃ C : Know, (∀ (bs : BL) t n, C 21 [.lst 1 (bs.map bc) t, .int .i64 n] = some ⟨[], fun v => v = .lst 1 ((bs ++ numB n).map bc) false, none⟩) ∧ C 21 [.lst 1 ((hd ++ numB c.dev).map bc) false, .int .i64 c.req] = some ⟨[], fun v => v = .lst 1 (h2.map bc) false, none⟩
          ∧ C 106 [.lst 1 (h2.map bc) false, .lst 5 (c.fl.map ND.c) false] = some ⟨[], fun w => w = .lst 1 ((h2 ++ predB c.fl).map bc) false, none⟩ ∧ C 105 [.lst 1 ((h2 ++ numB c.id ++ numB c.base).map bc) false, .agg c.p.c] = some ⟨[], fun w => w = .lst 1 ((h2 ++ numB c.id ++ numB c.base ++ patchB c.p).map bc) false, none⟩ :=
        ⟨pnumK (kn [(106, [.lst 1 (h2.map bc) false, .lst 5 (c.fl.map ND.c) false], ⟨[], fun w => w = .lst 1 ((h2 ++ predB c.fl).map bc) false, none⟩), (105, [.lst 1 ((h2 ++ numB c.id ++ numB c.base).map bc) false, .agg c.p.c], ⟨[], fun w => w = .lst 1 ((h2 ++ numB c.id ++ numB c.base ++ patchB c.p).map bc) false, none⟩)]), fun _ _ _ => pnumK_hit, by rw [← hh2]; exact pnumK_hit, pnumK_skip kn_hit rfl, pnumK_skip (kn_skip (fun h => absurd h.1 (by decide)) kn_hit) rfl⟩
      clear e2 hh2
      by_cases k2 : c.kd = 2
      · rw [if_pos k2, if_neg (by omega)]
        have m3 := pnum_call h2 false c.id (by omega)
        have m4 := pnum_call (h2 ++ numB c.id) false c.base (by simp only [List.length_append]; omega)
        have m5 := pputpatch_call (h2 ++ numB c.id ++ numB c.base) (by simp only [List.length_append]; omega) false c.p (cmdOk_p hok k2)
        repeat' (first | ((with_reducible refine mdraw_know mixed ?chk C ?_); (case chk => decide +kernel)) | (with_reducible refine know_pure (hN _ _ _) m1 ?_) | (with_reducible refine know_pure hN2 m2 ?_) | (with_reducible refine know_pure (hN _ _ _) m3 ?_) | (with_reducible refine know_pure (hN _ _ _) m4 ?_) | (with_reducible refine know_pure hP m5 ?_) | (with_reducible first | refine up hc ?_ | refine up n1 ?_) | (with_reducible first | (refine wT ?_; refine wN fun _ hnl => ?_; revert hnl; (repeat refine wS fun _ _ => ?_); intro hnl) | refine wD (by decide +kernel) ?_ | refine wI (fun h => ?_) fun h => ?_ | refine wF (fun h => ?_) fun h => ?_ | refine wG (fun h => ?_) fun h => ?_ | refine wH (fun h => ?_) fun h => ?_ | ((first | refine mfork_bool (fun h => ?_) fun h => ?_ | refine mgfork_bool (fun h => ?_) fun h => ?_) <;> simp only [h])) | simp (maxSteps := 4000000) (disch := first | decide | assumption | omega | (simp only [wL]; omega)) only [go_sem, simprocAttr, Tryz.f59, fc_zero, fc_len, fc_cell, fc_take, fc_take', fc_drop, fc_drop', fc_getD, drop_two, drop_three, take_two, take_three, getD_two, getD_three, fc_at, fc_at_app, fc_get0, fc_get1, fc_get2, fc_fold, F8.get_hit, fc_all, fc_assoc, List.append_nil, List.take_zero, u32z, List.cons_append, List.nil_append])
        all_goals first | refine ⟨_, St.le_refl _, ?_⟩ | refine ⟨_, St.le_refl _⟩ | (exfalso; omega)
        all_goals simp only [List.append_assoc, List.append_nil]
      · rw [if_neg k2]
        by_cases k3 : c.kd = 3
        · rw [if_pos k3]
          have lp := (inferInstance : LB (predB c.fl) 1600).h
          have m3 := pputpred_call h2 (by omega) false c.fl false (cmdOk_f hok k3)
          have m4 := pnum_call (h2 ++ predB c.fl) false (c.mask.toNat : Int) (by simp only [List.length_append]; omega)
          repeat' (first | ((with_reducible refine mdraw_know mixed ?chk C ?_); (case chk => decide +kernel)) | (with_reducible refine know_pure (hN _ _ _) m1 ?_) | (with_reducible refine know_pure hN2 m2 ?_) | (with_reducible refine know_pure hF m3 ?_) | (with_reducible refine know_pure (hN _ _ _) m4 ?_) | (with_reducible first | refine up hc ?_ | refine up n1 ?_) | (with_reducible first | (refine wT ?_; refine wN fun _ hnl => ?_; revert hnl; (repeat refine wS fun _ _ => ?_); intro hnl) | refine wD (by decide +kernel) ?_ | refine wI (fun h => ?_) fun h => ?_ | refine wF (fun h => ?_) fun h => ?_ | refine wG (fun h => ?_) fun h => ?_ | refine wH (fun h => ?_) fun h => ?_ | ((first | refine mfork_bool (fun h => ?_) fun h => ?_ | refine mgfork_bool (fun h => ?_) fun h => ?_) <;> simp only [h])) | simp (maxSteps := 4000000) (disch := first | decide | assumption | omega | (simp only [wL]; omega)) only [go_sem, simprocAttr, Tryz.f59, fc_zero, fc_len, fc_cell, fc_take, fc_take', fc_drop, fc_drop', fc_getD, drop_two, drop_three, take_two, take_three, getD_two, getD_three, fc_at, fc_at_app, fc_get0, fc_get1, fc_get2, fc_fold, F8.get_hit, fc_all, fc_assoc, List.append_nil, List.take_zero, u32z, List.cons_append, List.nil_append])
          all_goals first | refine ⟨_, St.le_refl _, ?_⟩ | refine ⟨_, St.le_refl _⟩ | (exfalso; omega)
          all_goals simp only [List.append_assoc, List.append_nil]
        · rw [if_neg k3]
          repeat' (first | ((with_reducible refine mdraw_know mixed ?chk C ?_); (case chk => decide +kernel)) | (with_reducible refine know_pure (hN _ _ _) m1 ?_) | (with_reducible refine know_pure hN2 m2 ?_) | (with_reducible first | refine up hc ?_ | refine up n1 ?_) | (with_reducible first | (refine wT ?_; refine wN fun _ hnl => ?_; revert hnl; (repeat refine wS fun _ _ => ?_); intro hnl) | refine wD (by decide +kernel) ?_ | refine wI (fun h => ?_) fun h => ?_ | refine wF (fun h => ?_) fun h => ?_ | refine wG (fun h => ?_) fun h => ?_ | refine wH (fun h => ?_) fun h => ?_ | ((first | refine mfork_bool (fun h => ?_) fun h => ?_ | refine mgfork_bool (fun h => ?_) fun h => ?_) <;> simp only [h])) | simp (maxSteps := 4000000) (disch := first | decide | assumption | omega | (simp only [wL]; omega)) only [go_sem, simprocAttr, Tryz.f59, fc_zero, fc_len, fc_cell, fc_take, fc_take', fc_drop, fc_drop', fc_getD, drop_two, drop_three, take_two, take_three, getD_two, getD_three, fc_at, fc_at_app, fc_get0, fc_get1, fc_get2, fc_fold, F8.get_hit, fc_all, fc_assoc, List.append_nil, List.take_zero, u32z, List.cons_append, List.nil_append])
          all_goals first | refine ⟨_, St.le_refl _, ?_⟩ | refine ⟨_, St.le_refl _⟩ | (exfalso; omega)
          all_goals simp only [List.append_assoc, List.append_nil]
end Go.Proofs.YtfbodefnblpflaaGreatDoor
end

section
/- Contracts of the program's tokens: the conditions that the theorems name. -/
set_option linter.unusedVariables false
set_option linter.unusedSimpArgs false
namespace Go.Proofs.YtfbodefnblpflaaGreatDoor
set_option maxRecDepth 100000
set_option maxHeartbeats 4000000
abbrev topC : List MV := [.int .i64 5, .int .i64 1099511627776, .int .i64 1099511627776, .int .i64 1073741824]
theorem ptmost_call : MCalls Tryz.prog 115 [] St.none (fun r _ => r = .agg topC) := by
  refine MCalls.drops (MCalls.body 2 [.cell 0 151] Tryz.func115 rfl rfl rfl rfl ?_)
  repeat' (first | (with_reducible first | (refine wT ?_; refine wN fun _ hnl => ?_; revert hnl; (repeat refine wS fun _ _ => ?_); intro hnl) | refine wD (by decide +kernel) ?_ | refine wI (fun h => ?_) fun h => ?_ | refine wF (fun h => ?_) fun h => ?_ | refine wG (fun h => ?_) fun h => ?_ | refine wH (fun h => ?_) fun h => ?_ | ((first | refine mfork_bool (fun h => ?_) fun h => ?_ | refine mgfork_bool (fun h => ?_) fun h => ?_) <;> simp only [h])) | simp (maxSteps := 4000000) (disch := first | decide | assumption | omega | (simp only [wL]; omega)) only [go_sem, simprocAttr, Tryz.f115])
  all_goals first | exact ⟨_, St.le_refl _, rfl⟩ | exact ⟨_, St.le_refl _⟩
theorem ptparts_call (t : TO) : MCalls Tryz.prog 114 [.agg t.c] St.none (fun r _ => r = .agg t.c) := by
  refine MCalls.drops (MCalls.body 12 [.cell 2 151] Tryz.func114 rfl rfl rfl rfl ?_)
  repeat' (first | (with_reducible first | (refine wT ?_; refine wN fun _ hnl => ?_; revert hnl; (repeat refine wS fun _ _ => ?_); intro hnl) | refine wD (by decide +kernel) ?_ | refine wI (fun h => ?_) fun h => ?_ | refine wF (fun h => ?_) fun h => ?_ | refine wG (fun h => ?_) fun h => ?_ | refine wH (fun h => ?_) fun h => ?_ | ((first | refine mfork_bool (fun h => ?_) fun h => ?_ | refine mgfork_bool (fun h => ?_) fun h => ?_) <;> simp only [h])) | simp (maxSteps := 4000000) (disch := first | decide | assumption | omega | (simp only [wL]; omega)) only [go_sem, simprocAttr, Tryz.f114])
  all_goals first | exact ⟨_, St.le_refl _, rfl⟩ | exact ⟨_, St.le_refl _⟩
theorem tokOk_no {t : TO} (h : ¬ (0 ≤ t.dev ∧ t.dev ≤ 5 ∧ 0 ≤ t.ep ∧ t.ep ≤ 1099511627776 ∧ 0 ≤ t.sq ∧ t.sq ≤ 1099511627776 ∧ 0 ≤ t.cu ∧ t.cu ≤ 1073741824)) : tokOk t = false := by
  unfold tokOk big idMax
  refine decide_eq_false fun h2 => h ?_
  omega
theorem ptcheck_call (t : TO) : MCalls Tryz.prog 61 [.agg t.c] St.none (fun r _ => r = .bool (tokOk t)) := by
  refine MCalls.drops (MCalls.body 29 [.tmp 2] Tryz.func61 rfl rfl rfl rfl ?_)
  have hp := ptparts_call t
  have hm := ptmost_call
  repeat' (first | (with_reducible first | refine up hp ?_ | refine up hm ?_) | (with_reducible first | (refine wT ?_; (first | ((fail_if_success (have := nl1)); refine wN fun nl1 hnl => ?_) | ((fail_if_success (have := nl2)); refine wN fun nl2 hnl => ?_) | ((fail_if_success (have := nl3)); refine wN fun nl3 hnl => ?_) | refine wN fun _ hnl => ?_); revert hnl; (repeat refine wS fun _ _ => ?_); intro hnl) | refine wD (by decide +kernel) ?_ | refine wI (fun h => ?_) fun h => ?_ | refine wF (fun h => ?_) fun h => ?_ | refine wG (fun h => ?_) fun h => ?_ | refine wH (fun h => ?_) fun h => ?_ | ((first | refine mfork_bool (fun h => ?_) fun h => ?_ | refine mgfork_bool (fun h => ?_) fun h => ?_) <;> simp only [h])) | simp (maxSteps := 4000000) (disch := first | decide | assumption | omega | (simp only [wL]; omega)) only [go_sem, simprocAttr, Tryz.f61])
  have d1 : nl2 ≠ nl1 := by assumption
  have d2 : nl3 ≠ nl1 := by assumption
  have d3 : nl3 ≠ nl2 := by assumption
  refine mloop_intro (α := Int) (fun i => ⟨29, [(9, .int .i64 i), (4, .ptr nl3 0 0), (3, .ptr nl2 0 0), (1, .ptr nl1 0 0)], []⟩)
    (fun _ => ((St.none.set nl1 (.row 34 4 [t.c])).set nl2 (.row 151 4 [t.c])).set nl3 (.row 151 4 [topC])) (fun i => 0 ≤ i ∧ i ≤ 4 ∧ (0 < i → 0 ≤ t.dev ∧ t.dev ≤ 5) ∧ (1 < i → 0 ≤ t.ep ∧ t.ep ≤ 1099511627776) ∧ (2 < i → 0 ≤ t.sq ∧ t.sq ≤ 1099511627776) ∧ (3 < i → 0 ≤ t.cu ∧ t.cu ≤ 1073741824)) (fun i => (4 - i).toNat) ?_ ?_
  · refine .of (.less ?_ (St.le_refl _)) ⟨0, rfl, rfl, by omega, by omega, by omega, by omega, by omega, by omega⟩
    simp (maxSteps := 4000000) (disch := first | decide | assumption | omega | (simp only [wL]; omega)) only [go_sem, simprocAttr, weak_int, weak_same]
  · rintro i ⟨h0, h4, q0, q1, q2, q3⟩
    have hi : i = 0 ∨ i = 1 ∨ i = 2 ∨ i = 3 ∨ i = 4 := by omega
    rcases hi with rfl | rfl | rfl | rfl | rfl
    case' inr.inr.inr.inr =>
      obtain ⟨a0, a1⟩ := q0 (by decide)
      obtain ⟨b0, b1⟩ := q1 (by decide)
      obtain ⟨c0, c1⟩ := q2 (by decide)
      obtain ⟨e0, e1⟩ := q3 (by decide)
    all_goals
      repeat' (first | (with_reducible first | (refine wT ?_; (first | ((fail_if_success (have := nl1)); refine wN fun nl1 hnl => ?_) | ((fail_if_success (have := nl2)); refine wN fun nl2 hnl => ?_) | ((fail_if_success (have := nl3)); refine wN fun nl3 hnl => ?_) | refine wN fun _ hnl => ?_); revert hnl; (repeat refine wS fun _ _ => ?_); intro hnl) | refine wD (by decide +kernel) ?_ | refine wI (fun h => ?_) fun h => ?_ | refine wF (fun h => ?_) fun h => ?_ | refine wG (fun h => ?_) fun h => ?_ | refine wH (fun h => ?_) fun h => ?_ | ((first | refine mfork_bool (fun h => ?_) fun h => ?_ | refine mgfork_bool (fun h => ?_) fun h => ?_) <;> simp only [h])) | simp (maxSteps := 4000000) (disch := first | decide | assumption | omega | (simp only [wL]; omega)) only [go_sem, simprocAttr])
      all_goals first | refine ⟨_, St.le_refl _, ?_⟩ | refine ⟨_, St.le_refl _⟩ | skip
    case' inr.inr.inr.inr =>
      unfold tokOk big idMax
      exact decide_eq_decide.2 (by omega)
    all_goals first
      | exact (tokOk_no (by omega)).symm
      | refine .of (.less ?_ (St.le_refl _)) ⟨1, rfl, rfl, ⟨by omega, by omega, by omega, by omega, by omega, by omega⟩, by omega⟩
      | refine .of (.less ?_ (St.le_refl _)) ⟨2, rfl, rfl, ⟨by omega, by omega, by omega, by omega, by omega, by omega⟩, by omega⟩
      | refine .of (.less ?_ (St.le_refl _)) ⟨3, rfl, rfl, ⟨by omega, by omega, by omega, by omega, by omega, by omega⟩, by omega⟩
      | refine .of (.less ?_ (St.le_refl _)) ⟨4, rfl, rfl, ⟨by omega, by omega, by omega, by omega, by omega, by omega⟩, by omega⟩
    all_goals
      simp (maxSteps := 4000000) (disch := first | decide | assumption | omega | (simp only [wL]; omega)) only [go_sem, simprocAttr, weak_int, weak_same]
theorem ptgoes_call (a b : TO) : MCalls Tryz.prog 120 [.agg a.c, .agg b.c] St.none (fun r _ => r = .bool (tokGo a b)) := by
  refine MCalls.drops (MCalls.body 39 [.tmp 4] Tryz.func120 rfl rfl rfl rfl ?_)
  have h1 := ptcheck_call a
  have h2 := ptcheck_call b
  obtain ⟨res, hres⟩ : ∃ r, tokGo a b = r := ⟨_, rfl⟩
  have e : Unit → tokGo a b = res := fun _ => hres
  rw [hres]
  clear hres
  unfold tokGo at e
  cases hb1 : tokOk a <;> cases hb2 : tokOk b
  all_goals
    rw [hb1] at h1 e
    rw [hb2] at h2 e
    repeat' (first | (with_reducible first | refine up h1 ?_ | refine up h2 ?_) | (with_reducible first | (refine wT ?_; refine wN fun _ hnl => ?_; revert hnl; (repeat refine wS fun _ _ => ?_); intro hnl) | refine wD (by decide +kernel) ?_ | refine wI (fun h => ?_) fun h => ?_ | refine wF (fun h => ?_) fun h => ?_ | refine wG (fun h => ?_) fun h => ?_ | refine wH (fun h => ?_) fun h => ?_ | ((first | refine mfork_bool (fun h => ?_) fun h => ?_ | refine mgfork_bool (fun h => ?_) fun h => ?_) <;> simp only [h])) | simp (maxSteps := 4000000) (disch := first | decide | assumption | omega | (simp only [wL]; omega)) only [go_sem, simprocAttr, Tryz.f120])
  all_goals first | refine ⟨_, St.le_refl _, ?_⟩ | refine ⟨_, St.le_refl _⟩ | skip
  all_goals rw [← e ()]
  all_goals clear e
  all_goals (first | (simp [*]; done) | (simp; omega) | skip)
/-- The bytes of a token's first parts. -/
def tokP (t : TO) (i : Int) : BL := (if 0 < i then numB t.dev else []) ++ (if 1 < i then numB t.ep else []) ++ (if 2 < i then numB t.sq else []) ++ (if 3 < i then numB t.cu else [])
theorem tokP0 (t : TO) : tokP t 0 = [] := by simp [tokP]
theorem tokP1 (t : TO) : tokP t 1 = numB t.dev := by simp [tokP]
theorem tokP2 (t : TO) : tokP t 2 = numB t.dev ++ numB t.ep := by simp [tokP]
theorem tokP3 (t : TO) : tokP t 3 = numB t.dev ++ numB t.ep ++ numB t.sq := by simp [tokP]
theorem tokP4 (t : TO) : tokP t 4 = numB t.dev ++ numB t.ep ++ numB t.sq ++ numB t.cu := by simp [tokP]
theorem pputtok_call (bs : BL) (hb : bs.length ≤ 400000) (tt : Bool) (t : TO) (hok : tokOk t = true) : MCalls Tryz.prog 62 [.lst 1 (bs.map bc) tt, .agg t.c] St.none (fun r _ => r = .lst 1 ((bs ++ tokB t).map bc) false) := by
  refine MCalls.drops (MCalls.body 22 [.tmp 4] Tryz.func62 rfl rfl rfl rfl ?_)
  have hc := ptcheck_call t
  rw [hok] at hc
  have hp := ptparts_call t
  have l1 := numB_len t.dev
  have l2 := numB_len t.ep
  have l3 := numB_len t.sq
  have n1 := pnum_call bs tt t.dev (by omega)
  have n2 := pnum_call (bs ++ numB t.dev) false t.ep (by simp only [List.length_append]; omega)
  have n3 := pnum_call (bs ++ numB t.dev ++ numB t.ep) false t.sq (by simp only [List.length_append]; omega)
  have n4 := pnum_call (bs ++ numB t.dev ++ numB t.ep ++ numB t.sq) false t.cu (by simp only [List.length_append]; omega)
  unfold tokB
  rw [if_pos hok]
  repeat' (first | (with_reducible first | refine up hc ?_ | refine up hp ?_) | (with_reducible first | (refine wT ?_; refine wN fun _ hnl => ?_; revert hnl; (repeat refine wS fun _ _ => ?_); intro hnl) | refine wD (by decide +kernel) ?_ | refine wI (fun h => ?_) fun h => ?_ | refine wF (fun h => ?_) fun h => ?_ | refine wG (fun h => ?_) fun h => ?_ | refine wH (fun h => ?_) fun h => ?_ | ((first | refine mfork_bool (fun h => ?_) fun h => ?_ | refine mgfork_bool (fun h => ?_) fun h => ?_) <;> simp only [h])) | simp (maxSteps := 4000000) (disch := first | decide | assumption | omega | (simp only [wL]; omega)) only [go_sem, simprocAttr, Tryz.f62])
  refine mloop_intro (α := Int) (fun i => ⟨22, [(14, .int .i64 i), (13, .agg t.c), (0, .lst 1 ((bs ++ tokP t i).map bc) (if i = 0 then tt else false))], []⟩)
    (fun _ => St.none) (fun i => 0 ≤ i ∧ i ≤ 4) (fun i => (4 - i).toNat) (.of (.less ?_ (St.none_le _)) ⟨0, rfl, rfl, by omega, by omega⟩) ?_
  · rw [tokP0, List.append_nil]
    simp (maxSteps := 4000000) (disch := first | decide | assumption | omega | (simp only [wL]; omega)) only [go_sem, simprocAttr, weak_int, weak_same]
  · rintro i ⟨h0, h4⟩
    have hi : i = 0 ∨ i = 1 ∨ i = 2 ∨ i = 3 ∨ i = 4 := by omega
    rcases hi with rfl | rfl | rfl | rfl | rfl
    all_goals
      simp only [tokP0, tokP1, tokP2, tokP3, tokP4, Int.reduceEq, if_true, if_false, ← List.append_assoc, List.append_nil]
      repeat' (first | (with_reducible first | refine up n1 ?_ | refine up n2 ?_ | refine up n3 ?_ | refine up n4 ?_) | (with_reducible first | (refine wT ?_; refine wN fun _ hnl => ?_; revert hnl; (repeat refine wS fun _ _ => ?_); intro hnl) | refine wD (by decide +kernel) ?_ | refine wI (fun h => ?_) fun h => ?_ | refine wF (fun h => ?_) fun h => ?_ | refine wG (fun h => ?_) fun h => ?_ | refine wH (fun h => ?_) fun h => ?_ | ((first | refine mfork_bool (fun h => ?_) fun h => ?_ | refine mgfork_bool (fun h => ?_) fun h => ?_) <;> simp only [h])) | simp (maxSteps := 4000000) (disch := first | decide | assumption | omega | (simp only [wL]; omega)) only [go_sem, simprocAttr])
    case' inr.inr.inr.inr => first | exact ⟨_, St.le_refl _, rfl⟩ | exact ⟨_, St.le_refl _⟩
    all_goals first
      | refine .of (.less ?_ (St.none_le _)) ⟨1, rfl, rfl, ⟨by omega, by omega⟩, by omega⟩
      | refine .of (.less ?_ (St.none_le _)) ⟨2, rfl, rfl, ⟨by omega, by omega⟩, by omega⟩
      | refine .of (.less ?_ (St.none_le _)) ⟨3, rfl, rfl, ⟨by omega, by omega⟩, by omega⟩
      | refine .of (.less ?_ (St.none_le _)) ⟨4, rfl, rfl, ⟨by omega, by omega⟩, by omega⟩
    all_goals
      simp only [tokP0, tokP1, tokP2, tokP3, tokP4, Int.reduceEq, if_true, if_false, ← List.append_assoc, List.append_nil]
      simp (maxSteps := 4000000) (disch := first | decide | assumption | omega | (simp only [wL]; omega)) only [go_sem, simprocAttr, weak_int, weak_same]
end Go.Proofs.YtfbodefnblpflaaGreatDoor
end

section
/- Contracts of the document's checks and bytes of cards and patches: the conditions that the theorems name. -/
set_option linter.unusedVariables false
set_option linter.unusedSimpArgs false
namespace Go.Proofs.YtfbodefnblpflaaGreatDoor
set_option maxRecDepth 100000
theorem rccheck_call (c : CA) : MCalls Tryz.prog 132 [.agg c.c] St.none (fun r _ => r = .bool (cardOk c)) := by
  refine MCalls.drops (MCalls.body 37 [.tmp 2] Tryz.func132 rfl rfl rfl rfl ?_)
  have hlt := c.lab.toNat_lt
  by_cases h : 1 ≤ c.id ∧ c.id < idMax ∧ 1 ≤ c.ver ∧ c.ver ≤ big ∧ c.lab.toNat < 65536
  · have e : cardOk c = c.f.l.all vaOk := by unfold cardOk; rw [decide_eq_true h, Bool.true_and]
    rw [e]
    obtain ⟨h1, h2, h3, h4, h5⟩ := h
    unfold idMax at h2
    unfold big at h4
    repeat' (first | (with_reducible first | (refine wT ?_; (first | ((fail_if_success (have := nl1)); refine wN fun nl1 hnl => ?_) | refine wN fun _ hnl => ?_); revert hnl; (repeat refine wS fun _ _ => ?_); intro hnl) | refine wD (by decide +kernel) ?_ | refine wI (fun h => ?_) fun h => ?_ | refine wF (fun h => ?_) fun h => ?_ | refine wG (fun h => ?_) fun h => ?_ | refine wH (fun h => ?_) fun h => ?_ | ((first | refine mfork_bool (fun h => ?_) fun h => ?_ | refine mgfork_bool (fun h => ?_) fun h => ?_) <;> simp only [h])) | simp (maxSteps := 4000000) (disch := first | decide | assumption | omega | (simp only [wL]; omega)) only [go_sem, simprocAttr, Tryz.f132, fc_len, fc_cell])
    refine mloop_intro (α := Nat) (fun i => ⟨37, [(3, .int .i64 (i : Int)), (1, .ptr nl1 0 0)], []⟩) (fun _ => St.none.set nl1 (.row 117 27 [c.c])) (fun i => i ≤ 8 ∧ ∀ j, j < i → vaOk (c.f.get j) = true) (fun i => 8 - i) (.of (.less ?_ (St.le_refl _)) ⟨0, rfl, rfl, Nat.zero_le _, fun j h => absurd h (Nat.not_lt_zero _)⟩) ?_
    · simp (maxSteps := 4000000) (disch := first | decide | assumption | omega | (simp only [wL]; omega)) only [go_sem, simprocAttr, weak_int, weak_same]
      all_goals rfl
    · rintro i ⟨hi, hq⟩
      by_cases h8 : i < 8
      · have hc := rvcheck_call (c.f.get i).kd (c.f.get i).n (c.f.get i).s
        cases hok : vaOk (c.f.get i)
        · rw [hok] at hc
          repeat' (first | (with_reducible first | refine up hc ?_) | (with_reducible first | (refine wT ?_; (first | ((fail_if_success (have := nl1)); refine wN fun nl1 hnl => ?_) | refine wN fun _ hnl => ?_); revert hnl; (repeat refine wS fun _ _ => ?_); intro hnl) | refine wD (by decide +kernel) ?_ | refine wI (fun h => ?_) fun h => ?_ | refine wF (fun h => ?_) fun h => ?_ | refine wG (fun h => ?_) fun h => ?_ | refine wH (fun h => ?_) fun h => ?_ | ((first | refine mfork_bool (fun h => ?_) fun h => ?_ | refine mgfork_bool (fun h => ?_) fun h => ?_) <;> simp only [h])) | simp (maxSteps := 4000000) (disch := first | decide | assumption | omega | (simp only [wL]; omega)) only [go_sem, simprocAttr, fc_len, fc_cell, drop_three, fc_at])
          have e : c.f.l.all vaOk = false := by
            cases hb : c.f.l.all vaOk
            · rfl
            · have := (F8.all_iff c.f vaOk).1 hb i h8
              rw [hok] at this; cases this
          rw [e]
          first | exact ⟨_, St.le_refl _, rfl⟩ | exact ⟨_, St.le_refl _⟩
        · rw [hok] at hc
          repeat' (first | (with_reducible first | refine up hc ?_) | (with_reducible first | (refine wT ?_; (first | ((fail_if_success (have := nl1)); refine wN fun nl1 hnl => ?_) | refine wN fun _ hnl => ?_); revert hnl; (repeat refine wS fun _ _ => ?_); intro hnl) | refine wD (by decide +kernel) ?_ | refine wI (fun h => ?_) fun h => ?_ | refine wF (fun h => ?_) fun h => ?_ | refine wG (fun h => ?_) fun h => ?_ | refine wH (fun h => ?_) fun h => ?_ | ((first | refine mfork_bool (fun h => ?_) fun h => ?_ | refine mgfork_bool (fun h => ?_) fun h => ?_) <;> simp only [h])) | simp (maxSteps := 4000000) (disch := first | decide | assumption | omega | (simp only [wL]; omega)) only [go_sem, simprocAttr, fc_len, fc_cell, drop_three, fc_at])
          refine .of (.less ?_ (St.le_refl _)) ⟨i + 1, rfl, rfl, ⟨by omega, fun j hj => ?_⟩, by omega⟩
          · simp (maxSteps := 4000000) (disch := first | decide | assumption | omega | (simp only [wL]; omega)) only [go_sem, simprocAttr, weak_int, weak_same]
            all_goals rfl
          · by_cases hji : j = i
            · rw [hji]; exact hok
            · exact hq j (by omega)
      · have : i = 8 := by omega
        subst this
        rw [(F8.all_iff c.f vaOk).2 hq]
        repeat' (first | (with_reducible first | (refine wT ?_; (first | ((fail_if_success (have := nl1)); refine wN fun nl1 hnl => ?_) | refine wN fun _ hnl => ?_); revert hnl; (repeat refine wS fun _ _ => ?_); intro hnl) | refine wD (by decide +kernel) ?_ | refine wI (fun h => ?_) fun h => ?_ | refine wF (fun h => ?_) fun h => ?_ | refine wG (fun h => ?_) fun h => ?_ | refine wH (fun h => ?_) fun h => ?_ | ((first | refine mfork_bool (fun h => ?_) fun h => ?_ | refine mgfork_bool (fun h => ?_) fun h => ?_) <;> simp only [h])) | simp (maxSteps := 4000000) (disch := first | decide | assumption | omega | (simp only [wL]; omega)) only [go_sem, simprocAttr])
        first | exact ⟨_, St.le_refl _, rfl⟩ | exact ⟨_, St.le_refl _⟩
  · have e : cardOk c = false := by unfold cardOk; rw [decide_eq_false h, Bool.false_and]
    rw [e]
    unfold idMax big at h
    repeat' (first | (with_reducible first | (refine wT ?_; (first | ((fail_if_success (have := nl1)); refine wN fun nl1 hnl => ?_) | refine wN fun _ hnl => ?_); revert hnl; (repeat refine wS fun _ _ => ?_); intro hnl) | refine wD (by decide +kernel) ?_ | refine wI (fun h => ?_) fun h => ?_ | refine wF (fun h => ?_) fun h => ?_ | refine wG (fun h => ?_) fun h => ?_ | refine wH (fun h => ?_) fun h => ?_ | ((first | refine mfork_bool (fun h => ?_) fun h => ?_ | refine mgfork_bool (fun h => ?_) fun h => ?_) <;> simp only [h])) | simp (maxSteps := 4000000) (disch := first | decide | assumption | omega | (simp only [wL]; omega)) only [go_sem, simprocAttr, Tryz.f132, fc_len, fc_cell])
    all_goals first | exact ⟨_, St.le_refl _, rfl⟩ | exact ⟨_, St.le_refl _⟩ | (exfalso; omega)
set_option maxHeartbeats 4000000 in
theorem rcpatch_call (p : PA) : MCalls Tryz.prog 80 [.agg p.c] St.none (fun r _ => r = .int .i64 (patchErr p)) := by
  refine MCalls.drops (MCalls.body 52 [.tmp 2] Tryz.func80 rfl rfl rfl rfl ?_)
  have hm := rmcheck_call p.mask
  have hl := rmlab_call p.mask
  have hmt := p.mask.toNat_lt
  have hlt := p.lab.toNat_lt
  by_cases h0 : p.mask.toNat = 0 ∨ 511 < p.mask.toNat
  · have e : patchErr p = 11 := by unfold patchErr; rw [if_pos h0]
    rw [e]
    repeat' (first | (with_reducible first | refine up hm ?_ | refine up hl ?_) | (with_reducible first | (refine wT ?_; (first | ((fail_if_success (have := nl1)); refine wN fun nl1 hnl => ?_) | refine wN fun _ hnl => ?_); revert hnl; (repeat refine wS fun _ _ => ?_); intro hnl) | refine wD (by decide +kernel) ?_ | refine wI (fun h => ?_) fun h => ?_ | refine wF (fun h => ?_) fun h => ?_ | refine wG (fun h => ?_) fun h => ?_ | refine wH (fun h => ?_) fun h => ?_ | ((first | refine mfork_bool (fun h => ?_) fun h => ?_ | refine mgfork_bool (fun h => ?_) fun h => ?_) <;> simp only [h])) | simp (maxSteps := 4000000) (disch := first | decide | assumption | omega | (simp only [wL]; omega)) only [go_sem, simprocAttr, Tryz.f80, fc_len, fc_cell])
    all_goals first | exact ⟨_, St.le_refl _, rfl⟩ | exact ⟨_, St.le_refl _⟩ | (exfalso; omega)
  · by_cases h1 : 65536 ≤ p.lab.toNat ∨ p.lab.toNat ≠ 0 ∧ bit p.mask.toNat 8 = false
    · have e : patchErr p = 1 := by unfold patchErr; rw [if_neg h0, if_pos h1]
      rw [e]
      generalize bit p.mask.toNat 8 = b8 at hl h1
      cases b8
      all_goals
        repeat' (first | (with_reducible first | refine up hm ?_ | refine up hl ?_) | (with_reducible first | (refine wT ?_; (first | ((fail_if_success (have := nl1)); refine wN fun nl1 hnl => ?_) | refine wN fun _ hnl => ?_); revert hnl; (repeat refine wS fun _ _ => ?_); intro hnl) | refine wD (by decide +kernel) ?_ | refine wI (fun h => ?_) fun h => ?_ | refine wF (fun h => ?_) fun h => ?_ | refine wG (fun h => ?_) fun h => ?_ | refine wH (fun h => ?_) fun h => ?_ | ((first | refine mfork_bool (fun h => ?_) fun h => ?_ | refine mgfork_bool (fun h => ?_) fun h => ?_) <;> simp only [h])) | simp (maxSteps := 4000000) (disch := first | decide | assumption | omega | (simp only [wL]; omega)) only [go_sem, simprocAttr, Tryz.f80, fc_len, fc_cell])
        all_goals first | exact ⟨_, St.le_refl _, rfl⟩ | exact ⟨_, St.le_refl _⟩ | (exfalso; simp only [reduceCtorEq, and_false, or_false, and_true] at h1; omega)
    · have hbad := fun i => patchErr_bad (i := i) h0 h1
      have hgood := patchErr_good h0 h1
      have h1' : p.lab.toNat < 65536 := by omega
      have h1'' : p.lab.toNat = 0 ∨ bit p.mask.toNat 8 = true := by
        cases hb : bit p.mask.toNat 8
        · rw [hb] at h1; left; simp at h1; omega
        · right; rfl
      clear h1
      generalize bit p.mask.toNat 8 = b8 at hl h1''
      cases b8
      all_goals
        repeat' (first | (with_reducible first | refine up hm ?_ | refine up hl ?_) | (with_reducible first | (refine wT ?_; (first | ((fail_if_success (have := nl1)); refine wN fun nl1 hnl => ?_) | refine wN fun _ hnl => ?_); revert hnl; (repeat refine wS fun _ _ => ?_); intro hnl) | refine wD (by decide +kernel) ?_ | refine wI (fun h => ?_) fun h => ?_ | refine wF (fun h => ?_) fun h => ?_ | refine wG (fun h => ?_) fun h => ?_ | refine wH (fun h => ?_) fun h => ?_ | ((first | refine mfork_bool (fun h => ?_) fun h => ?_ | refine mgfork_bool (fun h => ?_) fun h => ?_) <;> simp only [h])) | simp (maxSteps := 4000000) (disch := first | decide | assumption | omega | (simp only [wL]; omega)) only [go_sem, simprocAttr, Tryz.f80, fc_len, fc_cell])
        all_goals try (exfalso; simp only [reduceCtorEq, or_false] at h1''; omega)
        all_goals
          refine mloop_intro (α := Nat) (fun i => ⟨52, [(3, .int .i64 (i : Int)), (1, .ptr nl1 0 0)], []⟩) (fun _ => St.none.set nl1 (.row 27 26 [p.c])) (fun i => i ≤ 8 ∧ ∀ j, j < i → (vaOk (p.f.get j) && (decide ((p.f.get j).kd = 0) || bit p.mask.toNat j)) = true) (fun i => 8 - i) (.of (.less ?_ (St.le_refl _)) ⟨0, rfl, rfl, Nat.zero_le _, fun j h => absurd h (Nat.not_lt_zero _)⟩) ?_
          · simp (maxSteps := 4000000) (disch := first | decide | assumption | omega | (simp only [wL]; omega)) only [go_sem, simprocAttr, weak_int, weak_same]
            all_goals rfl
          · rintro i ⟨hi, hq⟩
            by_cases h8 : i < 8
            · have hc := rvcheck_call (p.f.get i).kd (p.f.get i).n (p.f.get i).s
              have hb := rbit_call p.mask i (by omega)
              have hbad := hbad i h8
              cases hok : (vaOk (p.f.get i) && (decide ((p.f.get i).kd = 0) || bit p.mask.toNat i))
              · rw [hbad hok]
                clear hbad hgood hq
                have eta : (⟨(p.f.get i).kd, (p.f.get i).n, (p.f.get i).s⟩ : VA) = p.f.get i := rfl
                rw [eta] at hc
                cases hv : vaOk (p.f.get i) <;> rw [hv] at hc hok
                · repeat' (first | (with_reducible first | refine up hc ?_ | refine up hb ?_) | (with_reducible first | (refine wT ?_; (first | ((fail_if_success (have := nl1)); refine wN fun nl1 hnl => ?_) | refine wN fun _ hnl => ?_); revert hnl; (repeat refine wS fun _ _ => ?_); intro hnl) | refine wD (by decide +kernel) ?_ | refine wI (fun h => ?_) fun h => ?_ | refine wF (fun h => ?_) fun h => ?_ | refine wG (fun h => ?_) fun h => ?_ | refine wH (fun h => ?_) fun h => ?_ | ((first | refine mfork_bool (fun h => ?_) fun h => ?_ | refine mgfork_bool (fun h => ?_) fun h => ?_) <;> simp only [h])) | simp (maxSteps := 4000000) (disch := first | decide | assumption | omega | (simp only [wL]; omega)) only [go_sem, simprocAttr, fc_len, fc_cell, drop_two, getD_two, fc_at, fc_get0])
                  all_goals first | exact ⟨_, St.le_refl _, rfl⟩ | exact ⟨_, St.le_refl _⟩
                · cases hbb : bit p.mask.toNat i <;> rw [hbb] at hb hok
                  · repeat' (first | (with_reducible first | refine up hc ?_ | refine up hb ?_) | (with_reducible first | (refine wT ?_; (first | ((fail_if_success (have := nl1)); refine wN fun nl1 hnl => ?_) | refine wN fun _ hnl => ?_); revert hnl; (repeat refine wS fun _ _ => ?_); intro hnl) | refine wD (by decide +kernel) ?_ | refine wI (fun h => ?_) fun h => ?_ | refine wF (fun h => ?_) fun h => ?_ | refine wG (fun h => ?_) fun h => ?_ | refine wH (fun h => ?_) fun h => ?_ | ((first | refine mfork_bool (fun h => ?_) fun h => ?_ | refine mgfork_bool (fun h => ?_) fun h => ?_) <;> simp only [h])) | simp (maxSteps := 4000000) (disch := first | decide | assumption | omega | (simp only [wL]; omega)) only [go_sem, simprocAttr, fc_len, fc_cell, drop_two, getD_two, fc_at, fc_get0])
                    all_goals first | exact ⟨_, St.le_refl _, rfl⟩ | exact ⟨_, St.le_refl _⟩ | (exfalso; simp_all)
                  · simp at hok
              · clear hbad hgood
                have eta : (⟨(p.f.get i).kd, (p.f.get i).n, (p.f.get i).s⟩ : VA) = p.f.get i := rfl
                rw [eta] at hc
                have hok' := hok
                simp only [Bool.and_eq_true, Bool.or_eq_true, decide_eq_true_eq] at hok
                rw [hok.1] at hc
                have hok2 := hok.2
                cases hbb : bit p.mask.toNat i <;> rw [hbb] at hb hok2
                all_goals
                  repeat' (first | (with_reducible first | refine up hc ?_ | refine up hb ?_) | (with_reducible first | (refine wT ?_; (first | ((fail_if_success (have := nl1)); refine wN fun nl1 hnl => ?_) | refine wN fun _ hnl => ?_); revert hnl; (repeat refine wS fun _ _ => ?_); intro hnl) | refine wD (by decide +kernel) ?_ | refine wI (fun h => ?_) fun h => ?_ | refine wF (fun h => ?_) fun h => ?_ | refine wG (fun h => ?_) fun h => ?_ | refine wH (fun h => ?_) fun h => ?_ | ((first | refine mfork_bool (fun h => ?_) fun h => ?_ | refine mgfork_bool (fun h => ?_) fun h => ?_) <;> simp only [h])) | simp (maxSteps := 4000000) (disch := first | decide | assumption | omega | (simp only [wL]; omega)) only [go_sem, simprocAttr, fc_len, fc_cell, drop_two, getD_two, fc_at, fc_get0])
                  all_goals try (exfalso; simp_all; done)
                  all_goals
                    refine .of (.less ?_ (St.le_refl _)) ⟨i + 1, rfl, rfl, ⟨by omega, fun j hj => ?_⟩, by omega⟩
                    · simp (maxSteps := 4000000) (disch := first | decide | assumption | omega | (simp only [wL]; omega)) only [go_sem, simprocAttr, weak_int, weak_same]
                      all_goals rfl
                    · by_cases hji : j = i
                      · rw [hji]; exact hok'
                      · exact hq j (by omega)
            · have : i = 8 := by omega
              subst this
              rw [hgood hq]
              repeat' (first | (with_reducible first | (refine wT ?_; (first | ((fail_if_success (have := nl1)); refine wN fun nl1 hnl => ?_) | refine wN fun _ hnl => ?_); revert hnl; (repeat refine wS fun _ _ => ?_); intro hnl) | refine wD (by decide +kernel) ?_ | refine wI (fun h => ?_) fun h => ?_ | refine wF (fun h => ?_) fun h => ?_ | refine wG (fun h => ?_) fun h => ?_ | refine wH (fun h => ?_) fun h => ?_ | ((first | refine mfork_bool (fun h => ?_) fun h => ?_ | refine mgfork_bool (fun h => ?_) fun h => ?_) <;> simp only [h])) | simp (maxSteps := 4000000) (disch := first | decide | assumption | omega | (simp only [wL]; omega)) only [go_sem, simprocAttr])
              first | exact ⟨_, St.le_refl _, rfl⟩ | exact ⟨_, St.le_refl _⟩
end Go.Proofs.YtfbodefnblpflaaGreatDoor
end

section
/- Contracts of the document's bytes of cards and patches, and of how they are read: the conditions that the theorems name. -/
set_option linter.unusedVariables false
set_option linter.unusedSimpArgs false
namespace Go.Proofs.YtfbodefnblpflaaGreatDoor
set_option maxRecDepth 100000
theorem wrap32 {n : Nat} (h : n < 4294967296) : IntKind.u32.wrap (n : Int) = (n : Int) := by
  simp only [IntKind.wrap, IntKind.signed, IntKind.bits]
  simp
  omega
theorem rone_call (n : Nat) (h : n < 32) : MCalls Tryz.prog 169 [.int .i64 (n : Int)] St.none (fun r _ => r = .int .u32 ((2 ^ n : Nat) : Int)) := by
  refine (MCalls.body 19 [.tmp 2] Tryz.func169 rfl rfl rfl rfl ?_)
  repeat' (first | (with_reducible first | (refine wT ?_; refine wN fun _ hnl => ?_; revert hnl; (repeat refine wS fun _ _ => ?_); intro hnl) | refine wD (by decide +kernel) ?_ | refine wI (fun h => ?_) fun h => ?_ | refine wF (fun h => ?_) fun h => ?_ | refine wG (fun h => ?_) fun h => ?_ | refine wH (fun h => ?_) fun h => ?_ | ((first | refine mfork_bool (fun h => ?_) fun h => ?_ | refine mgfork_bool (fun h => ?_) fun h => ?_) <;> simp only [h])) | simp (maxSteps := 4000000) (disch := first | decide | assumption | omega | (simp only [wL]; omega)) only [go_sem, simprocAttr, Tryz.f169])
  refine mloop_intro (α := Nat) (fun i => ⟨19, [(4, .int .i64 (i : Int)), (3, .int .u32 ((2 ^ i : Nat) : Int)), (0, .int .i64 (n : Int))], []⟩) (fun _ => St.none) (fun i => i ≤ n) (fun i => n - i) (.of (.less ?_ (St.le_refl _)) ⟨0, rfl, rfl, Nat.zero_le _⟩) ?_
  · simp (maxSteps := 4000000) (disch := first | decide | assumption | omega | (simp only [wL]; omega)) only [go_sem, simprocAttr, weak_int, weak_same]
    all_goals rfl
  · intro i hi
    have hi : i ≤ n := hi
    by_cases hlt : i < n
    · have h2 : 2 ^ (i + 1) < 4294967296 := Nat.pow_lt_pow_right (a := 2) (n := 32) (by decide) (by omega)
      have e : IntKind.u32.wrap (((2 ^ i : Nat) : Int) * 2) = ((2 ^ (i + 1) : Nat) : Int) := by
        rw [show ((2 ^ i : Nat) : Int) * 2 = ((2 ^ (i + 1) : Nat) : Int) by rw [Nat.pow_succ]; simp]
        exact wrap32 h2
      obtain ⟨p, hp⟩ : ∃ p, 2 ^ i = p := ⟨_, rfl⟩
      rw [hp] at e ⊢
      repeat' (first | (with_reducible first | (refine wT ?_; refine wN fun _ hnl => ?_; revert hnl; (repeat refine wS fun _ _ => ?_); intro hnl) | refine wD (by decide +kernel) ?_ | refine wI (fun h => ?_) fun h => ?_ | refine wF (fun h => ?_) fun h => ?_ | refine wG (fun h => ?_) fun h => ?_ | refine wH (fun h => ?_) fun h => ?_ | ((first | refine mfork_bool (fun h => ?_) fun h => ?_ | refine mgfork_bool (fun h => ?_) fun h => ?_) <;> simp only [h])) | simp (maxSteps := 4000000) (disch := first | decide | assumption | omega | (simp only [wL]; omega)) only [go_sem, simprocAttr, e])
      refine .of (.less (l1 := [(4, .int .i64 ((i + 1 : Nat) : Int)), (3, .int .u32 ((2 ^ (i + 1) : Nat) : Int)), (0, .int .i64 (n : Int))]) ?_ (St.le_refl _)) ⟨i + 1, rfl, rfl, by omega, by omega⟩
      obtain ⟨q, hq⟩ : ∃ q, 2 ^ (i + 1) = q := ⟨_, rfl⟩
      rw [hq] at e ⊢
      simp (maxSteps := 4000000) (disch := first | decide | assumption | omega | (simp only [wL]; omega)) only [go_sem, simprocAttr, weak_int, weak_same, e]
      all_goals rfl
    · have : i = n := by omega
      subst this
      obtain ⟨p, hp⟩ : ∃ p, 2 ^ i = p := ⟨_, rfl⟩
      rw [hp]
      repeat' (first | (with_reducible first | (refine wT ?_; refine wN fun _ hnl => ?_; revert hnl; (repeat refine wS fun _ _ => ?_); intro hnl) | refine wD (by decide +kernel) ?_ | refine wI (fun h => ?_) fun h => ?_ | refine wF (fun h => ?_) fun h => ?_ | refine wG (fun h => ?_) fun h => ?_ | refine wH (fun h => ?_) fun h => ?_ | ((first | refine mfork_bool (fun h => ?_) fun h => ?_ | refine mgfork_bool (fun h => ?_) fun h => ?_) <;> simp only [h])) | simp (maxSteps := 4000000) (disch := first | decide | assumption | omega | (simp only [wL]; omega)) only [go_sem, simprocAttr])
theorem rwith_call (s n : Nat) (h : n < 32) (hs : s < 2 ^ n) : MCalls Tryz.prog 133 [.int .u32 (s : Int), .int .i64 (n : Int)] St.none (fun r _ => r = .int .u32 ((s ||| 2 ^ n : Nat) : Int)) := by
  refine (MCalls.body 13 [.tmp 4] Tryz.func133 rfl rfl rfl rfl ?_)
  have h2 : 2 ^ n ≤ 2147483648 := Nat.pow_le_pow_right (n := 2) (i := n) (j := 31) (by decide) (by omega)
  have h1 := rhas_call s (n : Int) (by omega)
  rw [hasB_bit h, show bit s n = false from Nat.testBit_lt_two_pow hs] at h1
  have h3 := rone_call n h
  have e : s ||| 2 ^ n = s + 2 ^ n := by
    have := Nat.two_pow_add_eq_or_of_lt hs 1
    rw [Nat.mul_one] at this
    rw [Nat.or_comm, ← this, Nat.add_comm]
  rw [e]
  have ew : IntKind.u32.wrap ((s : Int) + ((2 ^ n : Nat) : Int)) = ((s + 2 ^ n : Nat) : Int) := by
    rw [show (s : Int) + ((2 ^ n : Nat) : Int) = ((s + 2 ^ n : Nat) : Int) by simp]
    exact wrap32 (by omega)
  obtain ⟨p, hp⟩ : ∃ p, 2 ^ n = p := ⟨_, rfl⟩
  rw [hp] at h3 ew ⊢
  repeat' (first | (with_reducible first | refine up h1 ?_ | refine up h3 ?_) | (with_reducible first | (refine wT ?_; refine wN fun _ hnl => ?_; revert hnl; (repeat refine wS fun _ _ => ?_); intro hnl) | refine wD (by decide +kernel) ?_ | refine wI (fun h => ?_) fun h => ?_ | refine wF (fun h => ?_) fun h => ?_ | refine wG (fun h => ?_) fun h => ?_ | refine wH (fun h => ?_) fun h => ?_ | ((first | refine mfork_bool (fun h => ?_) fun h => ?_ | refine mgfork_bool (fun h => ?_) fun h => ?_) <;> simp only [h])) | simp (maxSteps := 4000000) (disch := first | decide | assumption | omega | (simp only [wL]; omega)) only [go_sem, simprocAttr, Tryz.f133, ew])
  all_goals first | rfl | (refine mdraw_know mixed (by decide +kernel) (kn [(169, [.int .i64 (n : Int)], ⟨[], fun v => v = .int .u32 (p : Int), none⟩)]) ?_; repeat' (first | (with_reducible refine know_pure kn_hit h3 ?_) | (with_reducible first | (refine wT ?_; refine wN fun _ hnl => ?_; revert hnl; (repeat refine wS fun _ _ => ?_); intro hnl) | refine wD (by decide +kernel) ?_ | refine wI (fun h => ?_) fun h => ?_ | refine wF (fun h => ?_) fun h => ?_ | refine wG (fun h => ?_) fun h => ?_ | refine wH (fun h => ?_) fun h => ?_ | ((first | refine mfork_bool (fun h => ?_) fun h => ?_ | refine mgfork_bool (fun h => ?_) fun h => ?_) <;> simp only [h])) | simp (maxSteps := 4000000) (disch := first | decide | assumption | omega | (simp only [wL]; omega)) only [go_sem, simprocAttr, ew]); rfl)
theorem rputcard_call (c : CA) (hok : cardOk c = true) : MCalls Tryz.prog 74 [.agg c.c] St.none (fun r _ => r = .str (bsS (cardB c))) := by
  refine MCalls.drops (MCalls.body 47 [.tmp 2] Tryz.func74 rfl rfl rfl rfl ?_)
  have hc := rccheck_call c
  rw [hok] at hc
  repeat' (first | (with_reducible first | refine up hc ?_) | (with_reducible first | (refine wT ?_; (first | ((fail_if_success (have := nl1)); refine wN fun nl1 hnl => ?_) | refine wN fun _ hnl => ?_); revert hnl; (repeat refine wS fun _ _ => ?_); intro hnl) | refine wD (by decide +kernel) ?_ | refine wI (fun h => ?_) fun h => ?_ | refine wF (fun h => ?_) fun h => ?_ | refine wG (fun h => ?_) fun h => ?_ | refine wH (fun h => ?_) fun h => ?_ | ((first | refine mfork_bool (fun h => ?_) fun h => ?_ | refine mgfork_bool (fun h => ?_) fun h => ?_) <;> simp only [h])) | simp (maxSteps := 4000000) (disch := first | decide | assumption | omega | (simp only [wL]; omega)) only [go_sem, simprocAttr, Tryz.f74, fc_len, fc_cell, fc_take'])
  refine mloop_intro (α := Nat × BL) (fun a => ⟨47, [(5, .int .i64 (a.1 : Int)), (4, .str (bsS a.2)), (3, .int .u32 ((ors (fun i => decide ((c.f.get i).kd ≠ 0)) a.1 : Nat) : Int)), (1, .ptr nl1 0 0)], []⟩) (fun _ => St.none.set nl1 (.row 117 27 [c.c])) (fun a => a.1 ≤ 8 ∧ a.2 ++ fieldsB (hasM c.f) c.f (8 - a.1) = fieldsB (hasM c.f) c.f 8 ∧ a.2.length ≤ 36 * a.1) (fun a => 8 - a.1) (.of (.less ?_ (St.le_refl _)) ⟨(0, []), rfl, rfl, Nat.zero_le _, rfl, Nat.le_refl _⟩) ?_
  · simp (maxSteps := 4000000) (disch := first | decide | assumption | omega | (simp only [wL]; omega)) only [go_sem, simprocAttr, weak_int, weak_same]
    all_goals exact ⟨.same _, rfl⟩
  · rintro ⟨i, pre⟩ ⟨hi, hq, hl⟩
    simp only at hi hq hl ⊢
    by_cases h8 : i < 8
    · rw [fieldsB_at h8] at hq
      have hb : bit (hasM c.f) i = decide ((c.f.get i).kd ≠ 0) := hasM_bit c.f h8
      have hv := rputval_call (c.f.get i)
      have hvl := (inferInstance : LB (valB (c.f.get i)) 36).h
      have hlt := ors_lt (fun i => decide ((c.f.get i).kd ≠ 0)) i
      have hw := rwith_call _ i (by omega) hlt
      have hsucc : ors (fun i => decide ((c.f.get i).kd ≠ 0)) (i + 1) = if decide ((c.f.get i).kd ≠ 0) = true then ors (fun i => decide ((c.f.get i).kd ≠ 0)) i ||| 2 ^ i else ors (fun i => decide ((c.f.get i).kd ≠ 0)) i := rfl
      by_cases hk : (c.f.get i).kd = 0
      · rw [if_neg (by simp [hk])] at hsucc
        rw [hb, if_neg (by simp [hk]), List.nil_append] at hq
        repeat' (first | (with_reducible first | (refine wT ?_; (first | ((fail_if_success (have := nl1)); refine wN fun nl1 hnl => ?_) | refine wN fun _ hnl => ?_); revert hnl; (repeat refine wS fun _ _ => ?_); intro hnl) | refine wD (by decide +kernel) ?_ | refine wI (fun h => ?_) fun h => ?_ | refine wF (fun h => ?_) fun h => ?_ | refine wG (fun h => ?_) fun h => ?_ | refine wH (fun h => ?_) fun h => ?_ | ((first | refine mfork_bool (fun h => ?_) fun h => ?_ | refine mgfork_bool (fun h => ?_) fun h => ?_) <;> simp only [h])) | simp (maxSteps := 4000000) (disch := first | decide | assumption | omega | (simp only [wL]; omega)) only [go_sem, simprocAttr, fc_len, fc_cell, drop_three, getD_three, fc_get0])
        refine .of (.less (l1 := [(5, .int .i64 ((i + 1 : Nat) : Int)), (4, .str (bsS pre)), (3, .int .u32 ((ors (fun i => decide ((c.f.get i).kd ≠ 0)) (i + 1) : Nat) : Int)), (1, .ptr nl1 0 0)]) ?_ (St.le_refl _)) ⟨(i + 1, pre), rfl, rfl, ⟨by simp only; omega, hq, by simp only; omega⟩, by simp only; omega⟩
        rw [hsucc]
        simp (maxSteps := 4000000) (disch := first | decide | assumption | omega | (simp only [wL]; omega)) only [go_sem, simprocAttr, weak_int, weak_same]
        all_goals rfl
      · rw [if_pos (by simp [hk])] at hsucc
        rw [hb, if_pos (by simp [hk])] at hq
        repeat' (first | (with_reducible first | refine up hw ?_ | refine up hv ?_) | (with_reducible first | (refine wT ?_; (first | ((fail_if_success (have := nl1)); refine wN fun nl1 hnl => ?_) | refine wN fun _ hnl => ?_); revert hnl; (repeat refine wS fun _ _ => ?_); intro hnl) | refine wD (by decide +kernel) ?_ | refine wI (fun h => ?_) fun h => ?_ | refine wF (fun h => ?_) fun h => ?_ | refine wG (fun h => ?_) fun h => ?_ | refine wH (fun h => ?_) fun h => ?_ | ((first | refine mfork_bool (fun h => ?_) fun h => ?_ | refine mgfork_bool (fun h => ?_) fun h => ?_) <;> simp only [h])) | simp (maxSteps := 4000000) (disch := first | decide | assumption | omega | (simp only [wL]; omega)) only [go_sem, simprocAttr, fc_len, fc_cell, drop_three, getD_three, fc_get0, fc_at, bsS_append, bsS_size])
        refine .of (.less (l1 := [(5, .int .i64 ((i + 1 : Nat) : Int)), (4, .str (bsS (pre ++ valB (c.f.get i)))), (3, .int .u32 ((ors (fun i => decide ((c.f.get i).kd ≠ 0)) (i + 1) : Nat) : Int)), (1, .ptr nl1 0 0)]) ?_ (St.le_refl _)) ⟨(i + 1, pre ++ valB (c.f.get i)), rfl, rfl, ⟨by simp only; omega, by simp only; rw [List.append_assoc]; exact hq, by simp only [List.length_append]; omega⟩, by simp only; omega⟩
        rw [hsucc]
        simp (maxSteps := 4000000) (disch := first | decide | assumption | omega | (simp only [wL]; omega)) only [go_sem, simprocAttr, weak_int, weak_same]
        all_goals rfl
    · have : i = 8 := by omega
      subst this
      have hq : pre = fieldsB (hasM c.f) c.f 8 := by rw [← hq]; simp [fieldsB]
      have e : cardB c = numB c.id ++ numB c.ver ++ numB (c.lab.toNat : Int) ++ numB (hasM c.f : Int) ++ pre := by rw [hq, cardB, if_pos hok]
      rw [e]
      have h1 := numB_len c.id
      have h2 := numB_len c.ver
      have h3 := numB_len (c.lab.toNat : Int)
      have h4 := numB_len (hasM c.f : Int)
      have hm : ors (fun i => decide ((c.f.get i).kd ≠ 0)) 8 = hasM c.f := rfl
      rw [hm]
      obtain ⟨m, hm⟩ : ∃ m, hasM c.f = m := ⟨_, rfl⟩
      have hml := hasM_lt c.f
      rw [hm] at h4 hml ⊢
      have hlab := c.lab.toNat_lt
      obtain ⟨C, hN⟩ : ∃ C : Know, (∀ n, C 26 [.int .i64 n] = some ⟨[], fun v => v = .str (bsS (numB n)), none⟩) := ⟨numK (fun _ _ => none), fun _ => numK_hit⟩
      repeat' (first | (with_reducible first | (refine wT ?_; (first | ((fail_if_success (have := nl1)); refine wN fun nl1 hnl => ?_) | refine wN fun _ hnl => ?_); revert hnl; (repeat refine wS fun _ _ => ?_); intro hnl) | refine wD (by decide +kernel) ?_ | refine wI (fun h => ?_) fun h => ?_ | refine wF (fun h => ?_) fun h => ?_ | refine wG (fun h => ?_) fun h => ?_ | refine wH (fun h => ?_) fun h => ?_ | ((first | refine mfork_bool (fun h => ?_) fun h => ?_ | refine mgfork_bool (fun h => ?_) fun h => ?_) <;> simp only [h])) | simp (maxSteps := 4000000) (disch := first | decide | assumption | omega | (simp only [wL]; omega)) only [go_sem, simprocAttr])
      refine mdraw_know mixed (by decide +kernel) C ?_
      repeat' (first | (with_reducible refine know_pure (hN _) (rnum_call _) ?_) | (with_reducible first | (refine wT ?_; (first | ((fail_if_success (have := nl1)); refine wN fun nl1 hnl => ?_) | refine wN fun _ hnl => ?_); revert hnl; (repeat refine wS fun _ _ => ?_); intro hnl) | refine wD (by decide +kernel) ?_ | refine wI (fun h => ?_) fun h => ?_ | refine wF (fun h => ?_) fun h => ?_ | refine wG (fun h => ?_) fun h => ?_ | refine wH (fun h => ?_) fun h => ?_ | ((first | refine mfork_bool (fun h => ?_) fun h => ?_ | refine mgfork_bool (fun h => ?_) fun h => ?_) <;> simp only [h])) | simp (maxSteps := 4000000) (disch := first | decide | assumption | omega | (simp only [wL]; omega)) only [go_sem, simprocAttr, fc_len, fc_cell, bsS_append, bsS_size])
      all_goals first | exact ⟨_, St.le_refl _, rfl⟩ | exact ⟨_, St.le_refl _⟩
theorem rputpatch_call (p : PA) (hok : patchErr p = 0) : MCalls Tryz.prog 71 [.agg p.c] St.none (fun r _ => r = .str (bsS (patchB p))) := by
  refine MCalls.drops (MCalls.body 37 [.tmp 2] Tryz.func71 rfl rfl rfl rfl ?_)
  have hc := rcpatch_call p
  rw [hok] at hc
  have hm := rmlab_call p.mask
  have hn1 := rnum_call (p.mask.toNat : Int)
  have hn2 := rnum_call (p.lab.toNat : Int)
  have h1 := numB_len (p.mask.toNat : Int)
  have h2 := numB_len (p.lab.toNat : Int)
  have hmt := p.mask.toNat_lt
  have hlt := p.lab.toNat_lt
  obtain ⟨b8, hb8⟩ : ∃ b, bit p.mask.toNat 8 = b := ⟨_, rfl⟩
  rw [hb8] at hm
  have e : patchB p = (numB p.mask.toNat ++ (if b8 = true then numB p.lab.toNat else [])) ++ fieldsB p.mask.toNat p.f 8 := by rw [patchB, if_pos hok, hb8]
  rw [e]
  obtain ⟨hd, hhd⟩ : ∃ hd, numB p.mask.toNat ++ (if b8 = true then numB p.lab.toNat else []) = hd := ⟨_, rfl⟩
  have hdl : hd.length ≤ 12 := by rw [← hhd, List.length_append]; split <;> (try simp only [List.length_nil]) <;> omega
  rw [hhd]
  cases b8
  all_goals
    simp only [if_true, Bool.false_eq_true, if_false, List.append_nil] at hhd
    repeat' (first | (with_reducible first | refine up hc ?_ | refine up hm ?_ | refine up hn1 ?_ | refine up hn2 ?_) | (with_reducible first | (refine wT ?_; (first | ((fail_if_success (have := nl1)); refine wN fun nl1 hnl => ?_) | refine wN fun _ hnl => ?_); revert hnl; (repeat refine wS fun _ _ => ?_); intro hnl) | refine wD (by decide +kernel) ?_ | refine wI (fun h => ?_) fun h => ?_ | refine wF (fun h => ?_) fun h => ?_ | refine wG (fun h => ?_) fun h => ?_ | refine wH (fun h => ?_) fun h => ?_ | ((first | refine mfork_bool (fun h => ?_) fun h => ?_ | refine mgfork_bool (fun h => ?_) fun h => ?_) <;> simp only [h])) | simp (maxSteps := 4000000) (disch := first | decide | assumption | omega | (simp only [wL]; omega)) only [go_sem, simprocAttr, Tryz.f71, fc_len, fc_cell, fc_take', bsS_append, bsS_size])
    try (refine mdraw_know mixed (by decide +kernel) (numK fun _ _ => none) ?_; repeat' (first | (refine know_pure numK_hit hn2 ?_) | (with_reducible first | (refine wT ?_; (first | ((fail_if_success (have := nl1)); refine wN fun nl1 hnl => ?_) | refine wN fun _ hnl => ?_); revert hnl; (repeat refine wS fun _ _ => ?_); intro hnl) | refine wD (by decide +kernel) ?_ | refine wI (fun h => ?_) fun h => ?_ | refine wF (fun h => ?_) fun h => ?_ | refine wG (fun h => ?_) fun h => ?_ | refine wH (fun h => ?_) fun h => ?_ | ((first | refine mfork_bool (fun h => ?_) fun h => ?_ | refine mgfork_bool (fun h => ?_) fun h => ?_) <;> simp only [h])) | simp (maxSteps := 4000000) (disch := first | decide | assumption | omega | (simp only [wL]; omega)) only [go_sem, simprocAttr, fc_len, fc_cell, bsS_append, bsS_size]))
    rw [hhd]
    refine mloop_intro (α := Nat × BL) (fun a => ⟨37, [(4, .int .i64 (a.1 : Int)), (3, .str (bsS (hd ++ a.2))), (1, .ptr nl1 0 0)], []⟩) (fun _ => St.none.set nl1 (.row 27 26 [p.c])) (fun a => a.1 ≤ 8 ∧ a.2 ++ fieldsB p.mask.toNat p.f (8 - a.1) = fieldsB p.mask.toNat p.f 8 ∧ a.2.length ≤ 36 * a.1) (fun a => 8 - a.1) (.of (.less ?_ (St.le_refl _)) ⟨(0, []), rfl, rfl, Nat.zero_le _, rfl, Nat.le_refl _⟩) ?_
    · rw [List.append_nil]
      simp (maxSteps := 4000000) (disch := first | decide | assumption | omega | (simp only [wL]; omega)) only [go_sem, simprocAttr, weak_int, weak_same]
      all_goals rfl
    · rintro ⟨i, pre⟩ ⟨hi, hq, hl⟩
      simp only at hi hq hl ⊢
      by_cases h8 : i < 8
      · rw [fieldsB_at h8] at hq
        have hv := rputval_call (p.f.get i)
        have hvl := (inferInstance : LB (valB (p.f.get i)) 36).h
        have hb := rbit_call p.mask i (by omega)
        cases hbb : bit p.mask.toNat i <;> rw [hbb] at hb hq
        · rw [if_neg (by simp), List.nil_append] at hq
          repeat' (first | (with_reducible first | refine up hb ?_) | (with_reducible first | (refine wT ?_; (first | ((fail_if_success (have := nl1)); refine wN fun nl1 hnl => ?_) | refine wN fun _ hnl => ?_); revert hnl; (repeat refine wS fun _ _ => ?_); intro hnl) | refine wD (by decide +kernel) ?_ | refine wI (fun h => ?_) fun h => ?_ | refine wF (fun h => ?_) fun h => ?_ | refine wG (fun h => ?_) fun h => ?_ | refine wH (fun h => ?_) fun h => ?_ | ((first | refine mfork_bool (fun h => ?_) fun h => ?_ | refine mgfork_bool (fun h => ?_) fun h => ?_) <;> simp only [h])) | simp (maxSteps := 4000000) (disch := first | decide | assumption | omega | (simp only [wL]; omega)) only [go_sem, simprocAttr, fc_len, fc_cell])
          refine .of (.less ?_ (St.le_refl _)) ⟨(i + 1, pre), rfl, rfl, ⟨by simp only; omega, hq, by simp only; omega⟩, by simp only; omega⟩
          simp (maxSteps := 4000000) (disch := first | decide | assumption | omega | (simp only [wL]; omega)) only [go_sem, simprocAttr, weak_int, weak_same]
          all_goals rfl
        · rw [if_pos rfl] at hq
          repeat' (first | (with_reducible first | refine up hb ?_ | refine up hv ?_) | (with_reducible first | (refine wT ?_; (first | ((fail_if_success (have := nl1)); refine wN fun nl1 hnl => ?_) | refine wN fun _ hnl => ?_); revert hnl; (repeat refine wS fun _ _ => ?_); intro hnl) | refine wD (by decide +kernel) ?_ | refine wI (fun h => ?_) fun h => ?_ | refine wF (fun h => ?_) fun h => ?_ | refine wG (fun h => ?_) fun h => ?_ | refine wH (fun h => ?_) fun h => ?_ | ((first | refine mfork_bool (fun h => ?_) fun h => ?_ | refine mgfork_bool (fun h => ?_) fun h => ?_) <;> simp only [h])) | simp (maxSteps := 4000000) (disch := first | decide | assumption | omega | (simp only [wL]; omega)) only [go_sem, simprocAttr, fc_len, fc_cell, drop_two, fc_at, bsS_append, bsS_size])
          refine .of (.less (l1 := [(4, .int .i64 ((i + 1 : Nat) : Int)), (3, .str (bsS (hd ++ (pre ++ valB (p.f.get i))))), (1, .ptr nl1 0 0)]) ?_ (St.le_refl _)) ⟨(i + 1, pre ++ valB (p.f.get i)), rfl, rfl, ⟨by simp only; omega, by simp only; rw [List.append_assoc]; exact hq, by simp only [List.length_append]; omega⟩, by simp only; omega⟩
          rw [← List.append_assoc]
          simp (maxSteps := 4000000) (disch := first | decide | assumption | omega | (simp only [wL]; omega)) only [go_sem, simprocAttr, weak_int, weak_same]
          all_goals rfl
      · have : i = 8 := by omega
        subst this
        have hq : pre = fieldsB p.mask.toNat p.f 8 := by rw [← hq]; simp [fieldsB]
        rw [← hq]
        repeat' (first | (with_reducible first | (refine wT ?_; (first | ((fail_if_success (have := nl1)); refine wN fun nl1 hnl => ?_) | refine wN fun _ hnl => ?_); revert hnl; (repeat refine wS fun _ _ => ?_); intro hnl) | refine wD (by decide +kernel) ?_ | refine wI (fun h => ?_) fun h => ?_ | refine wF (fun h => ?_) fun h => ?_ | refine wG (fun h => ?_) fun h => ?_ | refine wH (fun h => ?_) fun h => ?_ | ((first | refine mfork_bool (fun h => ?_) fun h => ?_ | refine mgfork_bool (fun h => ?_) fun h => ?_) <;> simp only [h])) | simp (maxSteps := 4000000) (disch := first | decide | assumption | omega | (simp only [wL]; omega)) only [go_sem, simprocAttr])
        all_goals first | exact ⟨_, St.le_refl _, rfl⟩ | exact ⟨_, St.le_refl _⟩
end Go.Proofs.YtfbodefnblpflaaGreatDoor
end

section
/- Contracts of the document's edits and tokens: checks, bytes, readers: the conditions that the theorems name. -/
set_option linter.unusedVariables false
set_option linter.unusedSimpArgs false
namespace Go.Proofs.YtfbodefnblpflaaGreatDoor
set_option maxRecDepth 100000
theorem rgroup_call (k : Int) : MCalls Tryz.prog 126 [.int .i64 k] St.none (fun r _ => r = .bool (edG k)) := by
  refine (MCalls.body 17 [.tmp 2] Tryz.func126 rfl rfl rfl rfl ?_)
  repeat' (first | (with_reducible first | (refine wT ?_; refine wN fun _ hnl => ?_; revert hnl; (repeat refine wS fun _ _ => ?_); intro hnl) | refine wD (by decide +kernel) ?_ | refine wI (fun h => ?_) fun h => ?_ | refine wF (fun h => ?_) fun h => ?_ | refine wG (fun h => ?_) fun h => ?_ | refine wH (fun h => ?_) fun h => ?_ | ((first | refine mfork_bool (fun h => ?_) fun h => ?_ | refine mgfork_bool (fun h => ?_) fun h => ?_) <;> simp only [h])) | simp (maxSteps := 4000000) (disch := first | decide | assumption | omega | (simp only [wL]; omega)) only [go_sem, simprocAttr, Tryz.f126])
  all_goals (try simp only [Classical.not_not] at *)
  all_goals (first | (simp [edG, *]; done) | (simp only [edG]; (repeat' split) <;> (first | (simp_all; done) | omega | (exfalso; omega))) | skip)
theorem rid_call (k : Int) : MCalls Tryz.prog 127 [.int .i64 k] St.none (fun r _ => r = .bool (edI k)) := by
  refine (MCalls.body 17 [.tmp 2] Tryz.func127 rfl rfl rfl rfl ?_)
  repeat' (first | (with_reducible first | (refine wT ?_; refine wN fun _ hnl => ?_; revert hnl; (repeat refine wS fun _ _ => ?_); intro hnl) | refine wD (by decide +kernel) ?_ | refine wI (fun h => ?_) fun h => ?_ | refine wF (fun h => ?_) fun h => ?_ | refine wG (fun h => ?_) fun h => ?_ | refine wH (fun h => ?_) fun h => ?_ | ((first | refine mfork_bool (fun h => ?_) fun h => ?_ | refine mgfork_bool (fun h => ?_) fun h => ?_) <;> simp only [h])) | simp (maxSteps := 4000000) (disch := first | decide | assumption | omega | (simp only [wL]; omega)) only [go_sem, simprocAttr, Tryz.f127])
  all_goals (try simp only [Classical.not_not] at *)
  all_goals (first | (simp [edI, *]; done) | (simp only [edI]; (repeat' split) <;> (first | (simp_all; done) | omega | (exfalso; omega))) | skip)
theorem rispatch_call (k : Int) : MCalls Tryz.prog 128 [.int .i64 k] St.none (fun r _ => r = .bool (edP k)) := by
  refine (MCalls.body 9 [.tmp 2] Tryz.func128 rfl rfl rfl rfl ?_)
  repeat' (first | (with_reducible first | (refine wT ?_; refine wN fun _ hnl => ?_; revert hnl; (repeat refine wS fun _ _ => ?_); intro hnl) | refine wD (by decide +kernel) ?_ | refine wI (fun h => ?_) fun h => ?_ | refine wF (fun h => ?_) fun h => ?_ | refine wG (fun h => ?_) fun h => ?_ | refine wH (fun h => ?_) fun h => ?_ | ((first | refine mfork_bool (fun h => ?_) fun h => ?_ | refine mgfork_bool (fun h => ?_) fun h => ?_) <;> simp only [h])) | simp (maxSteps := 4000000) (disch := first | decide | assumption | omega | (simp only [wL]; omega)) only [go_sem, simprocAttr, Tryz.f128])
  all_goals (try simp only [Classical.not_not] at *)
  all_goals (first | (simp [edP, *]; done) | (simp only [edP]; (repeat' split) <;> (first | (simp_all; done) | omega | (exfalso; omega))) | skip)
set_option maxHeartbeats 4000000 in
theorem recheck_call (e : ED) : MCalls Tryz.prog 79 [.agg e.c] St.none (fun r _ => r = .int .i64 (editErr e)) := by
  refine MCalls.drops (MCalls.body 74 [.tmp 2] Tryz.func79 rfl rfl rfl rfl ?_)
  have hg := rgroup_call e.kd
  have hi := rid_call e.kd
  have hp := rispatch_call e.kd
  have hc := rcpatch_call e.p
  have hq : mbin Tryz.prog 27 .neq (.agg (.int .u32 (e.p.mask.toNat : Int) :: .int .u32 (e.p.lab.toNat : Int) :: fc e.p.f)) (.agg (.int .u32 0 :: .int .u32 0 :: fc f80)) = some (True, .bool (!decide (e.p = pa0))) := mbn_patch e.p pa0
  by_cases hk : e.kd < 1 ∨ 7 < e.kd
  · have e1 : editErr e = 1 := by unfold editErr; rw [if_pos hk]
    rw [e1]
    repeat' (first | (with_reducible first | (refine wT ?_; refine wN fun _ hnl => ?_; revert hnl; (repeat refine wS fun _ _ => ?_); intro hnl) | refine wD (by decide +kernel) ?_ | refine wI (fun h => ?_) fun h => ?_ | refine wF (fun h => ?_) fun h => ?_ | refine wG (fun h => ?_) fun h => ?_ | refine wH (fun h => ?_) fun h => ?_ | ((first | refine mfork_bool (fun h => ?_) fun h => ?_ | refine mgfork_bool (fun h => ?_) fun h => ?_) <;> simp only [h])) | simp (maxSteps := 4000000) (disch := first | decide | assumption | omega | (simp only [wL]; omega)) only [go_sem, simprocAttr, Tryz.f79, fc_zero, fc_len, fc_cell, fc_take, fc_take', fc_drop, fc_drop', fc_getD, drop_two, drop_three, take_two, take_three, getD_two, getD_three, fc_at, fc_at_app, fc_get0, fc_get1, fc_get2, fc_fold, F8.get_hit])
    all_goals first | exact ⟨_, St.le_refl _, rfl⟩ | exact ⟨_, St.le_refl _⟩ | (exfalso; omega)
  · have hk1 : 1 ≤ e.kd := by omega
    have hk2 : e.kd ≤ 7 := by omega
    obtain ⟨bg, hbg⟩ : ∃ b, edG e.kd = b := ⟨_, rfl⟩
    obtain ⟨bi, hbi⟩ : ∃ b, edI e.kd = b := ⟨_, rfl⟩
    obtain ⟨bp, hbp⟩ : ∃ b, edP e.kd = b := ⟨_, rfl⟩
    obtain ⟨bz, hbz⟩ : ∃ b, decide (e.p = pa0) = b := ⟨_, rfl⟩
    have e0 : Unit → editErr e = if bg = false ∧ e.gr ≠ 0 ∨ bi = false ∧ e.id ≠ 0 ∨ bp = false ∧ bz = false then 1 else if e.gr < 0 ∨ 16 ≤ e.gr ∨ bi = true ∧ (e.id < 1 ∨ 1073741824 ≤ e.id) then 1 else if bp = true then patchErr e.p else 0 := by
      intro _
      unfold editErr idMax
      rw [if_neg hk, hbg, hbi, hbp, ← hbz]
      simp only [decide_eq_false_iff_not, ne_eq]
    rw [hbg] at hg
    rw [hbi] at hi
    rw [hbp] at hp
    rw [hbz] at hq
    obtain ⟨res, hres⟩ : ∃ r, editErr e = r := ⟨_, rfl⟩
    rw [hres] at e0 ⊢
    clear hbg hbi hbp hbz hres hk
    cases bg <;> cases bi <;> cases bp <;> cases bz
    all_goals
      repeat' (first | (with_reducible first | refine up hg ?_ | refine up hi ?_ | refine up hp ?_ | refine up hc ?_) | (with_reducible first | (refine wT ?_; refine wN fun _ hnl => ?_; revert hnl; (repeat refine wS fun _ _ => ?_); intro hnl) | refine wD (by decide +kernel) ?_ | refine wI (fun h => ?_) fun h => ?_ | refine wF (fun h => ?_) fun h => ?_ | refine wG (fun h => ?_) fun h => ?_ | refine wH (fun h => ?_) fun h => ?_ | ((first | refine mfork_bool (fun h => ?_) fun h => ?_ | refine mgfork_bool (fun h => ?_) fun h => ?_) <;> simp only [h])) | simp (maxSteps := 4000000) (disch := first | decide | assumption | omega | (simp only [wL]; omega)) only [go_sem, simprocAttr, Tryz.f79, fc_zero, fc_len, fc_cell, fc_take, fc_take', fc_drop, fc_drop', fc_getD, drop_two, drop_three, take_two, take_three, getD_two, getD_three, fc_at, fc_at_app, fc_get0, fc_get1, fc_get2, fc_fold, F8.get_hit, hq])
      all_goals (first | refine ⟨_, St.le_refl _, ?_⟩ | skip)
      all_goals rw [e0 ()]
      all_goals (try simp only [Classical.not_not] at *)
      all_goals (first | (simp [*]; done) | (simp only []; (repeat' split) <;> (first | (simp_all; done) | omega | (exfalso; omega))) | skip)
end Go.Proofs.YtfbodefnblpflaaGreatDoor
end

section
/- Contracts of the document's edits and tokens: bytes, readers: the conditions that the theorems name. -/
set_option linter.unusedVariables false
set_option linter.unusedSimpArgs false
namespace Go.Proofs.YtfbodefnblpflaaGreatDoor
set_option maxRecDepth 100000
theorem rputedit_call (e : ED) (hok : editErr e = 0) : MCalls Tryz.prog 70 [.agg e.c] St.none (fun r _ => r = .str (bsS (editB e))) := by
  refine MCalls.drops (MCalls.body 35 [.tmp 2] Tryz.func70 rfl rfl rfl rfl ?_)
  have hc := recheck_call e
  rw [hok] at hc
  have hg := rgroup_call e.kd
  have hi := rid_call e.kd
  have hp := rispatch_call e.kd
  have n1 := rnum_call e.kd
  have n2 := rnum_call e.gr
  have n3 := rnum_call e.id
  have l1 := numB_len e.kd
  have l2 := numB_len e.gr
  have l3 := numB_len e.id
  have l4 := (inferInstance : LB (patchB e.p) 400).h
  have hpe : edP e.kd = true → patchErr e.p = 0 := fun h => by
    have := ((editErr_iff e).1 hok).2.2.2
    rwa [if_pos h] at this
  have hpp := fun h => rputpatch_call e.p (hpe h)
  clear hpe
  unfold editB
  rw [if_pos hok]
  obtain ⟨bg, hbg⟩ : ∃ b, edG e.kd = b := ⟨_, rfl⟩
  obtain ⟨bi, hbi⟩ : ∃ b, edI e.kd = b := ⟨_, rfl⟩
  obtain ⟨bp, hbp⟩ : ∃ b, edP e.kd = b := ⟨_, rfl⟩
  rw [hbg] at hg ⊢
  rw [hbi] at hi ⊢
  rw [hbp] at hp hpp ⊢
  cases bg <;> cases bi <;> cases bp
  all_goals
    try have hpp := hpp rfl
    repeat' (first | (with_reducible first | refine up hc ?_ | refine up hg ?_ | refine up hi ?_ | refine up hp ?_ | refine up n1 ?_ | refine up n2 ?_ | refine up n3 ?_ | refine up hpp ?_) | (with_reducible first | (refine wT ?_; refine wN fun _ hnl => ?_; revert hnl; (repeat refine wS fun _ _ => ?_); intro hnl) | refine wD (by decide +kernel) ?_ | refine wI (fun h => ?_) fun h => ?_ | refine wF (fun h => ?_) fun h => ?_ | refine wG (fun h => ?_) fun h => ?_ | refine wH (fun h => ?_) fun h => ?_ | ((first | refine mfork_bool (fun h => ?_) fun h => ?_ | refine mgfork_bool (fun h => ?_) fun h => ?_) <;> simp only [h])) | simp (maxSteps := 4000000) (disch := first | decide | assumption | omega | (simp only [wL]; omega)) only [go_sem, simprocAttr, Tryz.f70, fc_zero, fc_len, fc_cell, fc_take, fc_take', fc_drop, fc_drop', fc_getD, drop_two, drop_three, take_two, take_three, getD_two, getD_three, fc_at, fc_at_app, fc_get0, fc_get1, fc_get2, fc_fold, F8.get_hit, bsS_append, bsS_size])
    all_goals first | refine ⟨_, St.le_refl _, ?_⟩ | refine ⟨_, St.le_refl _⟩
    all_goals simp
theorem rtcheck_call (t : TO) : MCalls Tryz.prog 33 [.agg t.c] St.none (fun r _ => r = .bool (tokOk t)) := by
  refine MCalls.drops (MCalls.body 41 [.tmp 2] Tryz.func33 rfl rfl rfl rfl ?_)
  repeat' (first | (with_reducible first | (refine wT ?_; refine wN fun _ hnl => ?_; revert hnl; (repeat refine wS fun _ _ => ?_); intro hnl) | refine wD (by decide +kernel) ?_ | refine wI (fun h => ?_) fun h => ?_ | refine wF (fun h => ?_) fun h => ?_ | refine wG (fun h => ?_) fun h => ?_ | refine wH (fun h => ?_) fun h => ?_ | ((first | refine mfork_bool (fun h => ?_) fun h => ?_ | refine mgfork_bool (fun h => ?_) fun h => ?_) <;> simp only [h])) | simp (maxSteps := 4000000) (disch := first | decide | assumption | omega | (simp only [wL]; omega)) only [go_sem, simprocAttr, Tryz.f33])
  all_goals first | refine ⟨_, St.le_refl _, ?_⟩ | skip
  all_goals (try simp only [Classical.not_not] at *)
  all_goals (first | (simp [tokOk, big, idMax, *]; done) | (simp only [tokOk, big, idMax]; (repeat' split) <;> (first | (simp_all; done) | omega | (exfalso; omega))) | skip)
theorem rtgoes_call (a b : TO) : MCalls Tryz.prog 83 [.agg a.c, .agg b.c] St.none (fun r _ => r = .bool (tokGo a b)) := by
  refine MCalls.drops (MCalls.body 39 [.tmp 4] Tryz.func83 rfl rfl rfl rfl ?_)
  have h1 := rtcheck_call a
  have h2 := rtcheck_call b
  unfold tokGo
  cases h3 : tokOk a <;> rw [h3] at h1
  · repeat' (first | (with_reducible first | refine up h1 ?_ | refine up h2 ?_) | (with_reducible first | (refine wT ?_; refine wN fun _ hnl => ?_; revert hnl; (repeat refine wS fun _ _ => ?_); intro hnl) | refine wD (by decide +kernel) ?_ | refine wI (fun h => ?_) fun h => ?_ | refine wF (fun h => ?_) fun h => ?_ | refine wG (fun h => ?_) fun h => ?_ | refine wH (fun h => ?_) fun h => ?_ | ((first | refine mfork_bool (fun h => ?_) fun h => ?_ | refine mgfork_bool (fun h => ?_) fun h => ?_) <;> simp only [h])) | simp (maxSteps := 4000000) (disch := first | decide | assumption | omega | (simp only [wL]; omega)) only [go_sem, simprocAttr, Tryz.f83])
    all_goals first | refine ⟨_, St.le_refl _, ?_⟩ | skip
    all_goals (try simp only [Classical.not_not] at *)
    all_goals (first | (simp [*]; done) | (simp only []; (repeat' split) <;> (first | (simp_all; done) | omega | (exfalso; omega))) | skip)
  · cases h4 : tokOk b <;> rw [h4] at h2
    all_goals
      repeat' (first | (with_reducible first | refine up h1 ?_ | refine up h2 ?_) | (with_reducible first | (refine wT ?_; refine wN fun _ hnl => ?_; revert hnl; (repeat refine wS fun _ _ => ?_); intro hnl) | refine wD (by decide +kernel) ?_ | refine wI (fun h => ?_) fun h => ?_ | refine wF (fun h => ?_) fun h => ?_ | refine wG (fun h => ?_) fun h => ?_ | refine wH (fun h => ?_) fun h => ?_ | ((first | refine mfork_bool (fun h => ?_) fun h => ?_ | refine mgfork_bool (fun h => ?_) fun h => ?_) <;> simp only [h])) | simp (maxSteps := 4000000) (disch := first | decide | assumption | omega | (simp only [wL]; omega)) only [go_sem, simprocAttr, Tryz.f83])
      all_goals first | refine ⟨_, St.le_refl _, ?_⟩ | skip
      all_goals (try simp only [Classical.not_not] at *)
      all_goals (first | (simp [*]; done) | (simp only []; (repeat' split) <;> (first | (simp_all; done) | omega | (exfalso; omega))) | skip)
theorem rtput_call (t : TO) (hok : tokOk t = true) : MCalls Tryz.prog 28 [.agg t.c] St.none (fun r _ => r = .str (bsS (tokB t))) := by
  refine MCalls.drops (MCalls.body 21 [.tmp 2] Tryz.func28 rfl rfl rfl rfl ?_)
  have hc := rtcheck_call t
  rw [hok] at hc
  have l1 := numB_len t.dev
  have l2 := numB_len t.ep
  have l3 := numB_len t.sq
  have l4 := numB_len t.cu
  unfold tokB
  rw [if_pos hok]
  obtain ⟨C, hN⟩ : ∃ C : Know, (∀ n, C 26 [.int .i64 n] = some ⟨[], fun v => v = .str (bsS (numB n)), none⟩) := ⟨numK (fun _ _ => none), fun _ => numK_hit⟩
  repeat' (first | (with_reducible first | refine up hc ?_) | (with_reducible first | (refine wT ?_; refine wN fun _ hnl => ?_; revert hnl; (repeat refine wS fun _ _ => ?_); intro hnl) | refine wD (by decide +kernel) ?_ | refine wI (fun h => ?_) fun h => ?_ | refine wF (fun h => ?_) fun h => ?_ | refine wG (fun h => ?_) fun h => ?_ | refine wH (fun h => ?_) fun h => ?_ | ((first | refine mfork_bool (fun h => ?_) fun h => ?_ | refine mgfork_bool (fun h => ?_) fun h => ?_) <;> simp only [h])) | simp (maxSteps := 4000000) (disch := first | decide | assumption | omega | (simp only [wL]; omega)) only [go_sem, simprocAttr, Tryz.f28])
  refine mdraw_know mixed (by decide +kernel) C ?_
  repeat' (first | (with_reducible refine know_pure (hN _) (rnum_call _) ?_) | (with_reducible first | (refine wT ?_; refine wN fun _ hnl => ?_; revert hnl; (repeat refine wS fun _ _ => ?_); intro hnl) | refine wD (by decide +kernel) ?_ | refine wI (fun h => ?_) fun h => ?_ | refine wF (fun h => ?_) fun h => ?_ | refine wG (fun h => ?_) fun h => ?_ | refine wH (fun h => ?_) fun h => ?_ | ((first | refine mfork_bool (fun h => ?_) fun h => ?_ | refine mgfork_bool (fun h => ?_) fun h => ?_) <;> simp only [h])) | simp (maxSteps := 4000000) (disch := first | decide | assumption | omega | (simp only [wL]; omega)) only [go_sem, simprocAttr, bsS_append, bsS_size])
  all_goals first | exact ⟨_, St.le_refl _, rfl⟩ | exact ⟨_, St.le_refl _⟩
end Go.Proofs.YtfbodefnblpflaaGreatDoor
end

section
/- Contract of the document's Kids: the conditions that the theorem names. -/
set_option linter.unusedVariables false
set_option linter.unusedSimpArgs false
namespace Go.Proofs.YtfbodefnblpflaaGreatDoor
theorem app_flat' {α : Type} (D ex Y : List α) (m y : Nat) (h1 : D.length = m) (h2 : Y.length = y) : List.take m (D ++ ex) ++ Y ++ List.drop (m + y) (D ++ ex) = (D ++ Y) ++ ex.drop y := by
  subst h1 h2
  rw [List.take_left, List.drop_append, List.drop_eq_nil_of_le (by omega), List.nil_append, Nat.add_sub_cancel_left]
abbrev T.kl (t : T) : List (List MV) := t.kids.map fun k => [.lst 5 (k.fl.map ND.c) false]
theorem kid_end {t : T} (h : t.ok) {i : Nat} (hi : i < t.kids.length) :
    endS t.fl ((1 + ((t.kids.take i).map T.fl).flatten.length : Nat) : Int) = ((1 + ((t.kids.take (i + 1)).map T.fl).flatten.length : Nat) : Int) ∧
    (t.fl.take (1 + ((t.kids.take (i + 1)).map T.fl).flatten.length)).drop (1 + ((t.kids.take i).map T.fl).flatten.length) = (t.kids.getD i (.leaf nd0)).fl ∧
    1 + ((t.kids.take i).map T.fl).flatten.length ≤ 1 + ((t.kids.take (i + 1)).map T.fl).flatten.length ∧ 1 + ((t.kids.take (i + 1)).map T.fl).flatten.length ≤ t.fl.length ∧ (t.kids.getD i (.leaf nd0)).fl.length ≤ t.fl.length := by
  obtain ⟨h1, h2⟩ := T.ok_kids h
  obtain ⟨k, hk⟩ : ∃ k, t.kids.getD i (.leaf nd0) = k := ⟨_, rfl⟩
  have hg : t.kids[i] = k := by rw [← hk, getD_of_lt _ hi]
  have hko := h2 k (by rw [← hk]; exact getD_mem _ hi)
  have e1 : ((t.kids.take (i + 1)).map T.fl).flatten = ((t.kids.take i).map T.fl).flatten ++ k.fl := by
    rw [List.take_succ_eq_append_getElem hi, hg]; simp
  have e2 : t.fl = (t.root :: ((t.kids.take i).map T.fl).flatten) ++ (k.fl ++ ((t.kids.drop (i + 1)).map T.fl).flatten) := by
    rw [T.fl_kids]
    conv => lhs; rw [← List.take_append_drop i t.kids, List.drop_eq_getElem_cons hi, hg]
    simp
  have e3 : (t.root :: ((t.kids.take i).map T.fl).flatten).length = 1 + ((t.kids.take i).map T.fl).flatten.length := by rw [List.length_cons]; omega
  rw [e1, List.length_append, hk]
  generalize hA : t.root :: ((t.kids.take i).map T.fl).flatten = A at e2 e3
  have e4 := endS_fl hko A ((t.kids.drop (i + 1)).map T.fl).flatten
  rw [← e2, e3] at e4
  refine ⟨by rw [e4, Nat.add_assoc], ?_, by omega, by rw [e2]; simp only [List.length_append]; omega, by rw [e2]; simp only [List.length_append]; omega⟩
  rw [← Nat.add_assoc, ← e3, e2, ← List.append_assoc, ← List.length_append, List.take_left, List.drop_left]
set_option maxHeartbeats 2000000 in
theorem rkids_call (t : T) (h : t.ok) (hl : t.fl.length ≤ 1000) (tt : Bool) : MCalls Tryz.prog 171 [.lst 5 (t.fl.map ND.c) tt, .int .i64 0] St.none (fun r _ => r = .lst 1 t.kl false) := by
  refine MCalls.seen (MCalls.body 44 [.tmp 4] Tryz.func171 rfl rfl rfl rfl ?_)
  have hpos := t.fl_pos
  have hf0 : (t.fl.getD 0 nd0) = t.root := by rw [T.fl_kids]; rfl
  obtain ⟨h1, h2⟩ := T.ok_kids h
  have hb2 : t.kids.length ≤ 2 := by have := parts_cases t.root.op; omega
  repeat' (first | (with_reducible first | (refine wT ?_; (first | ((fail_if_success (have := nl1)); refine wN fun nl1 hnl => ?_) | ((fail_if_success (have := nl2)); refine wN fun nl2 hnl => ?_) | ((fail_if_success (have := nl3)); refine wN fun nl3 hnl => ?_) | ((fail_if_success (have := nl4)); refine wN fun nl4 hnl => ?_) | ((fail_if_success (have := nl5)); refine wN fun nl5 hnl => ?_) | refine wN fun _ hnl => ?_); revert hnl; (repeat refine wS fun _ _ => ?_); intro hnl) | refine wD (by decide +kernel) ?_ | refine wI (fun h => ?_) fun h => ?_ | refine wF (fun h => ?_) fun h => ?_ | refine wG (fun h => ?_) fun h => ?_ | refine wH (fun h => ?_) fun h => ?_ | ((first | refine mfork_bool (fun h => ?_) fun h => ?_ | refine mgfork_bool (fun h => ?_) fun h => ?_) <;> simp only [h])) | simp (maxSteps := 4000000) (disch := first | decide | assumption | omega | (simp only [wL]; omega)) only [go_sem, simprocAttr, Tryz.f171, getD_mapd nd0])
  refine mloop_intro (α := Nat × Nat × List (List MV)) (fun a => ⟨44, [(7, .int .i64 (a.1 : Int)), (6, .int .i64 ((1 + ((t.kids.take a.1).map T.fl).flatten.length : Nat) : Int)), (5, .vec 1 a.2.1 0 a.1), (0, .lst 5 (t.fl.map ND.c) tt), (1, .int .i64 0)], []⟩)
    (fun a => St.none.set a.2.1 (.row 30 1 ((t.kl.take a.1) ++ a.2.2))) (fun a => a.1 ≤ t.kids.length) (fun a => t.kids.length - a.1) ?_ ?_
  · refine .of (.less ?_ (St.le_refl _)) ⟨(0, nl1, []), rfl, rfl, Nat.zero_le _⟩
    simp (maxSteps := 4000000) (disch := first | decide | assumption | omega | (simp only [wL]; omega)) only [go_sem, simprocAttr, weak_int, weak_same]
    all_goals first | exact ⟨rfl, rfl⟩ | rfl
  · rintro ⟨i, q, ex⟩ hi
    simp only at hi ⊢
    by_cases hlt : i < t.kids.length
    · obtain ⟨k1, k2, k3, k4, k5⟩ := kid_end h hlt
      have hm : min i t.kids.length = i := Nat.min_eq_left hi
      have e1 : List.map (fun k => [MV.lst 5 (List.map ND.c k.fl) false]) (t.kids.take (i + 1)) = List.map (fun k => [MV.lst 5 (List.map ND.c k.fl) false]) (t.kids.take i) ++ [[.lst 5 ((t.kids.getD i (.leaf nd0)).fl.map ND.c) false]] := by
        rw [List.take_succ_eq_append_getElem hlt, List.map_append, ← getD_of_lt (.leaf nd0) hlt]; rfl
      repeat' (first | (with_reducible refine use_pure (rparts_call _) ?_) | (with_reducible refine use_pure (rend_call _ (by omega) _ _) ?_) | (with_reducible first | (refine wT ?_; (first | ((fail_if_success (have := nl1)); refine wN fun nl1 hnl => ?_) | ((fail_if_success (have := nl2)); refine wN fun nl2 hnl => ?_) | ((fail_if_success (have := nl3)); refine wN fun nl3 hnl => ?_) | ((fail_if_success (have := nl4)); refine wN fun nl4 hnl => ?_) | ((fail_if_success (have := nl5)); refine wN fun nl5 hnl => ?_) | refine wN fun _ hnl => ?_); revert hnl; (repeat refine wS fun _ _ => ?_); intro hnl) | refine wD (by decide +kernel) ?_ | refine wI (fun h => ?_) fun h => ?_ | refine wF (fun h => ?_) fun h => ?_ | refine wG (fun h => ?_) fun h => ?_ | refine wH (fun h => ?_) fun h => ?_ | ((first | refine mfork_bool (fun h => ?_) fun h => ?_ | refine mgfork_bool (fun h => ?_) fun h => ?_) <;> simp only [h])) | simp (maxSteps := 4000000) (disch := first | decide | assumption | omega | (simp only [wL]; omega)) only [go_sem, simprocAttr, getD_mapd nd0, hf0, k1, k2, hm])
      · have hex : ex = [] := List.eq_nil_of_length_eq_zero (by omega)
        subst hex
        refine .of (Ghost.nest (t := 30) (t1 := 115) (e1 := 5) (ys := (t.kids.getD i (.leaf nd0)).fl.map ND.c) (n1 := (t.kids.getD i (.leaf nd0)).fl.length) (q := nl5) (m := nl3) (pre := List.map (fun k => [MV.lst 5 (List.map ND.c k.fl) false]) (t.kids.take i)) (post := []) St.none (by first | (simp (maxSteps := 4000000) (disch := first | decide | assumption | omega | (simp only [wL]; omega)) only [go_sem, simprocAttr]; done) | (simp (maxSteps := 4000000) (disch := first | decide | assumption | omega | (simp only [wL]; omega)) only [go_sem, simprocAttr]; rfl)) ((set_hit _ _ _).trans ?_) (by rw [List.length_map]) (St.none_le _) rfl (by assumption) ?_) ⟨(i + 1, nl5, []), rfl, ?_, by simp only; omega, by simp only; omega⟩
        · rw [List.append_nil]
        · simp (maxSteps := 4000000) (disch := first | decide | assumption | omega | (simp only [wL]; omega)) only [go_sem, simprocAttr, weak_int, weak_same]
          all_goals rfl
        · simp only
          rw [e1, List.append_nil]
      · refine .of (Ghost.nest (t := 30) (t1 := 115) (e1 := 5) (ys := (t.kids.getD i (.leaf nd0)).fl.map ND.c) (n1 := (t.kids.getD i (.leaf nd0)).fl.length) (q := nl5) (m := nl3) (pre := List.map (fun k => [MV.lst 5 (List.map ND.c k.fl) false]) (t.kids.take i)) (post := ex.drop 1) St.none (by first | (simp (maxSteps := 4000000) (disch := first | decide | assumption | omega | (simp only [wL]; omega)) only [go_sem, simprocAttr]; done) | (simp (maxSteps := 4000000) (disch := first | decide | assumption | omega | (simp only [wL]; omega)) only [go_sem, simprocAttr]; rfl)) ((set_hit _ _ _).trans ?_) (by rw [List.length_map]) (St.none_le _) rfl (by assumption) ?_) ⟨(i + 1, nl5, ex.drop 1), rfl, ?_, by simp only; omega, by simp only; omega⟩
        · rw [app_flat' (List.map (fun k => [MV.lst 5 (List.map ND.c (T.fl k)) false]) (t.kids.take i)) ex [[MV.vec 5 nl3 0 (t.kids.getD i (T.leaf nd0)).fl.length]] i 1 (by rw [List.length_map, List.length_take]; omega) rfl, List.append_assoc]
          rfl
        · simp (maxSteps := 4000000) (disch := first | decide | assumption | omega | (simp only [wL]; omega)) only [go_sem, simprocAttr, weak_int, weak_same]
          all_goals rfl
        · simp only
          rw [e1, List.append_assoc]
          rfl
    · have : i = t.kids.length := by omega
      subst this
      repeat' (first | (with_reducible refine use_pure (rparts_call _) ?_) | (with_reducible first | (refine wT ?_; (first | ((fail_if_success (have := nl1)); refine wN fun nl1 hnl => ?_) | ((fail_if_success (have := nl2)); refine wN fun nl2 hnl => ?_) | ((fail_if_success (have := nl3)); refine wN fun nl3 hnl => ?_) | ((fail_if_success (have := nl4)); refine wN fun nl4 hnl => ?_) | ((fail_if_success (have := nl5)); refine wN fun nl5 hnl => ?_) | refine wN fun _ hnl => ?_); revert hnl; (repeat refine wS fun _ _ => ?_); intro hnl) | refine wD (by decide +kernel) ?_ | refine wI (fun h => ?_) fun h => ?_ | refine wF (fun h => ?_) fun h => ?_ | refine wG (fun h => ?_) fun h => ?_ | refine wH (fun h => ?_) fun h => ?_ | ((first | refine mfork_bool (fun h => ?_) fun h => ?_ | refine mgfork_bool (fun h => ?_) fun h => ?_) <;> simp only [h])) | simp (maxSteps := 4000000) (disch := first | decide | assumption | omega | (simp only [wL]; omega)) only [go_sem, simprocAttr, getD_mapd nd0, hf0, List.take_length])
      have hv := View.vec (σ := St.none.set q (.row 30 1 (t.kl ++ ex))) (l := q) (lo := 0) (n := t.kids.length) (set_hit _ _ _) (by rw [List.length_append, List.length_map]; omega)
      have e : ((t.kl ++ ex).drop 0).take t.kids.length = t.kl := by
        rw [List.drop_zero, List.take_append_of_le_length (by rw [List.length_map]; omega), List.take_of_length_le (by rw [List.length_map]; omega)]
      rw [e] at hv
      exact hv
end Go.Proofs.YtfbodefnblpflaaGreatDoor
end

section
/- Contracts of the document's filters: checks, bytes, reader: the conditions that the theorems name. -/
set_option linter.unusedVariables false
set_option linter.unusedSimpArgs false
namespace Go.Proofs.YtfbodefnblpflaaGreatDoor
set_option maxRecDepth 100000
def deepest (l : List T) : Nat := l.foldl (fun d t => max d t.depth) 0
theorem T.depth_kids (t : T) : t.depth = deepest t.kids + 1 := by
  cases t <;> simp only [T.depth, T.kids, deepest, List.foldl_nil, List.foldl_cons] <;> omega
theorem deepest_snoc (l : List T) (t : T) : deepest (l ++ [t]) = max (deepest l) t.depth := by simp [deepest]
theorem T.depth_le : ∀ t : T, t.depth ≤ t.fl.length
  | .leaf _ => by simp [T.depth, T.fl]
  | .one _ a => by have := T.depth_le a; simp only [T.depth, T.fl, List.length_cons]; omega
  | .two _ a b => by have := T.depth_le a; have := T.depth_le b; simp only [T.depth, T.fl, List.length_cons, List.length_append]; omega
theorem kid_small {t k : T} (h : k ∈ t.kids) : k.fl.length < t.fl.length := by
  cases t <;> simp only [T.kids, List.mem_cons, List.not_mem_nil, or_false] at h
  · subst h; simp only [T.fl, List.length_cons]; omega
  · rcases h with rfl | rfl <;> simp only [T.fl, List.length_cons, List.length_append] <;> omega
theorem kid_ok {t k : T} (ht : t.ok) (h : k ∈ t.kids) : k.ok := by
  cases t <;> simp only [T.kids, List.mem_cons, List.not_mem_nil, or_false] at h
  · subst h; exact ht.2
  · rcases h with rfl | rfl
    · exact ht.2.1
    · exact ht.2.2
theorem rdepth_tree : ∀ (n : Nat) (t : T), t.ok → endS t.fl 0 = (t.fl.length : Int) → t.fl.length ≤ n → n ≤ 1000 → ∀ tt : Bool, MCalls Tryz.prog 138 [.lst 5 (t.fl.map ND.c) tt] St.none (fun r _ => r = .int .i64 (t.depth : Int)) := by
  intro n
  induction n with
  | zero => intro t h _ hl; have := t.fl_pos; omega
  | succ n ih =>
    intro t h he hl hn tt
    refine (MCalls.body 33 [.tmp 2] Tryz.func138 rfl rfl rfl rfl ?_)
    have hend := rend_call t.fl (by omega) tt 0
    rw [he] at hend
    have hk := rkids_call t h (by omega) tt
    have hpos := t.fl_pos
    have hkl : t.kids.length ≤ 2 := by cases t <;> simp [T.kids]
    repeat' (first | (with_reducible first | refine up hend ?_ | refine up hk ?_) | (with_reducible first | (refine wT ?_; refine wN fun _ hnl => ?_; revert hnl; (repeat refine wS fun _ _ => ?_); intro hnl) | refine wD (by decide +kernel) ?_ | refine wI (fun h => ?_) fun h => ?_ | refine wF (fun h => ?_) fun h => ?_ | refine wG (fun h => ?_) fun h => ?_ | refine wH (fun h => ?_) fun h => ?_ | ((first | refine mfork_bool (fun h => ?_) fun h => ?_ | refine mgfork_bool (fun h => ?_) fun h => ?_) <;> simp only [h])) | simp (maxSteps := 4000000) (disch := first | decide | assumption | omega | (simp only [wL]; omega)) only [go_sem, simprocAttr, Tryz.f138])
    refine mloop_intro (α := Nat) (fun i => ⟨33, [(5, .int .i64 (i : Int)), (4, .int .i64 (deepest (t.kids.take i) : Int)), (3, .lst 1 t.kl false)], []⟩) (fun _ => St.none) (fun i => i ≤ t.kids.length) (fun i => t.kids.length - i) (.of (.less ?_ (St.le_refl _)) ⟨0, rfl, rfl, Nat.zero_le _⟩) ?_
    · simp (maxSteps := 4000000) (disch := first | decide | assumption | omega | (simp only [wL]; omega)) only [go_sem, simprocAttr, weak_int, weak_same]
      all_goals rfl
    · intro i hi
      have hi : i ≤ t.kids.length := hi
      by_cases hlt : i < t.kids.length
      · have hm := getD_mem (T.leaf nd0) hlt
        have hko := kid_ok h hm
        have hks := kid_small hm
        have hke : endS (t.kids.getD i (.leaf nd0)).fl 0 = ((t.kids.getD i (.leaf nd0)).fl.length : Int) := by
          have := endS_fl hko [] []
          simpa using this
        have hd := ih _ hko hke (by omega) (by omega) false
        have hdl := T.depth_le (t.kids.getD i (.leaf nd0))
        have hsn : deepest (t.kids.take (i + 1)) = max (deepest (t.kids.take i)) (t.kids.getD i (.leaf nd0)).depth := by
          rw [List.take_succ_eq_append_getElem hlt, ← getD_of_lt (.leaf nd0) hlt, deepest_snoc]
        repeat' (first | (with_reducible first | refine up hd ?_) | (with_reducible first | (refine wT ?_; refine wN fun _ hnl => ?_; revert hnl; (repeat refine wS fun _ _ => ?_); intro hnl) | refine wD (by decide +kernel) ?_ | refine wI (fun h => ?_) fun h => ?_ | refine wF (fun h => ?_) fun h => ?_ | refine wG (fun h => ?_) fun h => ?_ | refine wH (fun h => ?_) fun h => ?_ | ((first | refine mfork_bool (fun h => ?_) fun h => ?_ | refine mgfork_bool (fun h => ?_) fun h => ?_) <;> simp only [h])) | simp (maxSteps := 4000000) (disch := first | decide | assumption | omega | (simp only [wL]; omega)) only [go_sem, simprocAttr, getD_mapd (T.leaf nd0)])
        refine .of (.less (l1 := [(5, .int .i64 ((i + 1 : Nat) : Int)), (4, .int .i64 (deepest (t.kids.take (i + 1)) : Int)), (3, .lst 1 t.kl false)]) ?_ (St.le_refl _)) ⟨i + 1, rfl, rfl, by omega, by omega⟩
        rw [hsn]
        simp (maxSteps := 4000000) (disch := first | decide | assumption | omega | (simp only [wL]; omega)) only [go_sem, simprocAttr, weak_int, weak_same]
        all_goals omega
      · have : i = t.kids.length := by omega
        subst this
        have hdk := t.depth_kids
        have hdl := t.depth_le
        rw [List.take_length]
        repeat' (first | (with_reducible first | (refine wT ?_; refine wN fun _ hnl => ?_; revert hnl; (repeat refine wS fun _ _ => ?_); intro hnl) | refine wD (by decide +kernel) ?_ | refine wI (fun h => ?_) fun h => ?_ | refine wF (fun h => ?_) fun h => ?_ | refine wG (fun h => ?_) fun h => ?_ | refine wH (fun h => ?_) fun h => ?_ | ((first | refine mfork_bool (fun h => ?_) fun h => ?_ | refine mgfork_bool (fun h => ?_) fun h => ?_) <;> simp only [h])) | simp (maxSteps := 4000000) (disch := first | decide | assumption | omega | (simp only [wL]; omega)) only [go_sem, simprocAttr])
        all_goals (first | rfl | (congr 1; omega) | omega)
theorem rdepth_call (l : List ND) (hl : l.length ≤ 1000) (tt : Bool) : MCalls Tryz.prog 138 [.lst 5 (l.map ND.c) tt] St.none (fun r _ => r = .int .i64 (depthS l : Int)) := by
  by_cases h : l = [] ∨ endS l 0 ≠ l.length
  · have e : depthS l = 0 := by unfold depthS; rw [if_pos h]
    rw [e]
    refine (MCalls.body 33 [.tmp 2] Tryz.func138 rfl rfl rfl rfl ?_)
    have hend := rend_call l (by omega) tt 0
    rcases h with rfl | h
    · repeat' (first | (with_reducible first | refine up hend ?_) | (with_reducible first | (refine wT ?_; refine wN fun _ hnl => ?_; revert hnl; (repeat refine wS fun _ _ => ?_); intro hnl) | refine wD (by decide +kernel) ?_ | refine wI (fun h => ?_) fun h => ?_ | refine wF (fun h => ?_) fun h => ?_ | refine wG (fun h => ?_) fun h => ?_ | refine wH (fun h => ?_) fun h => ?_ | ((first | refine mfork_bool (fun h => ?_) fun h => ?_ | refine mgfork_bool (fun h => ?_) fun h => ?_) <;> simp only [h])) | simp (maxSteps := 4000000) (disch := first | decide | assumption | omega | (simp only [wL]; omega)) only [go_sem, simprocAttr, Tryz.f138])
      all_goals rfl
    · repeat' (first | (with_reducible first | refine up hend ?_) | (with_reducible first | (refine wT ?_; refine wN fun _ hnl => ?_; revert hnl; (repeat refine wS fun _ _ => ?_); intro hnl) | refine wD (by decide +kernel) ?_ | refine wI (fun h => ?_) fun h => ?_ | refine wF (fun h => ?_) fun h => ?_ | refine wG (fun h => ?_) fun h => ?_ | refine wH (fun h => ?_) fun h => ?_ | ((first | refine mfork_bool (fun h => ?_) fun h => ?_ | refine mgfork_bool (fun h => ?_) fun h => ?_) <;> simp only [h])) | simp (maxSteps := 4000000) (disch := first | decide | assumption | omega | (simp only [wL]; omega)) only [go_sem, simprocAttr, Tryz.f138])
      all_goals rfl
  · have h2 : endS l 0 = l.length := Classical.not_not.1 fun h3 => h (.inr h3)
    obtain ⟨t, ht, rfl⟩ := parse h2
    rw [depth_tree ht h2]
    exact rdepth_tree _ t ht h2 hl (Nat.le_refl _) tt
theorem rpcheck_call (l : List ND) (tt : Bool) : MCalls Tryz.prog 81 [.lst 5 (l.map ND.c) tt] St.none (fun r _ => r = .int .i64 (predErr l)) := by
  refine (MCalls.body 32 [.tmp 2] Tryz.func81 rfl rfl rfl rfl ?_)
  unfold predErr
  by_cases h31 : 31 < l.length
  · rw [if_pos h31]
    repeat' (first | (with_reducible first | (refine wT ?_; refine wN fun _ hnl => ?_; revert hnl; (repeat refine wS fun _ _ => ?_); intro hnl) | refine wD (by decide +kernel) ?_ | refine wI (fun h => ?_) fun h => ?_ | refine wF (fun h => ?_) fun h => ?_ | refine wG (fun h => ?_) fun h => ?_ | refine wH (fun h => ?_) fun h => ?_ | ((first | refine mfork_bool (fun h => ?_) fun h => ?_ | refine mgfork_bool (fun h => ?_) fun h => ?_) <;> simp only [h])) | simp (maxSteps := 4000000) (disch := first | decide | assumption | omega | (simp only [wL]; omega)) only [go_sem, simprocAttr, Tryz.f81])
    all_goals rfl
  · rw [if_neg h31]
    have hend := rend_call l (by omega) tt 0
    have hd := rdepth_call l (by omega) tt
    repeat' (first | (with_reducible first | (refine wT ?_; refine wN fun _ hnl => ?_; revert hnl; (repeat refine wS fun _ _ => ?_); intro hnl) | refine wD (by decide +kernel) ?_ | refine wI (fun h => ?_) fun h => ?_ | refine wF (fun h => ?_) fun h => ?_ | refine wG (fun h => ?_) fun h => ?_ | refine wH (fun h => ?_) fun h => ?_ | ((first | refine mfork_bool (fun h => ?_) fun h => ?_ | refine mgfork_bool (fun h => ?_) fun h => ?_) <;> simp only [h])) | simp (maxSteps := 4000000) (disch := first | decide | assumption | omega | (simp only [wL]; omega)) only [go_sem, simprocAttr, Tryz.f81])
    refine mloop_intro (α := Nat) (fun i => ⟨32, [(3, .int .i64 (i : Int)), (0, .lst 5 (l.map ND.c) tt)], []⟩) (fun _ => St.none) (fun i => i ≤ l.length ∧ (l.take i).all ndOk = true) (fun i => l.length - i) (.of (.less ?_ (St.le_refl _)) ⟨0, rfl, rfl, Nat.zero_le _, rfl⟩) ?_
    · simp (maxSteps := 4000000) (disch := first | decide | assumption | omega | (simp only [wL]; omega)) only [go_sem, simprocAttr, weak_int, weak_same]
      all_goals rfl
    · rintro i ⟨hi, hq⟩
      by_cases hlt : i < l.length
      · have hn := rnode_call (l.getD i nd0)
        cases hok : ndOk (l.getD i nd0) <;> rw [hok] at hn
        · repeat' (first | (with_reducible first | refine up hn ?_) | (with_reducible first | (refine wT ?_; refine wN fun _ hnl => ?_; revert hnl; (repeat refine wS fun _ _ => ?_); intro hnl) | refine wD (by decide +kernel) ?_ | refine wI (fun h => ?_) fun h => ?_ | refine wF (fun h => ?_) fun h => ?_ | refine wG (fun h => ?_) fun h => ?_ | refine wH (fun h => ?_) fun h => ?_ | ((first | refine mfork_bool (fun h => ?_) fun h => ?_ | refine mgfork_bool (fun h => ?_) fun h => ?_) <;> simp only [h])) | simp (maxSteps := 4000000) (disch := first | decide | assumption | omega | (simp only [wL]; omega)) only [go_sem, simprocAttr, getD_mapd nd0])
          rw [if_pos]
          refine .inr (.inr ?_)
          cases hb : l.all ndOk
          · rfl
          · have := List.all_eq_true.1 hb _ (getD_mem nd0 hlt)
            rw [hok] at this; cases this
        · repeat' (first | (with_reducible first | refine up hn ?_) | (with_reducible first | (refine wT ?_; refine wN fun _ hnl => ?_; revert hnl; (repeat refine wS fun _ _ => ?_); intro hnl) | refine wD (by decide +kernel) ?_ | refine wI (fun h => ?_) fun h => ?_ | refine wF (fun h => ?_) fun h => ?_ | refine wG (fun h => ?_) fun h => ?_ | refine wH (fun h => ?_) fun h => ?_ | ((first | refine mfork_bool (fun h => ?_) fun h => ?_ | refine mgfork_bool (fun h => ?_) fun h => ?_) <;> simp only [h])) | simp (maxSteps := 4000000) (disch := first | decide | assumption | omega | (simp only [wL]; omega)) only [go_sem, simprocAttr, getD_mapd nd0])
          refine .of (.less ?_ (St.le_refl _)) ⟨i + 1, rfl, rfl, ⟨by omega, by rw [all_take_succ hlt, hq, ← getD_of_lt nd0 hlt, hok]; rfl⟩, by omega⟩
          simp (maxSteps := 4000000) (disch := first | decide | assumption | omega | (simp only [wL]; omega)) only [go_sem, simprocAttr, weak_int, weak_same]
          all_goals rfl
      · have : i = l.length := by omega
        subst this
        rw [List.take_length] at hq
        rw [hq]
        by_cases he : l = [] ∨ endS l 0 ≠ l.length
        · rw [if_pos (by rcases he with h | h; exact .inl h; exact .inr (.inl h))]
          rcases he with rfl | he
          · repeat' (first | (with_reducible first | refine up hend ?_) | (with_reducible first | (refine wT ?_; refine wN fun _ hnl => ?_; revert hnl; (repeat refine wS fun _ _ => ?_); intro hnl) | refine wD (by decide +kernel) ?_ | refine wI (fun h => ?_) fun h => ?_ | refine wF (fun h => ?_) fun h => ?_ | refine wG (fun h => ?_) fun h => ?_ | refine wH (fun h => ?_) fun h => ?_ | ((first | refine mfork_bool (fun h => ?_) fun h => ?_ | refine mgfork_bool (fun h => ?_) fun h => ?_) <;> simp only [h])) | simp (maxSteps := 4000000) (disch := first | decide | assumption | omega | (simp only [wL]; omega)) only [go_sem, simprocAttr])
            all_goals rfl
          · repeat' (first | (with_reducible first | refine up hend ?_) | (with_reducible first | (refine wT ?_; refine wN fun _ hnl => ?_; revert hnl; (repeat refine wS fun _ _ => ?_); intro hnl) | refine wD (by decide +kernel) ?_ | refine wI (fun h => ?_) fun h => ?_ | refine wF (fun h => ?_) fun h => ?_ | refine wG (fun h => ?_) fun h => ?_ | refine wH (fun h => ?_) fun h => ?_ | ((first | refine mfork_bool (fun h => ?_) fun h => ?_ | refine mgfork_bool (fun h => ?_) fun h => ?_) <;> simp only [h])) | simp (maxSteps := 4000000) (disch := first | decide | assumption | omega | (simp only [wL]; omega)) only [go_sem, simprocAttr])
            all_goals rfl
        · have he1 : 0 < l.length := by
            cases l with
            | nil => exact absurd (.inl rfl) he
            | cons x l => simp
          have he2 : endS l 0 = l.length := Classical.not_not.1 fun h3 => he (.inr h3)
          rw [he2] at hend
          rw [if_neg (by rintro (h | h | h); exact he (.inl h); exact he (.inr h); cases h)]
          repeat' (first | (with_reducible first | refine up hend ?_ | refine up hd ?_) | (with_reducible first | (refine wT ?_; refine wN fun _ hnl => ?_; revert hnl; (repeat refine wS fun _ _ => ?_); intro hnl) | refine wD (by decide +kernel) ?_ | refine wI (fun h => ?_) fun h => ?_ | refine wF (fun h => ?_) fun h => ?_ | refine wG (fun h => ?_) fun h => ?_ | refine wH (fun h => ?_) fun h => ?_ | ((first | refine mfork_bool (fun h => ?_) fun h => ?_ | refine mgfork_bool (fun h => ?_) fun h => ?_) <;> simp only [h])) | simp (maxSteps := 4000000) (disch := first | decide | assumption | omega | (simp only [wL]; omega)) only [go_sem, simprocAttr])
          all_goals (try simp only [Classical.not_not] at *)
          all_goals (first | (simp [*]; done) | (simp only []; (repeat' split) <;> (first | (simp_all; done) | omega | (exfalso; omega))) | skip)
          all_goals (first | (rw [if_pos (by omega)]; done) | (rw [if_neg (by omega)]; done))
theorem nodes_snoc {l : List ND} {i : Nat} (h : i < l.length) : ((l.take (i + 1)).map nodeB).flatten = ((l.take i).map nodeB).flatten ++ nodeB (l.getD i nd0) := by
  rw [List.take_succ_eq_append_getElem h, List.map_append, List.flatten_append, ← getD_of_lt nd0 h]; simp
theorem rputpred_call (l : List ND) (tt : Bool) (hok : predErr l = 0) : MCalls Tryz.prog 72 [.lst 5 (l.map ND.c) tt] St.none (fun r _ => r = .str (bsS (predB l))) := by
  refine MCalls.drops (MCalls.body 54 [.tmp 2] Tryz.func72 rfl rfl rfl rfl ?_)
  have hc := rpcheck_call l tt
  rw [hok] at hc
  have hl31 := ((predErr_iff l).1 hok).1
  have hn := rnum_call (l.length : Int)
  have hnl := numB_len (l.length : Int)
  unfold predB
  rw [if_pos hok]
  repeat' (first | (with_reducible first | refine up hc ?_ | refine up hn ?_) | (with_reducible first | (refine wT ?_; refine wN fun _ hnl => ?_; revert hnl; (repeat refine wS fun _ _ => ?_); intro hnl) | refine wD (by decide +kernel) ?_ | refine wI (fun h => ?_) fun h => ?_ | refine wF (fun h => ?_) fun h => ?_ | refine wG (fun h => ?_) fun h => ?_ | refine wH (fun h => ?_) fun h => ?_ | ((first | refine mfork_bool (fun h => ?_) fun h => ?_ | refine mgfork_bool (fun h => ?_) fun h => ?_) <;> simp only [h])) | simp (maxSteps := 4000000) (disch := first | decide | assumption | omega | (simp only [wL]; omega)) only [go_sem, simprocAttr, Tryz.f72])
  refine mloop_intro (α := Nat) (fun i => ⟨54, [(4, .int .i64 (i : Int)), (3, .str (bsS (numB (l.length : Int) ++ ((l.take i).map nodeB).flatten))), (0, .lst 5 (l.map ND.c) tt)], []⟩) (fun _ => St.none) (fun i => i ≤ l.length) (fun i => l.length - i) (.of (.less ?_ (St.le_refl _)) ⟨0, rfl, rfl, Nat.zero_le _⟩) ?_
  · rw [List.take_zero, List.map_nil, List.flatten_nil, List.append_nil]
    simp (maxSteps := 4000000) (disch := first | decide | assumption | omega | (simp only [wL]; omega)) only [go_sem, simprocAttr, weak_int, weak_same]
    all_goals rfl
  · intro i hi
    have hi : i ≤ l.length := hi
    by_cases hlt : i < l.length
    · have hsn := nodes_snoc hlt
      have hpl := nodes_len (l.take i)
      rw [List.length_take, Nat.min_eq_left hi] at hpl
      obtain ⟨x, hx⟩ : ∃ x, l.getD i nd0 = x := ⟨_, rfl⟩
      rw [hx] at hsn
      obtain ⟨pre, hpre⟩ : ∃ pre, numB (l.length : Int) ++ ((l.take i).map nodeB).flatten = pre := ⟨_, rfl⟩
      have hprl : pre.length ≤ 3000 := by rw [← hpre, List.length_append]; omega
      have hn1 := rnum_call x.op
      have hn2 := rnum_call x.n
      have hv := rputval_call x.v
      have h1 := numB_len x.op
      have h2 := numB_len x.n
      have h3 := (inferInstance : LB (valB x.v) 36).h
      rw [hpre]
      have e : numB (l.length : Int) ++ ((l.take (i + 1)).map nodeB).flatten = pre ++ numB x.op ++ (if opN x.op = true then numB x.n else []) ++ (if opV x.op = true then valB x.v else []) := by
        rw [hsn, ← List.append_assoc, hpre, nodeB]; simp only [List.append_assoc]
      have e3 : opN x.op = decide (3 ≤ x.op ∧ x.op ≤ 9) := rfl
      have e6 : opV x.op = decide (6 ≤ x.op ∧ x.op ≤ 9) := rfl
      rw [e3, e6] at e
      clear hpre hsn hpl e3 e6
      repeat' (first | (with_reducible first | refine up hn1 ?_ | refine up hn2 ?_ | refine up hv ?_) | (with_reducible first | (refine wT ?_; refine wN fun _ hnl => ?_; revert hnl; (repeat refine wS fun _ _ => ?_); intro hnl) | refine wD (by decide +kernel) ?_ | refine wI (fun h => ?_) fun h => ?_ | refine wF (fun h => ?_) fun h => ?_ | refine wG (fun h => ?_) fun h => ?_ | refine wH (fun h => ?_) fun h => ?_ | ((first | refine mfork_bool (fun h => ?_) fun h => ?_ | refine mgfork_bool (fun h => ?_) fun h => ?_) <;> simp only [h])) | simp (maxSteps := 4000000) (disch := first | decide | assumption | omega | (simp only [wL]; omega)) only [go_sem, simprocAttr, getD_mapd nd0, hx, bsS_append, bsS_size])
      all_goals
        refine .of (.less (l1 := [(4, .int .i64 ((i + 1 : Nat) : Int)), (3, .str (bsS (numB (l.length : Int) ++ ((l.take (i + 1)).map nodeB).flatten))), (0, .lst 5 (l.map ND.c) tt)]) ?_ (St.none_le _)) ⟨i + 1, rfl, rfl, by omega, by omega⟩
        rw [e]
        first | rw [if_pos (by simp only [decide_eq_true_eq]; omega)] | rw [if_neg (by simp only [decide_eq_true_eq]; omega)]
        first | rw [if_pos (by simp only [decide_eq_true_eq]; omega)] | rw [if_neg (by simp only [decide_eq_true_eq]; omega)] | skip
        try simp only [List.append_nil]
        simp (maxSteps := 4000000) (disch := first | decide | assumption | omega | (simp only [wL]; omega)) only [go_sem, simprocAttr, weak_int, weak_same]
        all_goals rfl
    · have : i = l.length := by omega
      subst this
      rw [List.take_length]
      repeat' (first | (with_reducible first | (refine wT ?_; refine wN fun _ hnl => ?_; revert hnl; (repeat refine wS fun _ _ => ?_); intro hnl) | refine wD (by decide +kernel) ?_ | refine wI (fun h => ?_) fun h => ?_ | refine wF (fun h => ?_) fun h => ?_ | refine wG (fun h => ?_) fun h => ?_ | refine wH (fun h => ?_) fun h => ?_ | ((first | refine mfork_bool (fun h => ?_) fun h => ?_ | refine mgfork_bool (fun h => ?_) fun h => ?_) <;> simp only [h])) | simp (maxSteps := 4000000) (disch := first | decide | assumption | omega | (simp only [wL]; omega)) only [go_sem, simprocAttr])
      all_goals first | exact ⟨_, St.le_refl _, rfl⟩ | exact ⟨_, St.le_refl _⟩
end Go.Proofs.YtfbodefnblpflaaGreatDoor
end

section
/- Contracts of the document's answers: the conditions that the theorems name. -/
set_option linter.unusedVariables false
set_option linter.unusedSimpArgs false
namespace Go.Proofs.YtfbodefnblpflaaGreatDoor
set_option maxRecDepth 100000
set_option maxHeartbeats 4000000
theorem rrcheck_call (a : RE) : MCalls Tryz.prog 34 [.agg a.c] St.none (fun r _ => r = .bool (repOk a)) := by
  refine MCalls.drops (MCalls.body 145 [.tmp 2] Tryz.func34 rfl rfl rfl rfl ?_)
  have hp := rpcheck_call a.fl false
  have hm := rmcheck_call a.mask
  have hmt := a.mask.toNat_lt
  obtain ⟨res, hres⟩ : ∃ b, repOk a = b := ⟨_, rfl⟩
  have e : Unit → repOk a = res := fun _ => hres
  simp only [repOk, big, idMax, u32_zero, ← List.length_eq_zero_iff, ite_imp] at e
  rw [hres]
  clear hres
  repeat' (first | (with_reducible first | refine up hp ?_ | refine up hm ?_) | (with_reducible first | (refine wT ?_; refine wN fun _ hnl => ?_; revert hnl; (repeat refine wS fun _ _ => ?_); intro hnl) | refine wD (by decide +kernel) ?_ | refine wI (fun h => ?_) fun h => ?_ | refine wF (fun h => ?_) fun h => ?_ | refine wG (fun h => ?_) fun h => ?_ | refine wH (fun h => ?_) fun h => ?_ | ((first | refine mfork_bool (fun h => ?_) fun h => ?_ | refine mgfork_bool (fun h => ?_) fun h => ?_) <;> simp only [h])) | simp (maxSteps := 4000000) (disch := first | decide | assumption | omega | (simp only [wL]; omega)) only [go_sem, simprocAttr, Tryz.f34])
  all_goals (first | refine ⟨_, St.le_refl _, ?_⟩ | skip)
  all_goals rw [← e ()]
  all_goals clear e hp hm
  all_goals (first | (exact (decide_eq_false (by omega)).symm) | (exact decide_eq_decide.mpr (by omega)) | (exact (decide_eq_true (by omega)).symm) | skip)
end Go.Proofs.YtfbodefnblpflaaGreatDoor
end
