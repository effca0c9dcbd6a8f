/- Parts of the proof, joined: each part says what it proves, and under which conditions. -/
import Derived.Test.YtfbodefnblpflaaGreatDoorMab
section
/- The logic as a program for simp: what an operation, a region, a body comes to. -/
set_option linter.unusedVariables false
set_option linter.unusedSimpArgs false
namespace Go.Proofs.YtfbodefnblpflaaGreatDoor
/-- To be looked at: simp strikes the sign off, and so sees that something has turned. -/
def E {α : Sort _} (x : α) : α := x
theorem E_eq {α : Sort _} (x : α) : E x = x := rfl
/-- Where the walk stands: the rules work under this sign alone, not in what is to come. -/
def R (p : Prop) : Prop := p
theorem R_true : R True = True := rfl
theorem R_eq {α : Sort _} {a b : α} : R (a = b) = (a = b) := rfl
theorem R_and {a b : Prop} : R (a ∧ b) = (R a ∧ R b) := rfl
theorem R_ex {α : Sort _} {p : α → Prop} : R (∃ x, p x) = ∃ x, R (p x) := rfl
theorem R_not {p : Prop} : R (¬ p) = ¬ p := rfl
theorem R_or {a b : Prop} : R (a ∨ b) = (R a ∨ R b) := rfl
theorem R_of {p : Prop} (h : p) : R p := h
/-! ## Places where simp stands still -/
/-- A new place. -/
def mnew (σ : St) (K : Nat → Prop) : Prop := ∀ l, σ l = none → K l
/-- Two ways. -/
def mfork (x : MV) (A B : Prop) : Prop := match x with
  | .bool b => (b = true → A) ∧ (b = false → B)
  | _ => False
/-- A condition that is owed. -/
def owes (C : Prop) (A : Prop) : Prop := C ∧ A
theorem mfork_true (A B : Prop) : R (mfork (.bool true) A B) = R A := by simp [mfork]
theorem mfork_false (A B : Prop) : R (mfork (.bool false) A B) = R B := by simp [mfork]
theorem mfork_yes {p : Prop} [Decidable p] {A B : Prop} (h : p) : R (mfork (.bool (decide p)) A B) = R A := by simp [mfork, h]
theorem mfork_no {p : Prop} [Decidable p] {A B : Prop} (h : ¬ p) : R (mfork (.bool (decide p)) A B) = R B := by simp [mfork, h]
theorem mfork_dec {p : Prop} [Decidable p] {A B : Prop} (h1 : p → R A) (h2 : ¬ p → R B) : R (mfork (.bool (decide p)) A B) := by
  simp only [R, mfork, decide_eq_true_eq, decide_eq_false_iff_not]; exact ⟨h1, h2⟩
theorem mfork_bool {b : Bool} {A B : Prop} (h1 : b = true → R A) (h2 : b = false → R B) : R (mfork (.bool b) A B) := ⟨h1, h2⟩
theorem owes_intro {C A : Prop} (h : C) (a : R A) : R (owes C A) := ⟨h, a⟩
/-! ## Bodies -/
/-- A region whose order is drawn. -/
def mdraw (P : Program) (id : Nat) (ops : List Oper) (f : FR) (σ : St) (Q : MQ) : Prop := mwp P (.region id ops.toArray true) f σ Q
def mloop (P : Program) (c : Code) (f : FR) (σ : St) (Q : MQ) : Prop := mwp P (.loop c) f σ Q
def mrest (P : Program) (c : Code) (f : FR) (σ : St) (Q : MQ) : Prop := mwp P c f σ Q
def mcode (P : Program) : Code → FR → St → MQ → Prop
  | .skip, f, σ, Q => Q .normal f σ
  | .seq a b, f, σ, Q => mcode P a f σ (thenQ (fun f' σ' => mcode P b f' σ' Q) Q)
  | .cond c a b, f, σ, Q => mfork (mval f c) (mcode P a f σ Q) (mcode P b f σ Q)
  | .block id b, f, σ, Q => mcode P b f σ (blockQ id Q)
  | .scope b, f, σ, Q => mcode P b f σ (scopeQ Q)
  | .label _, f, σ, Q => Q .normal f σ
  | .ret, f, σ, Q => Q .ret f σ
  | .exit id, f, σ, Q => Q (.exit id) f σ
  | .region id ops true, f, σ, Q => mdraw P id ops.toList f σ Q
  | .region _ ops false, f, σ, Q => mops P ops (Q .normal) ops.toList f σ
  | .loop b, f, σ, Q => mloop P b f σ Q
  | c, f, σ, Q => mrest P c f σ Q
theorem mcode_sound {P : Program} : ∀ (c : Code) (f : FR) (σ : St) (Q : MQ), mcode P c f σ Q → mwp P c f σ Q := by
  intro c
  induction c with
  | skip => intro f σ Q h; exact mwp_skip h
  | region id ops draw => intro f σ Q h; cases draw with
    | true => exact h
    | false => exact mwp_region h
  | seq a b iha ihb =>
    intro f σ Q h
    refine mwp_seq (mwp_mono (iha f σ _ h) fun e f' σ' hq => ?_)
    cases e with
    | normal => exact ihb f' σ' Q hq
    | _ => exact hq
  | cond c a b iha ihb =>
    intro f σ Q h
    simp only [mcode, mfork] at h
    split at h
    · rename_i t ht
      exact mwp_cond ht (fun hh => iha f σ Q (h.1 hh)) (fun hh => ihb f σ Q (h.2 hh))
    · exact h.elim
  | block id b ih => intro f σ Q h; exact mwp_block (ih f σ _ h)
  | scope b ih => intro f σ Q h; exact mwp_scope (ih f σ _ h)
  | label l => intro f σ Q h; exact mwp_label h
  | loop b _ => intro f σ Q h; exact h
  | ret => intro f σ Q h; exact mwp_ret h
  | exit id => intro f σ Q h; exact mwp_exit h
  | _ => intro f σ Q h; exact h
/-- A function, by its body, for simp. -/
theorem MCalls.body {P : Program} {g : FuncId} {fn : Func} {c : Code} {ms : List MV} {σ : St} {Q : MV → St → Prop} (n : Nat) (rs : List ResultVar) (hf : P.funcs[g]? = some fn) (hb : fn.body = some c) (hn : (fn.name == "runtime.NumGoroutine") = false)
    (hn' : max fn.ntmps ms.length = n) (hrs : fn.results.toList = rs) (h : R (mcode P (@OfNat.ofNat Code (nat_lit 0) (@_root_.id (OfNat Code (nat_lit 0)) (OfNat.mk c))) ⟨n, args0 0 ms, []⟩ σ (retQ P rs Q))) : MCalls P g ms σ Q :=
  MCalls.of_body n rs hf hb hn hn' hrs (mcode_sound c _ σ _ h)
/-- A loop, for simp. -/
theorem mloop_intro {P : Program} {c : Code} {f : FR} {σ : St} {Q : MQ} {α : Type} (F : α → FR) (S : α → St) (p : α → Prop) (μ : α → Nat) (h0 : Gh f σ fun f1 σ1 => ∃ a, f1 = F a ∧ σ1 = S a ∧ p a)
    (round : ∀ a, p a → R (mcode P c (F a) (S a) (thenQ (fun f' σ' => Gh f' σ' fun f1 σ1 => ∃ b, f1 = F b ∧ σ1 = S b ∧ p b ∧ μ b < μ a) Q))) : R (mloop P c f σ Q) :=
  mwp_loop F S p μ h0 fun a ha => mcode_sound c _ _ _ (round a ha)
/-! ## Equations -/
section
variable {P : Program} {f : FR} {σ : St} {Q : MQ} {k : MV → St → Prop} {K : FR → St → Prop} {ops : Array Oper} {rest : List Oper}
theorem mcode_skip : R (mcode P .skip f σ Q) = R (Q .normal f σ) := rfl
theorem mcode_show {c : Code} : R (mcode P (@OfNat.ofNat Code (nat_lit 0) (@_root_.id (OfNat Code (nat_lit 0)) (OfNat.mk c))) f σ Q) = R (mcode P c f σ Q) := congrArg R rfl
theorem mcode_seq {a b : Code} : R (mcode P (.seq a b) f σ Q) = R (mcode P (@OfNat.ofNat Code (nat_lit 0) (@_root_.id (OfNat Code (nat_lit 0)) (OfNat.mk a))) f σ (thenQ (fun f' σ' => mcode P (@OfNat.ofNat Code (nat_lit 0) (@_root_.id (OfNat Code (nat_lit 0)) (OfNat.mk b))) f' σ' Q) Q)) := congrArg R rfl
theorem mcode_cond {c : Operand} {a b : Code} : R (mcode P (.cond c a b) f σ Q) = R (mfork (E (mval f c)) (mcode P (@OfNat.ofNat Code (nat_lit 0) (@_root_.id (OfNat Code (nat_lit 0)) (OfNat.mk a))) f σ Q) (mcode P (@OfNat.ofNat Code (nat_lit 0) (@_root_.id (OfNat Code (nat_lit 0)) (OfNat.mk b))) f σ Q)) := congrArg R rfl
theorem mcode_block {id : Nat} {b : Code} : R (mcode P (.block id b) f σ Q) = R (mcode P (@OfNat.ofNat Code (nat_lit 0) (@_root_.id (OfNat Code (nat_lit 0)) (OfNat.mk b))) f σ (blockQ id Q)) := congrArg R rfl
theorem mcode_scope {b : Code} : R (mcode P (.scope b) f σ Q) = R (mcode P (@OfNat.ofNat Code (nat_lit 0) (@_root_.id (OfNat Code (nat_lit 0)) (OfNat.mk b))) f σ (scopeQ Q)) := congrArg R rfl
theorem mcode_label {l : Nat} : R (mcode P (.label l) f σ Q) = R (Q .normal f σ) := congrArg R rfl
theorem scopeQ_normal : R (scopeQ Q .normal f σ) = R (Q .normal f σ) := congrArg R rfl
theorem scopeQ_ret : R (scopeQ Q .ret f σ) = R (Q .ret f σ) := congrArg R rfl
theorem scopeQ_exit {id : Nat} : R (scopeQ Q (.exit id) f σ) = R (Q (.exit id) f σ) := congrArg R rfl
theorem mcode_ret : R (mcode P .ret f σ Q) = R (Q .ret f σ) := rfl
theorem mcode_exit {id : Nat} : R (mcode P (.exit id) f σ Q) = R (Q (.exit id) f σ) := congrArg R rfl
theorem mcode_draw {id : Nat} {l : List Oper} : R (mcode P (.region id l.toArray true) f σ Q) = R (mdraw P id (@OfNat.ofNat (List Oper) (nat_lit 0) (@_root_.id (OfNat (List Oper) (nat_lit 0)) (OfNat.mk l))) (E f) σ Q) := congrArg R rfl
theorem mcode_region {id : Nat} {l : List Oper} : R (mcode P (.region id l.toArray false) f σ Q) = R (mops P (@OfNat.ofNat (Array Oper) (nat_lit 0) (@_root_.id (OfNat (Array Oper) (nat_lit 0)) (OfNat.mk (l.toArray)))) (Q .normal) (@OfNat.ofNat (List Oper) (nat_lit 0) (@_root_.id (OfNat (List Oper) (nat_lit 0)) (OfNat.mk l))) f σ) := congrArg R rfl
theorem mops_show {l : List Oper} : R (mops P ops K (@OfNat.ofNat (List Oper) (nat_lit 0) (@_root_.id (OfNat (List Oper) (nat_lit 0)) (OfNat.mk l))) f σ) = R (mops P ops K l f σ) := congrArg R rfl
theorem mcode_loop {b : Code} : R (mcode P (.loop b) f σ Q) = R (mloop P (@OfNat.ofNat Code (nat_lit 0) (@_root_.id (OfNat Code (nat_lit 0)) (OfNat.mk b))) (E f) σ Q) := congrArg R rfl
theorem thenQ_normal {next : FR → St → Prop} : R (thenQ next Q .normal f σ) = R (next f σ) := congrArg R rfl
theorem thenQ_ret {next : FR → St → Prop} : R (thenQ next Q .ret f σ) = R (Q .ret f σ) := congrArg R rfl
theorem thenQ_exit {next : FR → St → Prop} {id : Nat} : R (thenQ next Q (.exit id) f σ) = R (Q (.exit id) f σ) := congrArg R rfl
theorem blockQ_normal {id : Nat} : R (blockQ id Q .normal f σ) = R (Q .normal f σ) := congrArg R rfl
theorem blockQ_ret {id : Nat} : R (blockQ id Q .ret f σ) = R (Q .ret f σ) := congrArg R rfl
theorem blockQ_hit {id : Nat} : R (blockQ id Q (.exit id) f σ) = R (Q .normal f σ) := by simp [blockQ]
theorem blockQ_miss {id id' : Nat} (h : id' ≠ id) : R (blockQ id Q (.exit id') f σ) = R (Q (.exit id') f σ) := by simp [blockQ, h]
theorem mops_nil : R (mops P ops K [] f σ) = R (K f σ) := rfl
theorem mops_cons {dst : Option Tmp} {op : Op} {ty : TypeId} {pos : String} {after : Array Edge} : R (mops P ops K (⟨dst, op, ty, pos, after, none⟩ :: rest) f σ) = R (mstep P f σ dst (mops P ops K (@OfNat.ofNat (List Oper) (nat_lit 0) (@_root_.id (OfNat (List Oper) (nat_lit 0)) (OfNat.mk rest)))) op) := congrArg R rfl
theorem mstep_go {dst : Option Tmp} {op : Op} (h : opPlain op = true) : R (mstep P f σ dst K op) = R (mop P f σ (fun v σ' => K (mput f dst v) σ') op) := by
  rw [mstep_of h]
def mdefv (f : FR) (x : MV) (args : List MV) (K : FR → Prop) : Prop := match x with
  | .fn (.func g) ms ns => K ⟨f.n, f.l, (g, ms ++ args ++ ns) :: f.d⟩
  | _ => False
theorem mstep_defer {dst : Option Tmp} {x : Operand} {args : Array Operand} {ts : Array TypeId} : R (mstep P f σ dst K (.defer ⟨.value x, args, ts⟩)) = R (mdefv f (E (mval f x)) (E (args.toList.map (mval f))) fun f' => K (mput f' dst .junk) σ) := congrArg R rfl
theorem mdefv_fn {n : Nat} {l : List (Nat × MV)} {d : List (FuncId × List MV)} {g : FuncId} {ms ns args : List MV} {H : FR → Prop} : R (mdefv ⟨n, l, d⟩ (.fn (.func g) ms ns) args H) = R (H ⟨n, l, (g, ms ++ args ++ ns) :: d⟩) := congrArg R rfl
def gdst : List Oper → Nat → Option Tmp
  | [], _ => none
  | o :: _, 0 => o.dst
  | _ :: r, n + 1 => gdst r n
theorem gdst_eq : ∀ (l : List Oper) (j : Nat), (l.toArray[j]?).bind (·.dst) = gdst l j := by
  intro l
  induction l with
  | nil => intro j; simp [gdst]
  | cons o r ih =>
    intro j
    cases j with
    | zero => simp [gdst]
    | succ j => simpa [gdst] using ih j
/-- The guard as it is known. -/
def mgfork (x : MV) (want : Bool) (yes no : Prop) : Prop := match x with
  | .bool b => (b = want → yes) ∧ (b = (!want) → no)
  | .tup [] => no
  | _ => False
theorem mgfork_skip (want : Bool) (A B : Prop) : R (mgfork (.tup []) want A B) = R (B) := congrArg R (by simp [mgfork])
theorem mgfork_tt (A B : Prop) : R (mgfork (.bool true) true A B) = R (A) := congrArg R (by simp [mgfork])
theorem mgfork_tf (A B : Prop) : R (mgfork (.bool true) false A B) = R (B) := congrArg R (by simp [mgfork])
theorem mgfork_ft (A B : Prop) : R (mgfork (.bool false) true A B) = R (B) := congrArg R (by simp [mgfork])
theorem mgfork_ff (A B : Prop) : R (mgfork (.bool false) false A B) = R (A) := congrArg R (by simp [mgfork])
theorem mgfork_bool {b want : Bool} {A B : Prop} (h1 : b = want → R A) (h2 : b = (!want) → R B) : R (mgfork (.bool b) want A B) := ⟨h1, h2⟩
theorem mgfork_dec {p : Prop} [Decidable p] {A B : Prop} (h1 : p → R A) (h2 : ¬ p → R B) : R (mgfork (.bool (decide p)) true A B) := by
  simp only [R, mgfork, decide_eq_true_eq, Bool.not_true, decide_eq_false_iff_not]; exact ⟨h1, h2⟩
theorem mgfork_dec' {p : Prop} [Decidable p] {A B : Prop} (h1 : ¬ p → R A) (h2 : p → R B) : R (mgfork (.bool (decide p)) false A B) := by
  simp only [R, mgfork, decide_eq_true_eq, Bool.not_false, decide_eq_false_iff_not]; exact ⟨h1, h2⟩
theorem mgfork_dy {p : Prop} [Decidable p] {A B : Prop} (h : p) : R (mgfork (.bool (decide p)) true A B) = R A := by simp [mgfork, h]
theorem mgfork_dn {p : Prop} [Decidable p] {A B : Prop} (h : ¬ p) : R (mgfork (.bool (decide p)) true A B) = R B := by simp [mgfork, h]
theorem mgfork_ey {p : Prop} [Decidable p] {A B : Prop} (h : ¬ p) : R (mgfork (.bool (decide p)) false A B) = R A := by simp [mgfork, h]
theorem mgfork_en {p : Prop} [Decidable p] {A B : Prop} (h : p) : R (mgfork (.bool (decide p)) false A B) = R B := by simp [mgfork, h]
def gval (f : FR) : Option Tmp → MV
  | some t => f.get t
  | none => .junk
theorem mops_guard {l : List Oper} {dst : Option Tmp} {op : Op} {ty : TypeId} {pos : String} {after : Array Edge} {j : Nat} {want : Bool} : R (mops P (@OfNat.ofNat (Array Oper) (nat_lit 0) (@_root_.id (OfNat (Array Oper) (nat_lit 0)) (OfNat.mk (l.toArray)))) K (⟨dst, op, ty, pos, after, some (j, want)⟩ :: rest) f σ) = R (mgfork (E (gval f (gdst (@OfNat.ofNat (List Oper) (nat_lit 0) (@_root_.id (OfNat (List Oper) (nat_lit 0)) (OfNat.mk l))) j))) want (mstep P f σ dst (mops P (@OfNat.ofNat (Array Oper) (nat_lit 0) (@_root_.id (OfNat (Array Oper) (nat_lit 0)) (OfNat.mk (l.toArray)))) K (@OfNat.ofNat (List Oper) (nat_lit 0) (@_root_.id (OfNat (List Oper) (nat_lit 0)) (OfNat.mk rest)))) op) (mops P (@OfNat.ofNat (Array Oper) (nat_lit 0) (@_root_.id (OfNat (Array Oper) (nat_lit 0)) (OfNat.mk (l.toArray)))) K (@OfNat.ofNat (List Oper) (nat_lit 0) (@_root_.id (OfNat (List Oper) (nat_lit 0)) (OfNat.mk rest))) (mput f dst (.tup [])) σ)) := congrArg R (by
  show mops P l.toArray K (⟨dst, op, ty, pos, after, some (j, want)⟩ :: rest) f σ = mgfork (gval f (gdst l j)) want (mstep P f σ dst (mops P l.toArray K rest) op) (mops P l.toArray K rest (mput f dst (.tup [])) σ)
  simp only [mops, mguard, gdst_eq]
  cases gdst l j <;> rfl)
theorem gval_some {t : Tmp} : gval f (some t) = f.get t := rfl
theorem gdst_show {l : List Oper} {j : Nat} : gdst (@OfNat.ofNat (List Oper) (nat_lit 0) (@_root_.id (OfNat (List Oper) (nat_lit 0)) (OfNat.mk l))) j = gdst l j := rfl
theorem gdst_zero {o : Oper} {r : List Oper} : gdst (o :: r) 0 = o.dst := rfl
theorem gdst_succ {o : Oper} {r : List Oper} {n : Nat} : gdst (o :: r) (n + 1) = gdst r n := rfl
theorem mput_some {n : Nat} {l : List (Nat × MV)} {d : Nat} {v : MV} {ds : List (FuncId × List MV)} (h : d < n) : mput ⟨n, l, ds⟩ (some d) v = ⟨n, (d, v) :: l, ds⟩ := by simp [mput, h]
theorem mput_none {v : MV} : mput f none v = f := rfl
theorem get_mk {n : Nat} {l : List (Nat × MV)} {t : Nat} {ds : List (FuncId × List MV)} : FR.get ⟨n, l, ds⟩ t = lget l t := rfl
theorem lget_nil {t : Nat} : lget [] t = .junk := rfl
theorem lget_hit {k : Nat} {v : MV} {r : List (Nat × MV)} : lget ((k, v) :: r) k = v := by simp [lget]
theorem lget_miss {k : Nat} {v : MV} {r : List (Nat × MV)} {t : Nat} (h : t ≠ k) : lget ((k, v) :: r) t = lget r t := by simp [lget, h]
theorem mval_tmp {n : Nat} {l : List (Nat × MV)} {t : Nat} {ds : List (FuncId × List MV)} : mval ⟨n, l, ds⟩ (.tmp t) = lget l t := rfl
theorem mval_const {v : Value} : mval f (.const v) = ofV v := rfl
theorem mval_func {g : FuncId} : mval f (.func g) = .fn (.func g) [] [] := rfl
theorem ofV_bool {b : Bool} : ofV (.bool b) = .bool b := rfl
theorem ofV_int {i : IntKind} {n : Int} : ofV (.int i n) = .int i n := rfl
theorem ofV_str {s : ByteArray} : ofV (.string s) = .str s := rfl
theorem ofV_nilp : ofV (.pointer none) = .nilp := rfl
theorem ofV_nils : ofV (.slice none 0 0) = .nils := rfl
theorem ofV_nilm : ofV (.map none) = .nilm := rfl
theorem ofV_nilfn : ofV .nilFunc = .nilfn := rfl
theorem ofV_nili : ofV .nilIface = .nili := rfl
/-- A value that is looked at before the walk goes on. -/
def mcallE (P : Program) (g : FuncId) (ms : List MV) (σ : St) (Q : MV → St → Prop) : Prop := MCalls P g ms σ Q
def mcallv (P : Program) (x : MV) (args : List MV) (σ : St) (k : MV → St → Prop) : Prop :=
  match x with
  | .fn (.func g) ms ns => MCalls P g (ms ++ args ++ ns) σ k
  | _ => False
theorem mcallv_fn {g : FuncId} {ms ns args : List MV} : R (mcallv P (.fn (.func g) ms ns) args σ k) = R (mcallE P g (E (ms ++ args ++ ns)) σ k) := congrArg R rfl
def mlet (v : MV) (σ : St) (k : MV → St → Prop) : Prop := k v σ
theorem mlet_go {v : MV} : R (mlet v σ k) = R (k v σ) := congrArg R rfl
theorem owes_true {A : Prop} : R (owes True A) = R (A) := congrArg R (by simp [owes])
theorem owes_go {C A : Prop} (h : C) : R (owes C A) = R A := by simp [owes, h]
theorem mpure_some {C : Prop} {v : MV} : R (mpure σ k (some (C, v))) = R (owes (E C) (mlet (E v) σ k)) := congrArg R rfl
/-! ### Reads and writes -/
def mloadAt (P : Program) (t : TypeId) (o : Option MObj) (i of : Nat) (σ : St) (k : MV → St → Prop) : Prop :=
  match o with
  | some (.row _ _ xs) => owes ((td P t).ok = true ∧ i < xs.length ∧ of + (td P t).size ≤ (xs.getD i []).length ∧ 0 < (td P t).size) (mlet (mpart (td P t) (xs.getD i []) of) σ k)
  | _ => False
theorem mload_ptr {t : TypeId} {l i o : Nat} : R (mload P t (.ptr l i o) σ k) = R (mloadAt P t (E (σ l)) i o σ k) := congrArg R rfl
theorem mload_cptr {t : TypeId} {cs : List MV} : R (mload P t (.cptr cs) σ k) = R (owes (E ((td P t).ok = true ∧ (td P t).size ≤ cs.length ∧ 0 < (td P t).size)) (mlet (E (mpart (td P t) cs 0)) σ k)) := congrArg R rfl
theorem mloadAt_row {t tt : TypeId} {e i o : Nat} {xs : List (List MV)} : R (mloadAt P t (some (.row tt e xs)) i o σ k) = R (owes (E ((td P t).ok = true ∧ i < xs.length ∧ o + (td P t).size ≤ (xs.getD i []).length ∧ 0 < (td P t).size)) (mlet (E (mpart (td P t) (xs.getD i []) o)) σ k)) := congrArg R rfl
def mstoreAt (P : Program) (t : TypeId) (o : Option MObj) (l i of : Nat) (y : MV) (σ : St) (k : MV → St → Prop) : Prop :=
  match o with
  | some (.row tt e xs) => owes ((td P t).ok = true ∧ i < xs.length ∧ y.cells.all MV.isCell = true ∧ y.cells.length = (td P t).size ∧ of + y.cells.length ≤ (xs.getD i []).length) (mlet .junk (σ.set l (.row tt e (xs.set i (laid (xs.getD i []) of y.cells)))) k)
  | _ => False
theorem mstore_ptr {t : TypeId} {l i o : Nat} {y : MV} : R (mstore P t (.ptr l i o) y σ k) = R (mstoreAt P t (E (σ l)) l i o y σ k) := congrArg R rfl
theorem mstoreAt_row {t tt : TypeId} {e l i o : Nat} {y : MV} {xs : List (List MV)} : R (mstoreAt P t (some (.row tt e xs)) l i o y σ k) = R (owes (E ((td P t).ok = true ∧ i < xs.length ∧ y.cells.all MV.isCell = true ∧ y.cells.length = (td P t).size ∧ o + y.cells.length ≤ (xs.getD i []).length)) (mlet (E .junk) (σ.set l (.row tt e (xs.set i (laid (xs.getD i []) o y.cells)))) k)) := congrArg R rfl
theorem none_apply (k : Nat) : St.none k = Option.none := rfl
theorem set_set (σ : St) (l : Nat) (o o' : MObj) : (σ.set l o).set l o' = σ.set l o' := by
  funext k; simp only [St.set]; split <;> rfl
theorem set_comm (σ : St) {l k : Nat} (o o' : MObj) (h : l ≠ k) : (σ.set l o).set k o' = (σ.set k o').set l o := by
  funext j; simp only [St.set]
  by_cases h1 : j = k
  · subst h1; simp [Ne.symm h]
  · simp [h1]
theorem del_set_other (σ : St) {l k : Nat} (o : MObj) (h : k ≠ l) : (σ.set k o).del l = (σ.del l).set k o := by
  funext j; simp only [St.set, St.del]
  by_cases h1 : j = l
  · subst h1; simp [Ne.symm h]
  · simp [h1]
theorem set_hit (σ : St) (l : Nat) (o : MObj) : (σ.set l o) l = some o := by simp [St.set]
theorem set_miss (σ : St) (l k : Nat) (o : MObj) (h : k ≠ l) : (σ.set l o) k = σ k := by simp [St.set, h]
theorem del_miss (σ : St) (l k : Nat) (h : k ≠ l) : (σ.del l) k = σ k := by simp [St.del, h]
theorem set_none (σ : St) (l k : Nat) (o : MObj) : (σ.set l o) k = none ↔ k ≠ l ∧ σ k = none := by
  simp only [St.set]; split <;> simp_all
/-! ### Operations -/
theorem mop_move {x : Operand} : R (mop P f σ k (.move x)) = R (mlet (E (mval f x)) σ k) := congrArg R (by simp [mop, qop, mpure, mlet, E])
theorem mop_assign {x : Operand} : R (mop P f σ k (.assign x)) = R (mlet (E (mval f x)) σ k) := congrArg R (by simp [mop, qop, mpure, mlet, E])
def qpick (c a b : MV) : PV := match c with
  | .bool t => some (True, if t = true then a else b)
  | _ => none
theorem mop_pick {c a b : Operand} : R (mop P f σ k (.pick c a b)) = R (mpure σ k (E (qpick (mval f c) (mval f a) (mval f b)))) := congrArg R rfl
theorem qpick_y {p : Prop} [Decidable p] {a b : MV} (h : p) : qpick (.bool (decide p)) a b = some (True, a) := by simp [qpick, h]
theorem qpick_n {p : Prop} [Decidable p] {a b : MV} (h : ¬ p) : qpick (.bool (decide p)) a b = some (True, b) := by simp [qpick, h]
theorem qpick_t {a b : MV} : qpick (.bool true) a b = some (True, a) := rfl
theorem qpick_f {a b : MV} : qpick (.bool false) a b = some (True, b) := rfl
theorem not_dec {p : Prop} [Decidable p] : (!decide p) = decide (¬ p) := by simp
theorem mfork_nn {p : Prop} [Decidable p] {A B : Prop} (h : p) : R (mfork (.bool (decide (¬ p))) A B) = R B := by simp [mfork, h]
def qnil (x : MV) : PV := match x with
  | .ptr l i o => some (True, .ptr l i o)
  | .cptr cs => some (True, .cptr cs)
  | _ => none
theorem mop_nilCheck {x : Operand} : R (mop P f σ k (.nilCheck x)) = R (mpure σ k (E (qnil (mval f x)))) := congrArg R rfl
theorem qnil_ptr {l i o : Nat} : qnil (.ptr l i o) = some (True, .ptr l i o) := rfl
theorem qnil_cptr {cs : List MV} : qnil (.cptr cs) = some (True, .cptr cs) := rfl
theorem mop_binOp {op : BinOp} {t yt : TypeId} {x y : Operand} : R (mop P f σ k (.binOp op t x y yt)) = R (mpure σ k (E (mbin P t op (mval f x) (mval f y)))) := congrArg R rfl
theorem mop_unOp {op : UnOp} {t : TypeId} {x : Operand} : R (mop P f σ k (.unOp op t x)) = R (mpure σ k (E (mun op (mval f x)))) := congrArg R rfl
theorem mop_convert {s d : TypeId} {x : Operand} : R (mop P f σ k (.convert s d x)) = R (mconvert P s d (E (mval f x)) σ k) := congrArg R rfl
theorem mop_makeFunc {fn : Fn} {a b : Array Operand} : R (mop P f σ k (.makeFunc fn a b)) = R (mlet (E (.fn fn (a.toList.map (mval f)) (b.toList.map (mval f)))) σ k) := congrArg R (by simp [mop, qop, mpure, mlet, E])
theorem mop_slice {t : TypeId} {x : Operand} {lo hi mx : Option Operand} : R (mop P f σ k (.slice t x lo hi mx)) = R (mpure σ k (E (mslice P t (mval f x) (lo.map (mval f)) (hi.map (mval f)) (mx.map (mval f))))) := congrArg R rfl
theorem mop_fieldAddr {t : TypeId} {x : Operand} {i : Nat} : R (mop P f σ k (.fieldAddr t x i)) = R (mpure σ k (E (mfieldAddr P t (mval f x) i))) := congrArg R rfl
theorem mop_field {t : TypeId} {x : Operand} {i : Nat} : R (mop P f σ k (.field t x i)) = R (mpure σ k (E (mfield P t (mval f x) i))) := congrArg R rfl
theorem mop_indexAddr {t : TypeId} {x : Tmp} {i : Operand} : R (mop P f σ k (.indexAddr t (.tmp x) i)) = R (mpure σ k (E (mindexAddr P t (mval f (.tmp x)) (mval f i)))) := congrArg R rfl
theorem mop_indexAddrG {t : TypeId} {g : Nat} {i : Operand} : R (mop P f σ k (.indexAddr t (.global g) i)) = R (mpure σ k (gidx P t g (E (mval f i)))) := congrArg R rfl
theorem mop_index {t : TypeId} {x i : Operand} : R (mop P f σ k (.index t x i)) = R (mpure σ k (E (mindex P t (mval f x) (mval f i)))) := congrArg R rfl
def qextract (x : MV) (i : Nat) : PV := match x with
  | .tup vs => match vs[i]? with | some v => some (True, v) | none => none
  | _ => none
theorem mop_extract {x : Operand} {i : Nat} : R (mop P f σ k (.extract x i)) = R (mpure σ k (E (qextract (mval f x) i))) := congrArg R rfl
theorem qextract_tup {vs : List MV} {i : Nat} : qextract (.tup vs) i = (vs[i]?).map fun v => (True, v) := by simp only [qextract]; cases vs[i]? <;> rfl
theorem mop_build {t : TypeId} {parts : Array (Nat × Operand)} : R (mop P f σ k (.build t parts)) = R (mpure σ k (E (mbuild P f t parts))) := congrArg R rfl
theorem mop_load {t : TypeId} {x : Operand} : R (mop P f σ k (.load t x)) = R (mload P t (E (mval f x)) σ k) := congrArg R rfl
theorem mop_store {t : TypeId} {x y : Operand} : R (mop P f σ k (.store t x y)) = R (mstore P t (E (mval f x)) (E (mval f y)) σ k) := congrArg R rfl
theorem mop_alloc {t : TypeId} : R (mop P f σ k (.alloc t)) = R (owes (E ((td P t).zok = true)) (mnew (E σ) (fun l => mlet (E (.ptr l 0 0)) (σ.set l (.row t (td P t).size [(td P t).zero])) k))) := congrArg R rfl
def mbox (t : TypeId) (x : MV) (σ : St) (k : MV → St → Prop) : Prop := x.cells.all MV.isCell = true ∧ ∀ l, σ l = none → k (.ptr l 0 0) (σ.set l (.row t x.cells.length [x.cells]))
theorem mop_box {t : TypeId} {x : Operand} : R (mop P f σ k (.box t x)) = R (mbox t (E (mval f x)) σ k) := congrArg R rfl
theorem mbox_go {t : TypeId} {x : MV} : R (mbox t x σ k) = R (owes (E (x.cells.all MV.isCell = true)) (mnew (E σ) (fun l => mlet (E (.ptr l 0 0)) (σ.set l (.row t x.cells.length [x.cells])) k))) := congrArg R rfl
theorem mop_buildSlice {t : TypeId} {n : Nat} {parts : Array (Nat × Operand)} : R (mop P f σ k (.buildSlice t n parts)) = R (mbuildSlice P f t n parts σ k) := congrArg R rfl
def mbs (P : Program) (d : TK) (len : Nat) (parts : List (Nat × MV)) (σ : St) (k : MV → St → Prop) : Prop :=
  match d with
  | .slice el => owes ((td P el).zok = true ∧ parts.map (·.1) = List.range len ∧ (parts.all fun p => p.2.cells.all MV.isCell && p.2.cells.length == (td P el).size) = true ∧ len * (td P el).size ≤ 16777216 ∧ len ≤ 16777216)
      (mnew σ fun l => mlet (.vec (td P el).size l 0 len) (σ.set l (.row el (td P el).size (parts.map fun p => p.2.cells))) k)
  | _ => False
theorem mbuildSlice_eq {t : TypeId} {n : Nat} {parts : Array (Nat × Operand)} : R (mbuildSlice P f t n parts σ k) = R (mbs P (E (td P t).k) n (E (parts.toList.map fun p => (p.1, mval f p.2))) σ k) := congrArg R (by
  unfold mbuildSlice mbs owes mnew mlet E
  cases (td P t).k <;> first | rfl | (simp only [List.map_map, List.all_map]; rfl))
theorem mbs_slice {el : TypeId} {len : Nat} {parts : List (Nat × MV)} : R (mbs P (.slice el) len parts σ k) = R (owes (E ((td P el).zok = true ∧ parts.map (·.1) = List.range len ∧ (parts.all fun p => p.2.cells.all MV.isCell && p.2.cells.length == (td P el).size) = true ∧ len * (td P el).size ≤ 16777216 ∧ len ≤ 16777216))
      (mnew (E σ) (fun l => mlet (E (.vec (td P el).size l 0 len)) (σ.set l (.row el (td P el).size (parts.map fun p => p.2.cells))) k))) := rfl
theorem mop_makeSlice {t : TypeId} {x y : Operand} : R (mop P f σ k (.makeSlice t x y)) = R (mmakeSlice P t (E (mval f x)) (E (mval f y)) σ k) := congrArg R rfl
theorem mop_call {x : Operand} {args : Array Operand} {ts : Array TypeId} : R (mop P f σ k (.call ⟨.value x, args, ts⟩)) = R (mcallv P (E (mval f x)) (E (args.toList.map (mval f))) σ k) := congrArg R rfl
theorem mop_builtin {b : Builtin} {args : Array Operand} {ts : Array TypeId} : R (mop P f σ k (.call ⟨.builtin b, args, ts⟩)) = R (mbcall P f b args.toList ts.toList σ k) := congrArg R rfl
def mvs (P : Program) (t : TypeId) (x lo hi : MV) (σ : St) (k : MV → St → Prop) : Prop := if beyond x hi then mvslice P t x lo hi (locOf σ x) σ k else mpure σ k (mslice P t x (some lo) (some hi) none)
theorem mstep_slice {dst : Option Tmp} {t : TypeId} {x y z : Operand} : R (mstep P f σ dst K (.slice t x (some y) (some z) none)) = R (mvs P t (E (mval f x)) (E (mval f y)) (E (mval f z)) σ (fun v σ' => K (mput f dst v) σ')) := congrArg R rfl
theorem mvs_beyond {t : TypeId} {e l l0 n : Nat} {lo : MV} {i : IntKind} {h : Int} (hb : (n : Int) < h) : R (mvs P t (.vec e l l0 n) lo (.int i h) σ k) = R (mvslice P t (.vec e l l0 n) lo (.int i h) (E (σ l)) σ k) := by
  apply congrArg R; unfold mvs; rw [if_pos (show beyond (.vec e l l0 n) (.int i h) from hb)]; rfl
theorem mvs_within {t : TypeId} {e l l0 n : Nat} {lo : MV} {i : IntKind} {h : Int} (hb : h ≤ (n : Int)) : R (mvs P t (.vec e l l0 n) lo (.int i h) σ k) = R (mpure σ k (E (mslice P t (.vec e l l0 n) (some lo) (some (.int i h)) none))) := by
  apply congrArg R; unfold mvs; rw [if_neg (show ¬ beyond (.vec e l l0 n) (.int i h) by simp only [beyond]; omega)]; rfl
theorem mvs_lst {t : TypeId} {e : Nat} {xs : List (List MV)} {tt : Bool} {lo hi : MV} : R (mvs P t (.lst e xs tt) lo hi σ k) = R (mpure σ k (E (mslice P t (.lst e xs tt) (some lo) (some hi) none))) := by
  apply congrArg R; unfold mvs; rw [if_neg (show ¬ beyond (.lst e xs tt) hi by simp [beyond])]; rfl
theorem mvs_str {t : TypeId} {s : ByteArray} {lo hi : MV} : R (mvs P t (.str s) lo hi σ k) = R (mpure σ k (E (mslice P t (.str s) (some lo) (some hi) none))) := by
  apply congrArg R; unfold mvs; rw [if_neg (show ¬ beyond (.str s) hi by simp [beyond])]; rfl
def mvsl (P : Program) (d : TK) (e l l0 : Nat) (a h : Int) (e' : Nat) (xs : List (List MV)) (σ : St) (k : MV → St → Prop) : Prop := match d with
  | .slice el => owes ((td P el).ok = true ∧ e = (td P el).size ∧ e' = (td P el).size ∧ 0 ≤ a ∧ a ≤ h ∧ l0 + h.toNat ≤ xs.length) (mlet (.vec e l (l0 + a.toNat) (h.toNat - a.toNat)) σ k)
  | _ => False
theorem mvslice_row {t tt : TypeId} {e l l0 n : Nat} {i j : IntKind} {a h : Int} {e' : Nat} {xs : List (List MV)} : R (mvslice P t (.vec e l l0 n) (.int i a) (.int j h) (some (.row tt e' xs)) σ k) = R (mvsl P (E (td P t).k) e l l0 a h e' xs σ k) := by
  apply congrArg R; unfold mvslice mvsl E; cases (td P t).k <;> rfl
theorem mvsl_slice {el : TypeId} {e l l0 : Nat} {a h : Int} {e' : Nat} {xs : List (List MV)} : R (mvsl P (.slice el) e l l0 a h e' xs σ k) = R (owes (E ((td P el).ok = true ∧ e = (td P el).size ∧ e' = (td P el).size ∧ 0 ≤ a ∧ a ≤ h ∧ l0 + h.toNat ≤ xs.length)) (mlet (E (.vec e l (l0 + a.toNat) (h.toNat - a.toNat))) σ k)) := congrArg R rfl
def mclr (P : Program) (t : TypeId) (x : MV) (σ : St) (k : MV → St → Prop) : Prop := mclear P t x (locOf σ x) σ k
theorem mstep_clear {dst : Option Tmp} {x : Operand} {t : TypeId} : R (mstep P f σ dst K (.call ⟨.builtin .clear, #[x], #[t]⟩)) = R (mclr P t (E (mval f x)) σ (fun v σ' => K (mput f dst v) σ')) := congrArg R rfl
theorem mstep_append {dst : Option Tmp} {s x : Operand} {t xt : TypeId} : R (mstep P f σ dst K (.call ⟨.builtin .append, #[s, x], #[t, xt]⟩)) = R (mone (E (td P xt).k.isInt) (mzapp P t (mval f s) (mval f x) σ (fun v σ' => K (mput f dst v) σ')) (mop P f σ (fun v σ' => K (mput f dst v) σ') (.call ⟨.builtin .append, #[s, x], #[t, xt]⟩))) := congrArg R rfl
theorem mone_t {A B : Prop} : R (mone true A B) = R A := congrArg R rfl
theorem mone_f {A B : Prop} : R (mone false A B) = R B := congrArg R rfl
def mzap (P : Program) (d : TK) (s x : MV) (σ : St) (k : MV → St → Prop) : Prop :=
  match d, s, x with
  | .slice el, .nils, .int .i64 n => ((td P el).zok = true ∧ 0 < (td P el).size ∧ 0 < n ∧ Fits n.toNat (td P el).bytes) ∧ ∀ l, σ l = none → k (.vec (td P el).size l 0 n.toNat) (σ.set l (.row el (td P el).size (List.replicate n.toNat (td P el).zero)))
  | _, _, _ => False
theorem mzapp_go {t : TypeId} {s x : MV} : R (mzapp P t s x σ k) = R (mzap P (E (td P t).k) (E s) (E x) σ k) := congrArg R rfl
theorem mzap_nil {el : TypeId} {n : Int} : R (mzap P (.slice el) .nils (.int .i64 n) σ k) = R (owes (E ((td P el).zok = true ∧ 0 < (td P el).size ∧ 0 < n ∧ Fits n.toNat (td P el).bytes)) (mnew (E σ) (fun l => mlet (E (.vec (td P el).size l 0 n.toNat)) (σ.set l (.row el (td P el).size (List.replicate n.toNat (td P el).zero))) k))) := congrArg R rfl
theorem mclr_vec {t : TypeId} {e l l0 n : Nat} : R (mclr P t (.vec e l l0 n) σ k) = R (mclear P t (.vec e l l0 n) (E (σ l)) σ k) := congrArg R rfl
def mclearK (P : Program) (d : TK) (e l l0 n : Nat) (tt : TypeId) (e' : Nat) (xs : List (List MV)) (σ : St) (k : MV → St → Prop) : Prop := match d with
  | .slice el => owes ((td P el).zok = true ∧ 0 < (td P el).size ∧ e = (td P el).size ∧ e' = (td P el).size ∧ l0 + n ≤ xs.length) (mlet .junk (σ.set l (.row tt e' (rowLaid xs l0 (List.replicate n (td P el).zero)))) k)
  | _ => False
theorem mclear_row {t tt : TypeId} {e l l0 n e' : Nat} {xs : List (List MV)} : R (mclear P t (.vec e l l0 n) (some (.row tt e' xs)) σ k) = R (mclearK P (E (td P t).k) e l l0 n tt e' xs σ k) := by
  apply congrArg R; unfold mclear mclearK E; cases (td P t).k <;> rfl
theorem mclearK_slice {el tt : TypeId} {e l l0 n e' : Nat} {xs : List (List MV)} : R (mclearK P (.slice el) e l l0 n tt e' xs σ k) = R (owes (E ((td P el).zok = true ∧ 0 < (td P el).size ∧ e = (td P el).size ∧ e' = (td P el).size ∧ l0 + n ≤ xs.length)) (mlet (E .junk) (σ.set l (.row tt e' (rowLaid xs l0 (List.replicate n (td P el).zero)))) k)) := congrArg R rfl
end
end Go.Proofs.YtfbodefnblpflaaGreatDoor
end

section
/- What simp goes by. -/
set_option linter.unusedVariables false
set_option linter.unusedSimpArgs false
namespace Go.Proofs.YtfbodefnblpflaaGreatDoor
section
variable {P : Program} {f : FR} {σ : St} {k : MV → St → Prop} {t : TypeId}
theorem mbin_add {i : IntKind} {a b : Int} : mbin P t .add (.int i a) (.int i b) = some (True, .int i (i.wrap (a + b))) := by simp [mbin, intBin]
theorem mbin_sub {i : IntKind} {a b : Int} : mbin P t .sub (.int i a) (.int i b) = some (True, .int i (i.wrap (a - b))) := by simp [mbin, intBin]
theorem mbin_mul {i : IntKind} {a b : Int} : mbin P t .mul (.int i a) (.int i b) = some (True, .int i (i.wrap (a * b))) := by simp [mbin, intBin]
theorem mbin_quo {i : IntKind} {a b : Int} : mbin P t .quo (.int i a) (.int i b) = some (b ≠ 0, .int i (i.wrap (a.tdiv b))) := by simp [mbin, intBin]
theorem mbin_rem {i : IntKind} {a b : Int} : mbin P t .rem (.int i a) (.int i b) = some (b ≠ 0, .int i (a.tmod b)) := by simp [mbin, intBin]
theorem mbin_and {i : IntKind} {a b : Int} : mbin P t .and (.int i a) (.int i b) = some (True, .int i (andK i a b)) := by simp only [mbin, if_true, intBin]
theorem mbin_or {i : IntKind} {a b : Int} : mbin P t .or (.int i a) (.int i b) = some (True, .int i (orK i a b)) := by simp only [mbin, if_true, intBin]
theorem mbin_xor {i : IntKind} {a b : Int} : mbin P t .xor (.int i a) (.int i b) = some (True, .int i (xorK i a b)) := by simp only [mbin, if_true, intBin]
theorem mbin_andNot {i : IntKind} {a b : Int} : mbin P t .andNot (.int i a) (.int i b) = some (True, .int i (andNotK i a b)) := by simp only [mbin, if_true, intBin]
theorem mbin_eql {i : IntKind} {a b : Int} : mbin P t .eql (.int i a) (.int i b) = some (True, .bool (decide (a = b))) := by simp [mbin, intBin]; rfl
theorem mbin_neq {i : IntKind} {a b : Int} : mbin P t .neq (.int i a) (.int i b) = some (True, .bool (decide (¬ a = b))) := by simp [mbin, intBin]; rfl
theorem mbin_lss {i : IntKind} {a b : Int} : mbin P t .lss (.int i a) (.int i b) = some (True, .bool (decide (a < b))) := by simp [mbin, intBin]
theorem mbin_leq {i : IntKind} {a b : Int} : mbin P t .leq (.int i a) (.int i b) = some (True, .bool (decide (a ≤ b))) := by simp [mbin, intBin]
theorem mbin_gtr {i : IntKind} {a b : Int} : mbin P t .gtr (.int i a) (.int i b) = some (True, .bool (decide (b < a))) := by simp [mbin, intBin]
theorem mbin_geq {i : IntKind} {a b : Int} : mbin P t .geq (.int i a) (.int i b) = some (True, .bool (decide (b ≤ a))) := by simp [mbin, intBin]
theorem mbin_shl {i j : IntKind} {a b : Int} : mbin P t .shl (.int i a) (.int j b) = some (0 ≤ b, .int i (i.wrap (a * 2 ^ (min b.toNat i.bits)))) := by simp [mbin, intShift]
theorem mbin_shr {i j : IntKind} {a b : Int} : mbin P t .shr (.int i a) (.int j b) = some (0 ≤ b, .int i (a.fdiv (2 ^ (min b.toNat i.bits)))) := by simp [mbin, intShift]
theorem toList_eq_iff (x y : ByteArray) : x.toList = y.toList ↔ x = y := by
  rw [ByteArray.toList_eq, ByteArray.toList_eq]
  obtain ⟨⟨a⟩⟩ := x
  obtain ⟨⟨b⟩⟩ := y
  simp
theorem toList_beq (x y : ByteArray) : (x.toList == y.toList) = decide (x = y) := by
  rw [Bool.eq_iff_iff]; simp [toList_eq_iff]
theorem mbin_seql {x y : ByteArray} : mbin P t .eql (.str x) (.str y) = some (True, .bool (decide (x = y))) := by simp only [mbin, strBin, toList_beq]
theorem mbin_sneq {x y : ByteArray} : mbin P t .neq (.str x) (.str y) = some (True, .bool (decide (¬ x = y))) := by simp only [mbin, strBin, toList_beq]; simp
theorem mbin_sadd {x y : ByteArray} : mbin P t .add (.str x) (.str y) = some (((x.size + y.size : Nat) : Int) ≤ 9223372036854775807, .str (x ++ y)) := by simp only [mbin, strBin]
theorem mbin_slss {x y : ByteArray} : mbin P t .lss (.str x) (.str y) = some (True, .bool (Op.bytesLess x.toList y.toList)) := by simp only [mbin, strBin]
theorem mbin_sgtr {x y : ByteArray} : mbin P t .gtr (.str x) (.str y) = some (True, .bool (!(Op.bytesLess x.toList y.toList || decide (x = y)))) := by simp only [mbin, strBin, toList_beq]
theorem mbin_beql {x y : Bool} : mbin P t .eql (.bool x) (.bool y) = some ((td P t).k.isBool = true, .bool (x == y)) := rfl
theorem mbin_bneq {x y : Bool} : mbin P t .neq (.bool x) (.bool y) = some ((td P t).k.isBool = true, .bool (!(x == y))) := rfl
theorem mbin_pn {op : BinOp} {l i o : Nat} : mbin P t op (.ptr l i o) .nilp = eqV op ((td P t).k.isPtr = true) false := rfl
theorem mbin_np {op : BinOp} {l i o : Nat} : mbin P t op .nilp (.ptr l i o) = eqV op ((td P t).k.isPtr = true) false := rfl
theorem mbin_cn {op : BinOp} {cs : List MV} : mbin P t op (.cptr cs) .nilp = eqV op ((td P t).k.isPtr = true) false := rfl
theorem mbin_sl {op : BinOp} {e : Nat} {x : List MV} {xs : List (List MV)} {b : Bool} : mbin P t op (.lst e (x :: xs) b) .nils = eqV op ((td P t).k.isSl = true) false := rfl
theorem mbin_sn {op : BinOp} : mbin P t op .nils .nils = eqV op ((td P t).k.isSl = true) true := rfl
theorem mbin_fz {op : BinOp} : mbin P t op .nilfn .nilfn = eqV op ((td P t).k.isFn = true) true := rfl
theorem mbin_fn {op : BinOp} {f : Fn} {a b : List MV} : mbin P t op (.fn f a b) .nilfn = eqV op ((td P t).k.isFn = true) false := rfl
theorem mbin_nn {op : BinOp} : mbin P t op .nilp .nilp = eqV op ((td P t).k.isPtr = true) true := rfl
def maggEq (P : Program) (op : BinOp) (t : TypeId) (o : Option Bool) : PV := match o with
  | some b => eqV op (eqPlain P t = true) b
  | none => none
theorem mbin_agg {op : BinOp} {xs ys : List MV} : mbin P t op (.agg xs) (.agg ys) = maggEq P op t (meqs P 6 t (.agg xs) (.agg ys)) := rfl
theorem maggEq_some {op : BinOp} {b : Bool} : maggEq P op t (some b) = eqV op (eqPlain P t = true) b := rfl
theorem set_none_intro {σ : St} {l k : Nat} {o : MObj} {p : Prop} (h : l ≠ k → k ≠ l → σ l = none → p) : (σ.set k o) l = none → p := fun hn =>
  have e : l ≠ k ∧ σ l = none := (set_none σ k l o).mp hn
  h e.1 (Ne.symm e.1) e.2
theorem del_set_hit (σ : St) (l : Nat) (o : MObj) : (σ.set l o).del l = σ.del l := by
  funext k; simp only [St.set, St.del]; split <;> rfl
theorem none_del (l : Nat) : St.none.del l = St.none := by
  funext k; simp only [St.none, St.del]; split <;> rfl
theorem take_map' {α β : Type} {f : α → β} {l : List α} {n : Nat} : (l.map f).take n = (l.take n).map f := by rw [List.map_take]
theorem drop_map' {α β : Type} {f : α → β} {l : List α} {n : Nat} : (l.map f).drop n = (l.drop n).map f := by rw [List.map_drop]
theorem app_map' {α β : Type} {f : α → β} {l r : List α} : l.map f ++ r.map f = (l ++ r).map f := by rw [List.map_append]
theorem set_over (σ : St) {l a : Nat} (o o' oa : MObj) (h : l ≠ a) : ((σ.set l o).set a oa).set l o' = (σ.set l o').set a oa := by rw [set_comm _ _ _ (Ne.symm h), set_set]
theorem set_over2 (σ : St) {l a b : Nat} (o o' oa ob : MObj) (h : l ≠ a) (h2 : l ≠ b) : (((σ.set l o).set a oa).set b ob).set l o' = ((σ.set l o').set a oa).set b ob := by rw [set_comm _ _ _ (Ne.symm h2), set_over _ _ _ _ h]
theorem set_over3 (σ : St) {l a b c : Nat} (o o' oa ob oc : MObj) (h : l ≠ a) (h2 : l ≠ b) (h3 : l ≠ c) : ((((σ.set l o).set a oa).set b ob).set c oc).set l o' = (((σ.set l o').set a oa).set b ob).set c oc := by rw [set_comm _ _ _ (Ne.symm h3), set_over2 _ _ _ _ _ h h2]
theorem getD_app {α : Type} {l r : List α} {n : Nat} {d : α} (h : n < l.length) : (l ++ r).getD n d = l.getD n d := by simp [List.getD, List.getElem?_append_left h]
theorem toNat_succ (n : Nat) : ((n : Int) + 1).toNat = n + 1 := by omega
theorem dec_and {p q : Prop} [Decidable p] [Decidable q] : (decide p && decide q) = decide (p ∧ q) := by simp
theorem dec_or {p q : Prop} [Decidable p] [Decidable q] : (decide p || decide q) = decide (p ∨ q) := by simp
theorem map_and {b : Bool} {o : Bool} : (some o).map (fun c => b && c) = some (b && o) := rfl
theorem eqV_eql {C : Prop} {b : Bool} : eqV .eql C b = some (C, .bool b) := rfl
theorem eqV_neq {C : Prop} {b : Bool} : eqV .neq C b = some (C, .bool (!b)) := rfl
/-! ### Calls of builtins -/
theorem mbcall_append {s x : Operand} {t xt : TypeId} : R (mbcall P f .append [s, x] [t, xt] σ k) = R (mappend P t xt (E (mval f s)) (E (mval f x)) σ k) := congrArg R rfl
theorem mbcall_len {x : Operand} {t : TypeId} : R (mbcall P f .len [x] [t] σ k) = R (mpure σ k (E (mlen P t (mval f x)))) := congrArg R (by simp [mbcall, mbuiltin, E])
theorem mbcall_min {x y : Operand} {t u : TypeId} : R (mbcall P f .min [x, y] [t, u] σ k) = R (mpure σ k (E (mmin2 (mval f x) (mval f y)))) := congrArg R (by simp [mbcall, mbuiltin, E])
theorem mbcall_cap {x : Operand} {t : TypeId} : R (mbcall P f .cap [x] [t] σ k) = R (mpure σ k (E (mcap P t (mval f x)))) := congrArg R (by simp [mbcall, mbuiltin, E])
theorem mbcall_max {x y : Operand} {t u : TypeId} : R (mbcall P f .max [x, y] [t, u] σ k) = R (mpure σ k (E (mmax2 (mval f x) (mval f y)))) := congrArg R (by simp [mbcall, mbuiltin, E])
/-- A conversion, the kinds at hand. -/
def mcv (P : Program) (s d : TypeId) (ks kd : TK) (x : MV) (σ : St) (k : MV → St → Prop) : Prop :=
  match ks, kd, x with
  | .str, .slice el, .str b => ((td P el).k = .int .u8 ∧ b.size ≤ 140737488355328) ∧ ∀ l, σ l = none → k (.vec 1 l 0 b.size) (σ.set l (.row el 1 (b.toList.map fun c => [.int .u8 (c.toNat : Int)])))
  | .slice el, .str, .str _ => False
  | .slice el, .str, x => match msrc σ 1 x with
    | some ys => ((td P el).k = .int .u8 ∧ ys.all isByte = true) ∧ k (.str (bytesOf ys)) σ
    | none => False
  | _, _, x => mpure σ k (mconv P s d x)
theorem mconvert_go {s d : TypeId} {x : MV} : R (mconvert P s d x σ k) = R (mcv P s d (E (td P s).k) (E (td P d).k) x σ k) := congrArg R (by unfold mconvert mcv E; rfl)
theorem mcv_int {s d : TypeId} {i j j' : IntKind} {n : Int} : R (mcv P s d (.int j) (.int i) (.int j' n) σ k) = R (mpure σ k (E (mconv P s d (.int j' n)))) := congrArg R rfl
theorem mcv_ss {s d : TypeId} {b : ByteArray} : R (mcv P s d .str .str (.str b) σ k) = R (mpure σ k (E (mconv P s d (.str b)))) := congrArg R rfl
theorem mcv_sb {s d el : TypeId} {b : ByteArray} : R (mcv P s d .str (.slice el) (.str b) σ k) = R (owes (E ((td P el).k = .int .u8 ∧ b.size ≤ 140737488355328)) (mnew (E σ) (fun l => mlet (E (.vec 1 l 0 b.size)) (σ.set l (.row el 1 (b.toList.map fun c => [.int .u8 (c.toNat : Int)]))) k))) := congrArg R rfl
def mcvs (P : Program) (el : TypeId) (o : Option (List (List MV))) (σ : St) (k : MV → St → Prop) : Prop := match o with
  | some ys => owes ((td P el).k = .int .u8 ∧ ys.all isByte = true) (mlet (.str (bytesOf ys)) σ k)
  | none => False
theorem mcv_bv {s d el : TypeId} {e l lo n : Nat} : R (mcv P s d (.slice el) .str (.vec e l lo n) σ k) = R (mcvs P el (E (msrc σ 1 (.vec e l lo n))) σ k) := congrArg R (by unfold mcv mcvs E; simp only; split <;> rfl)
theorem mcv_bl {s d el : TypeId} {e : Nat} {xs : List (List MV)} {t : Bool} : R (mcv P s d (.slice el) .str (.lst e xs t) σ k) = R (mcvs P el (E (msrc σ 1 (.lst e xs t))) σ k) := congrArg R (by unfold mcv mcvs E; simp only; split <;> rfl)
theorem mcv_bn {s d el : TypeId} : R (mcv P s d (.slice el) .str .nils σ k) = R (mcvs P el (E (msrc σ 1 .nils)) σ k) := congrArg R (by unfold mcv mcvs E; simp only; split <;> rfl)
theorem mcvs_some {el : TypeId} {ys : List (List MV)} : R (mcvs P el (some ys) σ k) = R (owes (E ((td P el).k = .int .u8 ∧ ys.all isByte = true)) (mlet (E (.str (bytesOf ys))) σ k)) := congrArg R rfl
attribute [go_sem] mone_t mone_f mzapp_go mzap_nil TK.isInt mconvert_go mcv_int mcv_ss mcv_sb mcv_bv mcv_bl mcv_bn mcvs_some mconv mcap
/-- append, its parts at hand. -/
def mapp (P : Program) (d : TK) (xt : TypeId) (s : MV) (ys : Option (List (List MV))) (σ : St) (k : MV → St → Prop) : Prop :=
  match d with
  | .slice el => match ys with
    | some ys => match s with
      | .nils => owes ((td P xt).k.isSrc = true ∧ (td P el).zok = true ∧ Fits ys.length (td P el).bytes) (mnew σ fun l => mlet (.vec (td P el).size l 0 ys.length) (σ.set l (.row el (td P el).size ys)) k)
      | .lst e xs true => owes ((td P xt).k.isSrc = true ∧ (td P el).zok = true ∧ e = (td P el).size ∧ (xs = [] ∨ 0 < ys.length) ∧ Fits (xs.length + ys.length) (td P el).bytes)
          (mnew σ fun l => mlet (.vec (td P el).size l 0 (xs.length + ys.length)) (σ.set l (.row el (td P el).size (xs ++ ys))) k)
      | .vec e l lo n => match σ l with
        | some (.row tt e' xs) => owes ((td P xt).k.isSrc = true ∧ (td P el).zok = true ∧ e = (td P el).size ∧ e' = (td P el).size ∧ tt = el ∧ lo + n ≤ xs.length ∧ Fits (n + ys.length) (td P el).bytes)
            (mnew σ fun l' => mlet (.vec (td P el).size l' 0 (n + ys.length)) ((σ.del l).set l' (.row el (td P el).size (appRow xs lo n ys))) k)
        | _ => False
      | _ => False
    | none => False
  | _ => False
def srcE : TK → Option TypeId
  | .slice el => some el
  | _ => none
def msrcO (P : Program) (σ : St) (x : MV) : Option TypeId → Option (List (List MV))
  | some el => msrc σ (td P el).size x
  | none => none
theorem mappend_go {t xt : TypeId} {s x : MV} : R (mappend P t xt s x σ k) = R (mapp P (E (td P t).k) xt s (E (msrcO P σ x (srcE (td P t).k))) σ k) := congrArg R (by
  unfold mappend mapp msrcO srcE owes mnew mlet E
  cases (td P t).k <;> rfl)
theorem mapp_nils {el xt : TypeId} {ys : List (List MV)} : R (mapp P (.slice el) xt .nils (some ys) σ k) = R (owes (E ((td P xt).k.isSrc = true ∧ (td P el).zok = true ∧ Fits ys.length (td P el).bytes)) (mnew (E σ) (fun l => mlet (E (.vec (td P el).size l 0 ys.length)) (σ.set l (.row el (td P el).size ys)) k))) := congrArg R rfl
theorem mapp_lst {el xt : TypeId} {ys xs : List (List MV)} {e : Nat} : R (mapp P (.slice el) xt (.lst e xs true) (some ys) σ k) = R (owes (E ((td P xt).k.isSrc = true ∧ (td P el).zok = true ∧ e = (td P el).size ∧ (xs = [] ∨ 0 < ys.length) ∧ Fits (xs.length + ys.length) (td P el).bytes))
          (mnew (E σ) (fun l => mlet (E (.vec (td P el).size l 0 (xs.length + ys.length))) (σ.set l (.row el (td P el).size (xs ++ ys))) k))) := rfl
def mappv (P : Program) (el xt : TypeId) (e l lo n : Nat) (o : Option MObj) (ys : List (List MV)) (σ : St) (k : MV → St → Prop) : Prop :=
  match o with
  | some (.row tt e' xs) => owes ((td P xt).k.isSrc = true ∧ (td P el).zok = true ∧ e = (td P el).size ∧ e' = (td P el).size ∧ tt = el ∧ lo + n ≤ xs.length ∧ Fits (n + ys.length) (td P el).bytes)
            (mnew σ fun l' => mlet (.vec (td P el).size l' 0 (n + ys.length)) ((σ.del l).set l' (.row el (td P el).size (appRow xs lo n ys))) k)
  | _ => False
theorem mapp_vec {el xt : TypeId} {ys : List (List MV)} {e l lo n : Nat} : R (mapp P (.slice el) xt (.vec e l lo n) (some ys) σ k) = R (mappv P el xt e l lo n (E (σ l)) ys σ k) := congrArg R rfl
/-- Two cases of what is done. -/
def mif (c : Prop) (A B : Prop) : Prop := (c → A) ∧ (¬ c → B)
theorem mif_yes {c A B : Prop} (h : c) : R (mif c A B) = R A := by simp [mif, h]
theorem mif_no {c A B : Prop} (h : ¬ c) : R (mif c A B) = R B := by simp [mif, h]
theorem mif_go {c A B : Prop} (h1 : c → R A) (h2 : ¬ c → R B) : R (mif c A B) := ⟨h1, h2⟩
theorem mif_true {A B : Prop} : R (mif True A B) = R A := by simp [mif]
theorem mif_false {A B : Prop} : R (mif False A B) = R B := by simp [mif]
theorem mappv_row {el xt tt : TypeId} {ys xs : List (List MV)} {e e' l lo n : Nat} : R (mappv P el xt e l lo n (some (.row tt e' xs)) ys σ k) = R (mif (E (lo + n = xs.length))
            (owes (E ((td P xt).k.isSrc = true ∧ (td P el).zok = true ∧ e = (td P el).size ∧ e' = (td P el).size ∧ tt = el ∧ Fits (n + ys.length) (td P el).bytes))
              (mnew (E σ) (fun l' => mlet (E (.vec (td P el).size l' 0 (n + ys.length))) ((σ.del l).set l' (.row el (td P el).size (xs.drop lo ++ ys))) k)))
            (owes (E ((td P xt).k.isSrc = true ∧ (td P el).zok = true ∧ e = (td P el).size ∧ e' = (td P el).size ∧ tt = el ∧ lo + n ≤ xs.length ∧ Fits (n + ys.length) (td P el).bytes))
              (mnew (E σ) (fun l' => mlet (E (.vec (td P el).size l' 0 (n + ys.length))) ((σ.del l).set l' (.row el (td P el).size (appRow xs lo n ys))) k)))) := by
  apply congrArg R
  simp only [mappv, mif, E]
  by_cases h : lo + n = xs.length
  · simp only [h, true_implies, not_true_eq_false, false_implies, and_true, Nat.le_refl, true_and, appRow_end h]
  · simp only [h, false_implies, not_false_eq_true, true_implies, true_and]
/-! ### Results -/
theorem retQ_normal {rs : List ResultVar} {Q : MV → St → Prop} {n : Nat} {l : List (Nat × MV)} : R (retQ P rs Q .normal ⟨n, l, []⟩ σ) = R (mresults P ⟨n, l, []⟩ σ rs fun vs => Q (oneOf vs) σ) := congrArg R rfl
theorem retQ_ret {rs : List ResultVar} {Q : MV → St → Prop} {n : Nat} {l : List (Nat × MV)} : R (retQ P rs Q .ret ⟨n, l, []⟩ σ) = R (mresults P ⟨n, l, []⟩ σ rs fun vs => Q (oneOf vs) σ) := congrArg R rfl
theorem retQ_normalD {rs : List ResultVar} {Q : MV → St → Prop} {n : Nat} {l : List (Nat × MV)} {g : FuncId} {ms : List MV} {d : List (FuncId × List MV)} : R (retQ P rs Q .normal ⟨n, l, (g, ms) :: d⟩ σ) = R (MDefers P g ms σ fun σ' => mleave P n l rs Q d σ') := congrArg R rfl
theorem retQ_retD {rs : List ResultVar} {Q : MV → St → Prop} {n : Nat} {l : List (Nat × MV)} {g : FuncId} {ms : List MV} {d : List (FuncId × List MV)} : R (retQ P rs Q .ret ⟨n, l, (g, ms) :: d⟩ σ) = R (MDefers P g ms σ fun σ' => mleave P n l rs Q d σ') := congrArg R rfl
theorem mleave_nil {rs : List ResultVar} {Q : MV → St → Prop} {n : Nat} {l : List (Nat × MV)} : R (mleave P n l rs Q [] σ) = R (mresults P ⟨n, l, []⟩ σ rs fun vs => Q (oneOf vs) σ) := congrArg R rfl
theorem mleave_cons {rs : List ResultVar} {Q : MV → St → Prop} {n : Nat} {l : List (Nat × MV)} {g : FuncId} {ms : List MV} {d : List (FuncId × List MV)} : R (mleave P n l rs Q ((g, ms) :: d) σ) = R (MDefers P g ms σ fun σ' => mleave P n l rs Q d σ') := congrArg R rfl
theorem mresults_nil {K : List MV → Prop} : R (mresults P f σ [] K) = R (K []) := congrArg R rfl
theorem mresults_tmp {K : List MV → Prop} {t : Nat} {rs : List ResultVar} : R (mresults P f σ (.tmp t :: rs) K) = R (mlet (E (f.get t)) σ (fun v _ => mresults P f σ rs fun vs => K (v :: vs))) := congrArg R rfl
theorem mresults_cell {K : List MV → Prop} {a : Nat} {t : TypeId} {rs : List ResultVar} : R (mresults P f σ (.cell a t :: rs) K) = R (mload P t (E (f.get a)) σ (fun v _ => mresults P f σ rs fun vs => K (v :: vs))) := congrArg R rfl
theorem oneOf_one {v : MV} : oneOf [v] = v := rfl
theorem oneOf_two {v w : MV} {vs : List MV} : oneOf (v :: w :: vs) = .tup (v :: w :: vs) := rfl
theorem oneOf_nil : oneOf [] = .tup [] := rfl
theorem cells_agg {cs : List MV} : (MV.agg cs).cells = cs := rfl
theorem cells_int {i : IntKind} {n : Int} : (MV.int i n).cells = [.int i n] := rfl
theorem cells_bool {b : Bool} : (MV.bool b).cells = [.bool b] := rfl
theorem cells_str {s : ByteArray} : (MV.str s).cells = [.str s] := rfl
theorem cells_nilp : MV.nilp.cells = [.nilp] := rfl
theorem cells_ptr {l i o : Nat} : (MV.ptr l i o).cells = [.ptr l i o] := rfl
theorem cells_cptr {cs : List MV} : (MV.cptr cs).cells = [.cptr cs] := rfl
theorem cells_nils : MV.nils.cells = [.nils] := rfl
theorem cells_lst {e : Nat} {xs : List (List MV)} {t : Bool} : (MV.lst e xs t).cells = [.lst e xs t] := rfl
theorem cells_vec {e l lo n : Nat} : (MV.vec e l lo n).cells = [.vec e l lo n] := rfl
theorem cells_nilm : MV.nilm.cells = [.nilm] := rfl
theorem cells_mapv {l : Nat} : (MV.mapv l).cells = [.mapv l] := rfl
theorem cells_nilfn : MV.nilfn.cells = [.nilfn] := rfl
theorem cells_fn {fn : Fn} {a b : List MV} : (MV.fn fn a b).cells = [.fn fn a b] := rfl
theorem weak_int {k k' : IntKind} {a b : Int} : Weak (.int k a) (.int k' b) ↔ k = k' ∧ a = b := ⟨fun h => by cases h; exact ⟨rfl, rfl⟩, fun ⟨h, g⟩ => h ▸ g ▸ .same _⟩
theorem weak_same {m : MV} : Weak m m ↔ True := ⟨fun _ => trivial, fun _ => .same m⟩
theorem all_nil {p : MV → Bool} : List.all [] p = true := rfl
theorem fa_nil {α : Type} {p : α → Prop} : (∀ c, c ∈ ([] : List α) → p c) ↔ True := by simp
theorem fa_cons {α : Type} {p : α → Prop} {a : α} {l : List α} : (∀ c, c ∈ a :: l → p c) ↔ p a ∧ ∀ c, c ∈ l → p c := by simp
theorem cell_int {i : IntKind} {n : Int} : (MV.int i n).isCell = true := rfl
theorem cell_bool {b : Bool} : (MV.bool b).isCell = true := rfl
theorem cell_str {s : ByteArray} : (MV.str s).isCell = true := rfl
theorem cell_nilp : MV.nilp.isCell = true := rfl
theorem cell_ptr {l i o : Nat} : (MV.ptr l i o).isCell = true := rfl
theorem cell_cptr {cs : List MV} : (MV.cptr cs).isCell = true := rfl
theorem cell_nils : MV.nils.isCell = true := rfl
theorem cell_lst {e : Nat} {xs : List (List MV)} {t : Bool} : (MV.lst e xs t).isCell = true := rfl
theorem cell_vec {e l lo n : Nat} : (MV.vec e l lo n).isCell = true := rfl
theorem cell_nilm : MV.nilm.isCell = true := rfl
theorem cell_mapv {l : Nat} : (MV.mapv l).isCell = true := rfl
theorem cell_nilfn : MV.nilfn.isCell = true := rfl
theorem cell_fn {fn : Fn} {a b : List MV} : (MV.fn fn a b).isCell = true := rfl
theorem cell_nili : MV.nili.isCell = true := rfl
theorem cell_iface {t : TypeId} {v : MV} : (MV.iface t v).isCell = true := rfl
theorem cells_nili : MV.nili.cells = [.nili] := rfl
theorem cells_iface {t : TypeId} {v : MV} : (MV.iface t v).cells = [.iface t v] := rfl
end
/-! ### Maps -/
section
variable {P : Program} {f : FR} {σ : St} {k : MV → St → Prop} {K : FR → St → Prop}
theorem mstep_makeMap {dst : Option Tmp} {t : TypeId} : R (mstep P f σ dst K (.makeMap t none)) = R (mnew (E σ) fun l => K (mput f dst (.mapv l)) (σ.set l (.mp []))) := congrArg R rfl
theorem mstep_insert {dst : Option Tmp} {t : TypeId} {m x y : Operand} : R (mstep P f σ dst K (.insert t m x y)) = R (minsert P t (E (mval f m)) (E (mval f x)) (E (mval f y)) (E (mapOf σ (mval f m))) σ fun v σ' => K (mput f dst v) σ') := congrArg R rfl
theorem mstep_mapUpdate {dst : Option Tmp} {t : TypeId} {m x y : Operand} : R (mstep P f σ dst K (.mapUpdate t m x y)) = R (minsert P t (E (mval f m)) (E (mval f x)) (E (mval f y)) (E (mapOf σ (mval f m))) σ fun v σ' => K (mput f dst v) σ') := congrArg R rfl
theorem mstep_lookup {dst : Option Tmp} {t : TypeId} {m x : Operand} {ok : Bool} : R (mstep P f σ dst K (.lookup t m x ok)) = R (mlookup P t (E (mval f m)) (E (mval f x)) ok (E (mapOf σ (mval f m))) σ fun v σ' => K (mput f dst v) σ') := congrArg R rfl
def minsertK (P : Program) (d : TK) (l : Nat) (kd : IntKind) (n : Int) (y : MV) (es : List (MV × MV)) (σ : St) (k : MV → St → Prop) : Prop := match d with
  | .map kt _ => owes ((td P kt).k = .int kd ∧ (es.all fun p => isK kd p.1) = true) (mlet .junk (σ.set l (.mp (iput kd n y es))) k)
  | _ => False
theorem minsert_go {t : TypeId} {l : Nat} {kd : IntKind} {n : Int} {y : MV} {es : List (MV × MV)} : R (minsert P t (.mapv l) (.int kd n) y (some (.mp es)) σ k) = R (minsertK P (E (td P t).k) l kd n y es σ k) := congrArg R (by
  unfold minsert minsertK owes mlet E
  cases (td P t).k <;> rfl)
theorem minsertK_go {kt et : TypeId} {l : Nat} {kd : IntKind} {n : Int} {y : MV} {es : List (MV × MV)} : R (minsertK P (.map kt et) l kd n y es σ k) = R (owes (E ((td P kt).k = .int kd ∧ (es.all fun p => isK kd p.1) = true)) (mlet (E .junk) (σ.set l (.mp (iput kd n y es))) k)) := congrArg R rfl
def mlookupK (P : Program) (d : TK) (kd : IntKind) (n : Int) (ok : Bool) (es : List (MV × MV)) (σ : St) (k : MV → St → Prop) : Prop := match d with
  | .map kt et => owes ((td P kt).k = .int kd ∧ (td P et).zok = true ∧ (es.all fun p => isK kd p.1) = true) (mlet (if ok = true then .tup [(iget n es).getD (zval (td P et)), .bool (iget n es).isSome] else (iget n es).getD (zval (td P et))) σ k)
  | _ => False
theorem mlookup_go {t : TypeId} {l : Nat} {kd : IntKind} {n : Int} {ok : Bool} {es : List (MV × MV)} : R (mlookup P t (.mapv l) (.int kd n) ok (some (.mp es)) σ k) = R (mlookupK P (E (td P t).k) kd n ok es σ k) := congrArg R (by
  unfold mlookup mlookupK owes mlet E
  cases (td P t).k <;> rfl)
theorem mlookupK_go {kt et : TypeId} {kd : IntKind} {n : Int} {ok : Bool} {es : List (MV × MV)} : R (mlookupK P (.map kt et) kd n ok es σ k) = R (owes (E ((td P kt).k = .int kd ∧ (td P et).zok = true ∧ (es.all fun p => isK kd p.1) = true)) (mlet (E (if ok = true then .tup [(iget n es).getD (zval (td P et)), .bool (iget n es).isSome] else (iget n es).getD (zval (td P et)))) σ k)) := congrArg R rfl
theorem mapOf_map {l : Nat} : mapOf σ (.mapv l) = σ l := rfl
theorem iput_nil {kd : IntKind} {n : Int} {v : MV} : iput kd n v [] = [(.int kd n, v)] := rfl
theorem iput_hit {kd kd' : IntKind} {n : Int} {u v : MV} {r : List (MV × MV)} : iput kd n v ((.int kd' n, u) :: r) = (.int kd' n, v) :: r := by simp [iput]
theorem iput_miss {kd kd' : IntKind} {n m : Int} {u v : MV} {r : List (MV × MV)} (h : m ≠ n) : iput kd n v ((.int kd' m, u) :: r) = (.int kd' m, u) :: iput kd n v r := by simp [iput, h]
theorem iget_nil {n : Int} : iget n [] = none := rfl
theorem iget_hit {kd : IntKind} {n : Int} {u : MV} {r : List (MV × MV)} : iget n ((.int kd n, u) :: r) = some u := by simp [iget]
theorem iget_miss {kd : IntKind} {n m : Int} {u : MV} {r : List (MV × MV)} (h : m ≠ n) : iget n ((.int kd m, u) :: r) = iget n r := by simp [iget, h]
theorem isK_go {kd : IntKind} {n : Int} : isK kd (.int kd n) = true := by simp [isK]
end
attribute [go_sem ↓] lget_hit lget_nil lget_miss mcode_show mops_show gdst_show gdst_zero gdst_succ mcode_skip mcode_seq mcode_cond mcode_block mcode_scope mcode_label scopeQ_normal scopeQ_ret scopeQ_exit mcode_ret mcode_exit mcode_draw mcode_region mcode_loop thenQ_normal thenQ_ret thenQ_exit blockQ_normal blockQ_ret blockQ_hit blockQ_miss mops_nil mops_cons mops_guard mstep_defer mstep_slice mstep_clear mstep_append mstep_makeMap mstep_insert mstep_mapUpdate mstep_lookup mstep_go mop_move mop_assign mop_pick mop_nilCheck mop_binOp mop_unOp mop_convert mop_makeFunc mop_slice mop_fieldAddr mop_field mop_indexAddr mop_indexAddrG mop_index mop_extract mop_build mop_load mop_store mop_alloc mop_box mop_buildSlice mbuildSlice_eq mop_makeSlice mop_call mop_builtin mbcall_append mbcall_len mbcall_cap mbcall_min mbcall_max retQ_normal retQ_ret retQ_normalD retQ_retD mleave_nil mleave_cons mresults_nil mresults_tmp mresults_cell
attribute [go_sem] minsert_go minsertK_go mlookup_go mlookupK_go mapOf_map iput_nil iput_hit iput_miss iget_nil iget_hit iget_miss isK_go zval R_true R_not R_or R_eq R_and R_ex E_eq mfork_true mfork_false mfork_yes mfork_no mgfork_dy mgfork_dn mgfork_ey mgfork_en mgfork_skip mgfork_tt mgfork_tf mgfork_ft mgfork_ff gval_some mput_some mput_none get_mk mval_tmp mval_const mval_func ofV_bool ofV_int ofV_str ofV_nilp ofV_nils ofV_nilm ofV_nilfn ofV_nili mvs_beyond mvs_within mvs_lst mvs_str mvslice_row mvsl_slice mclr_vec mclear_row mclearK_slice mcallv_fn mdefv_fn mlet_go owes_true owes_go mpure_some mload_ptr mload_cptr mloadAt_row mstore_ptr mstoreAt_row set_hit set_miss del_miss none_apply set_set qpick_y qpick_n qpick_t qpick_f not_dec mfork_nn qnil_ptr qnil_cptr qextract_tup mbox_go mbs_slice mbin_add mbin_sub mbin_mul mbin_quo mbin_rem mbin_and mbin_or mbin_xor mbin_andNot mbin_eql mbin_neq mbin_lss mbin_leq mbin_gtr mbin_geq mbin_shl mbin_shr mbin_seql mbin_sneq mbin_sadd mbin_slss mbin_sgtr mbin_beql mbin_bneq mbin_pn mbin_np mbin_cn mbin_nn mbin_sl mbin_sn mbin_fz mbin_fn TK.isFn take_map' drop_map' app_map' List.length_take List.length_drop List.length_append getD_app toNat_succ if_pos if_neg set_over set_over2 set_over3 Fits del_set_hit none_del del_set_other eqV_eql eqV_neq mbin_agg maggEq_some dec_and dec_or meqs meqFields map_and mappend_go srcE msrcO mapp_nils mapp_lst mapp_vec mif_true mif_false mif_yes mif_no appRow mappv_row oneOf_one oneOf_two oneOf_nil cells_agg cells_int cells_bool cells_str cells_nilp cells_ptr cells_cptr cells_nils cells_lst cells_vec cells_nilm cells_mapv cells_nilfn cells_fn args0 mslice mfieldAddr mindexAddr mpart mindex mfield laid buildFrom mbuild mlen mmin2 mmax2 mun mconv msrc TK.isAgg TK.isSrc TK.isPtr TK.isSl TK.isBool cell_int cell_bool cell_str cell_nilp cell_ptr cell_cptr cell_nils cell_lst cell_vec cell_nilm cell_mapv cell_nilfn cell_fn cell_nili cell_iface cells_nili cells_iface fa_nil fa_cons List.map_cons List.map_nil List.length_cons List.length_nil List.length_map Int.toNat_natCast List.drop_succ_cons List.drop_zero List.drop_nil List.take_succ_cons List.take_zero List.take_nil List.getD_cons_zero List.getD_cons_succ List.getElem?_cons_zero List.getElem?_cons_succ List.set_cons_zero List.set_cons_succ List.all_cons List.all_nil List.cons_append List.nil_append List.append_nil List.toList_toArray Option.map_some Option.map_none Bool.and_self Bool.and_true Bool.true_and beq_self_eq_true IntWalk.i64_in IntWalk.u8_in IntWalk.u32_in IntWalk.i32_in IntWalk.u64_in decide_true decide_false Bool.not_true Bool.not_false if_true if_false and_true true_and and_self ne_eq not_true_eq_false not_false_eq_true eq_self reduceCtorEq MV.bool.injEq Nat.zero_add Nat.add_zero
end Go.Proofs.YtfbodefnblpflaaGreatDoor
end

section
/- Views: what is written no more may be seen as fixed; the frame of a call; calls of functions that write nothing. -/
set_option linter.unusedVariables false
set_option linter.unusedSimpArgs false
namespace Go.Proofs.YtfbodefnblpflaaGreatDoor
def St.le (σ1 σ : St) : Prop := ∀ l o, σ1 l = some o → σ l = some o
theorem St.le_refl (σ : St) : σ.le σ := fun _ _ h => h
theorem St.none_le (σ : St) : St.none.le σ := fun _ _ h => by simp [St.none] at h
theorem St.set_le {σ1 σ : St} {l : Nat} {o : MObj} (h : σ1.le σ) (hl : σ l = some o) : (σ1.set l o).le σ := fun k q hk => by
  by_cases e : k = l
  · subst e; rw [set_hit] at hk; rw [hl]; exact hk
  · rw [set_miss _ _ _ _ e] at hk; exact h k q hk
theorem R_le {x y : St} : R (x.le y) = x.le y := rfl
attribute [go_sem] R_le
/-- What holds of the store's part σv may be seen as fixed. -/
inductive View (σ : St) : MV → MV → Prop where
  | same (m : MV) : View σ m m
  | junk (m : MV) : View σ m .junk
  | nil (e : Nat) (t : Bool) : View σ .nils (.lst e [] t)
  | tight (e : Nat) (xs : List (List MV)) : View σ (.lst e xs true) (.lst e xs false)
  | vec {l lo n : Nat} {t : TypeId} {e : Nat} {xs : List (List MV)} (h : σ l = some (.row t e xs)) (hn : lo + n ≤ xs.length) : View σ (.vec e l lo n) (.lst e ((xs.drop lo).take n) false)
  | vecAll {l n : Nat} {t : TypeId} {e : Nat} {xs : List (List MV)} (h : σ l = some (.row t e xs)) (hn : n = xs.length) : View σ (.vec e l 0 n) (.lst e xs false)
  | ptr {l i o : Nat} {t : TypeId} {e : Nat} {xs : List (List MV)} (h : σ l = some (.row t e xs)) (hn : i < xs.length) : View σ (.ptr l i o) (.cptr ((xs.getD i []).drop o))
  | agg {ms ms' : List MV} (h : ms.length = ms'.length) (hc : ∀ (i : Nat) (m : MV), ms'[i]? = some m → m.isCell = true) (hv : ∀ (i : Nat) (m m' : MV), ms[i]? = some m → ms'[i]? = some m' → View σ m m') : View σ (.agg ms) (.agg ms')
  | tup {ms ms' : List MV} (h : ms.length = ms'.length) (hv : ∀ (i : Nat) (m m' : MV), ms[i]? = some m → ms'[i]? = some m' → View σ m m') : View σ (.tup ms) (.tup ms')
/-- The snapshots hold all that the store's blocks hold. -/
def Shot (Φ Φ' : Phi) (w : World) (σ : St) : Prop := Φ.le Φ' ∧ ∀ l o p R, σ l = some o → Φ.obj l = some p → p.blk = some R → ∀ off v, w.cell? ⟨R, off, none⟩ = some v → Φ'.snap ⟨R, off, none⟩ = some v
theorem OwnOk.cells {Φ : Phi} {w : World} {l : Nat} {t : TypeId} {e : Nat} {xs : List (List MV)} (h : OwnOk Φ w l (.row t e xs)) {p : Place} (hp : Φ.obj l = some p) {R : Nat} (hR : p.blk = some R) :
    ∀ (i : Nat) (x : List MV) (j : Nat) (m : MV), xs[i]? = some x → x[j]? = some m → m.isCell = true ∧ ∃ v, w.cell? ⟨R, p.bo + (i * e + j), none⟩ = some v ∧ Rel Φ v m := by
  obtain ⟨p', hp', he, h1, h2, h3, h4⟩ := h
  rw [hp] at hp'; cases hp'
  rw [hR] at h4
  obtain ⟨c, fz, hc, hf, hs, hv⟩ := h4
  intro i x j m hx hm
  obtain ⟨hcell, v, hv1, hv2⟩ := hv i x j m hx hm
  exact ⟨hcell, v, by simpa [World.cell?, hc] using hv1, hv2⟩
theorem OwnOk.cellsAt {Φ Φ' : Phi} {w : World} {l : Nat} {t : TypeId} {e : Nat} {xs : List (List MV)} (h : OwnOk Φ w l (.row t e xs)) {p : Place} (hp : Φ.obj l = some p) {R : Nat} (hR : p.blk = some R)
    (hle : Φ.le Φ') (hs : ∀ off v, w.cell? ⟨R, off, none⟩ = some v → Φ'.snap ⟨R, off, none⟩ = some v) : CellsAt Φ' R p.bo e xs := by
  refine ⟨h.e_eq, fun i j => (w.cell? ⟨R, p.bo + (i * e + j), none⟩).getD undef, fun i x j m hx hm => ?_⟩
  obtain ⟨hcell, v, hv1, hv2⟩ := h.cells hp hR i x j m hx hm
  have := hs _ _ hv1
  simp only [Nat.add_assoc] at this hv1 ⊢
  refine ⟨hcell, ?_, ?_⟩
  · rw [this, hv1]; rfl
  · rw [hv1]; exact hv2.mono hle
theorem view_vec {Φ Φ' : Phi} {w : World} {σ : St} (hi : Inv Φ w σ) (hs : Shot Φ Φ' w σ) {l lo n : Nat} {t : TypeId} {e : Nat} {xs : List (List MV)} (h : σ l = some (.row t e xs)) (hn : lo + n ≤ xs.length) {v : Value} (r : Rel Φ v (.vec e l lo n)) :
    Rel Φ' v (.lst e ((xs.drop lo).take n) false) := by
  obtain ⟨a, cap, p, rfl, hp, he, hcap, hn', hva⟩ := r.inv_vec
  have own := hi.own l _ h
  obtain ⟨p', hp', he', h1, h2, h3, h4⟩ := hi.own l _ h
  rw [hp] at hp'; cases hp'
  refine Rel.mk_lst (by simp; omega) hn' (by omega) (by simp) (fun ha => ?_) (fun h0 => ?_)
  · rcases hva with ⟨R, hR, ha'⟩ | hva
    · rw [ha'] at ha; cases ha
    · exact hva
  · rcases hva with ⟨R, hR, ha⟩ | hva
    · subst ha
      refine ⟨_, _, rfl, ?_⟩
      rw [he]
      exact ((own.cellsAt hp hR hs.1 (hs.2 l _ p R h hp hR)).drop).take
    · omega
theorem View.rel {Φ Φ' : Phi} {w : World} {σ : St} (hi : Inv Φ w σ) (hs : Shot Φ Φ' w σ) {m m' : MV} (h : View σ m m') : ∀ {v : Value}, Rel Φ v m → Rel Φ' v m' := by
  induction h with
  | same m => intro v r; exact r.mono hs.1
  | junk m => intro v r; exact .junk v
  | nil e t => intro v r; cases r; exact .lstn e t
  | tight e xs => intro v r; exact ((Weak.tight e xs).rel r).mono hs.1
  | vec h hn => intro v r; exact view_vec hi hs h hn r
  | @vecAll l n t e xs h hn =>
    intro v r
    have := view_vec hi hs h (lo := 0) (n := n) (by omega) r
    subst hn
    simpa using this
  | @ptr l i o t e xs h hn =>
    intro v r
    obtain ⟨p, R, hp, hR, rfl⟩ := r.inv_ptr
    have own := hi.own l _ h
    obtain ⟨p', hp', he', -⟩ := hi.own l _ h
    rw [hp] at hp'; cases hp'
    obtain ⟨-, vs, hv⟩ := own.cellsAt hp hR hs.1 (hs.2 l _ p R h hp hR)
    have hx : xs[i]? = some (xs.getD i []) := by simp [List.getD, List.getElem?_eq_getElem hn]
    refine .cptr (fun j => vs i (o + j)) (fun j m hm => ?_) (fun j m hm => ?_)
    all_goals
      rw [List.getElem?_drop] at hm
      have := hv i _ _ m hx hm
    · refine ⟨this.1, ?_⟩
      rw [he']
      simpa [Nat.add_assoc] using this.2.1
    · exact this.2.2
  | agg h hc hv ih =>
    intro v r
    obtain ⟨cs, rfl, h1, h2, h3⟩ := r.inv_agg
    refine .agg (by omega) hc (fun i m' hm' => ?_)
    have hlt := (List.getElem?_eq_some_iff.1 hm').1
    rename_i ms ms'
    obtain ⟨m, hm⟩ : ∃ m, ms[i]? = some m := ⟨_, List.getElem?_eq_getElem (by omega)⟩
    exact ih i m m' hm hm' (h3 i m hm)
  | tup h hv ih =>
    intro v r
    obtain ⟨cs, rfl, h1, h3⟩ := r.inv_tup
    refine .tup (by omega) (fun i m' hm' => ?_)
    have hlt := (List.getElem?_eq_some_iff.1 hm').1
    rename_i ms ms'
    obtain ⟨m, hm⟩ : ∃ m, ms[i]? = some m := ⟨_, List.getElem?_eq_getElem (by omega)⟩
    exact ih i m m' hm hm' (h3 i m hm)
/-- The snapshots with all of some blocks. -/
def Phi.shot (Φ : Phi) (w : World) (B : Nat → Prop) [DecidablePred B] : Phi := { Φ with snap := fun a => match Φ.snap a with | some v => some v | none => if B a.block then w.cell? a else none }
theorem shot_le (Φ : Phi) (w : World) (B : Nat → Prop) [DecidablePred B] : Φ.le (Φ.shot w B) := ⟨fun a v h => by simp [Phi.shot, h], fun _ _ h => h, rfl⟩
theorem shot_snap {Φ : Phi} {w : World} {B : Nat → Prop} [DecidablePred B] {a : Addr} {v : Value} (h : (Φ.shot w B).snap a = some v) : Φ.snap a = some v ∨ (B a.block ∧ w.cell? a = some v) := by
  simp only [Phi.shot] at h
  split at h
  · rename_i u hu; left; rw [hu, ← h]
  · split at h
    · rename_i hb; exact .inr ⟨hb, h⟩
    · cases h
theorem shot_of {Φ : Phi} {w : World} {σ : St} (hi : Inv Φ w σ) {B : Nat → Prop} [DecidablePred B] {σv : St} (hle : σv.le σ) (hB : ∀ R, Owned Φ σv R → B R) : Shot Φ (Φ.shot w B) w σv := by
  refine ⟨shot_le _ _ _, fun l o p R hl hp hR off v hv => ?_⟩
  have hb : B R := hB R ⟨l, o, p, hl, hp, hR⟩
  simp only [Phi.shot]
  split
  · rename_i u hu
    have := hi.snap _ _ hu
    rw [hv] at this
    exact this.symm
  · rw [if_pos hb]; exact hv
/-- A part of the store becomes fixed. -/
theorem Ghost.freeze {n : Nat} {l l1 : List (Nat × MV)} {d : List (FuncId × List MV)} {σ σ1 : St} (σv : St) (hle : σv.le σ) (h1 : σ1.le σ) (hd : ∀ k o, σ1 k = some o → σv k = none)
    (h : ∀ p, p ∈ l1 → View σv (lget l p.1) p.2) : Ghost ⟨n, l, d⟩ σ ⟨n, l1, d⟩ σ1 := by
  refine ⟨rfl, fun Φ w vs hi hr => ?_⟩
  classical
  have hs := shot_of (Φ := Φ) hi (B := Owned Φ σv) hle (fun R h => h)
  refine ⟨Φ.shot w (Owned Φ σv), ⟨?_, ?_, ?_, ?_, hi.fresh.1, fun g i v q => hs.1.snap _ _ (hi.fresh.2 g i v q)⟩, ⟨hr.1, ?_⟩, ⟨hs.1, rfl, rfl, rfl, Nat.le_refl _, Nat.le_refl _, fun _ _ _ => rfl, ?_, fun l o h => .inl ⟨o, h1 l o h⟩, fun R hR => .inl ?_⟩⟩
  · exact fun k o hk => (hi.own k o (h1 k o hk)).mono hs.1 (fun _ _ _ _ => rfl)
  · exact fun k k' o o' p p' R a b c e => hi.inj k k' o o' p p' R (h1 k o a) (h1 k' o' b) c e
  · intro a v hv
    rcases shot_snap hv with q | ⟨-, q⟩
    · exact hi.snap a v q
    · exact q
  · intro k o p R a v hk hp hR hv
    rcases shot_snap hv with q | ⟨⟨k2, o2, p2, q1, q2, q3⟩, -⟩
    · exact hi.apart k o p R a v (h1 k o hk) hp hR q
    · intro e
      rw [e] at q3
      have := hi.inj k k2 o o2 p p2 R (h1 k o hk) (hle k2 o2 q1) hp q2 hR q3
      subst this
      rw [hd k o hk] at q1
      cases q1
  · intro t
    show Rel _ _ (lget l1 t)
    have key : ∀ l1' : List (Nat × MV), (∀ p, p ∈ l1' → View σv (lget l p.1) p.2) → View σv (lget l t) (lget l1' t) := by
      intro l1'
      induction l1' with
      | nil => intro _; exact .junk _
      | cons q r ih =>
        obtain ⟨k, v⟩ := q
        intro h
        simp only [lget]
        split
        · rename_i ht; subst ht; exact h (t, v) (by simp)
        · exact ih fun q hq => h q (by simp [hq])
    exact (key l1 h).rel (hi.less hle) hs (hr.2 t)
  · intro a v hv
    rcases shot_snap hv with q | ⟨⟨k, o, p, q1, q2, q3⟩, -⟩
    · exact .inl q
    · exact .inr (.inr ⟨k, o, p, hle k o q1, q2, q3⟩)
  · obtain ⟨k, o, p, q1, q2, q3⟩ := hR
    exact ⟨k, o, p, h1 k o q1, q2, q3⟩
/-- An object whose cells may be seen as others. -/
def OView (σv : St) (o o1 : MObj) : Prop := o1 = o ∨ ∃ t e xs xs1, o = .row t e xs ∧ o1 = .row t e xs1 ∧ xs.length = xs1.length ∧ ∀ (i : Nat) (x x1 : List MV), xs[i]? = some x → xs1[i]? = some x1 → x.length = x1.length ∧
  ∀ (j : Nat) (m m1 : MV), x[j]? = some m → x1[j]? = some m1 → m1 = m ∨ (m1.isCell = true ∧ View σv m m1)
theorem OView.own {Φ Φ' : Phi} {w : World} {σv : St} {k : Nat} {o o1 : MObj} (hv : OView σv o o1) (h : OwnOk Φ w k o) (hle : Φ.le Φ') (hi : Inv Φ w σv) (hs : Shot Φ Φ' w σv) : OwnOk Φ' w k o1 := by
  rcases hv with rfl | ⟨t, e, xs, xs1, rfl, rfl, hl, hx⟩
  · exact h.mono hle (fun _ _ _ _ => rfl)
  · obtain ⟨p, hp, hpe, q1, q2, q3, q4⟩ := h
    have get : ∀ (i : Nat) (x1 : List MV), xs1[i]? = some x1 → ∃ x, xs[i]? = some x := fun i x1 h1 => by
      have := (List.getElem?_eq_some_iff.1 h1).1
      exact ⟨xs[i]'(by omega), by simp⟩
    refine ⟨p, hle.obj _ _ hp, hpe, by omega, q2, fun i x1 h1 => ?_, ?_⟩
    · obtain ⟨x, hx0⟩ := get i x1 h1
      rw [← (hx i x x1 hx0 h1).1]
      exact q3 i x hx0
    · cases hb : p.blk with
      | none => rw [hb] at q4; exact q4
      | some R =>
        rw [hb] at q4
        obtain ⟨c, fz, k1, k2, k3, k4⟩ := q4
        refine ⟨c, fz, k1, k2, k3, fun i x1 j m1 h1 hm1 => ?_⟩
        obtain ⟨x, hx0⟩ := get i x1 h1
        obtain ⟨hlen, hview⟩ := hx i x x1 hx0 h1
        have hj := (List.getElem?_eq_some_iff.1 hm1).1
        obtain ⟨m, hm⟩ : ∃ m, x[j]? = some m := ⟨x[j]'(by omega), by simp⟩
        obtain ⟨hc0, v, hcv, hrel⟩ := k4 i x j m hx0 hm
        rcases hview j m m1 hm hm1 with rfl | ⟨hc, hv⟩
        · exact ⟨hc0, v, hcv, hrel.mono hle⟩
        · exact ⟨hc, v, hcv, hv.rel hi hs hrel⟩
/-- A part of the store becomes fixed, also as what other objects hold. -/
theorem Ghost.freezeIn {n : Nat} {l l1 : List (Nat × MV)} {d : List (FuncId × List MV)} {σ σ1 : St} (σv : St) (hle : σv.le σ) (h1 : ∀ k o1, σ1 k = some o1 → ∃ o, σ k = some o ∧ OView σv o o1) (hd : ∀ k o, σ1 k = some o → σv k = none)
    (h : ∀ p, p ∈ l1 → View σv (lget l p.1) p.2) : Ghost ⟨n, l, d⟩ σ ⟨n, l1, d⟩ σ1 := by
  refine ⟨rfl, fun Φ w vs hi hr => ?_⟩
  classical
  have hs := shot_of (Φ := Φ) hi (B := Owned Φ σv) hle (fun R h => h)
  refine ⟨Φ.shot w (Owned Φ σv), ⟨?_, ?_, ?_, ?_, hi.fresh.1, fun g i v q => hs.1.snap _ _ (hi.fresh.2 g i v q)⟩, ⟨hr.1, ?_⟩, ⟨hs.1, rfl, rfl, rfl, Nat.le_refl _, Nat.le_refl _, fun _ _ _ => rfl, ?_, fun l o h => ?_, fun R hR => .inl ?_⟩⟩
  · intro k o1 hk
    obtain ⟨o, ho, hv⟩ := h1 k o1 hk
    exact hv.own (hi.own k o ho) hs.1 (hi.less hle) hs
  · intro k k' o o' p p' R a b c e
    obtain ⟨q, hq, -⟩ := h1 k o a
    obtain ⟨q', hq', -⟩ := h1 k' o' b
    exact hi.inj k k' q q' p p' R hq hq' c e
  · intro a v hv
    rcases shot_snap hv with q | ⟨-, q⟩
    · exact hi.snap a v q
    · exact q
  · intro k o p R a v hk hp hR hv
    obtain ⟨o0, ho0, -⟩ := h1 k o hk
    rcases shot_snap hv with q | ⟨⟨k2, o2, p2, q1, q2, q3⟩, -⟩
    · exact hi.apart k o0 p R a v ho0 hp hR q
    · intro e
      rw [e] at q3
      have := hi.inj k k2 o0 o2 p p2 R ho0 (hle k2 o2 q1) hp q2 hR q3
      subst this
      rw [hd k o hk] at q1
      cases q1
  · intro t
    show Rel _ _ (lget l1 t)
    have key : ∀ l1' : List (Nat × MV), (∀ p, p ∈ l1' → View σv (lget l p.1) p.2) → View σv (lget l t) (lget l1' t) := by
      intro l1'
      induction l1' with
      | nil => intro _; exact .junk _
      | cons q r ih =>
        obtain ⟨k, v⟩ := q
        intro h
        simp only [lget]
        split
        · rename_i ht; subst ht; exact h (t, v) (by simp)
        · exact ih fun q hq => h q (by simp [hq])
    exact (key l1 h).rel (hi.less hle) hs (hr.2 t)
  · intro a v hv
    rcases shot_snap hv with q | ⟨⟨k, o, p, q1, q2, q3⟩, -⟩
    · exact .inl q
    · exact .inr (.inr ⟨k, o, p, hle k o q1, q2, q3⟩)
  · obtain ⟨o0, ho0, -⟩ := h1 l o h
    exact .inl ⟨o0, ho0⟩
  · obtain ⟨k, o, p, q1, q2, q3⟩ := hR
    obtain ⟨o0, ho0, -⟩ := h1 k o q1
    exact ⟨k, o0, p, ho0, q2, q3⟩
/-- Less known of the slots, less of the store. -/
theorem Ghost.less {n : Nat} {l l1 : List (Nat × MV)} {d : List (FuncId × List MV)} {σ σ1 : St} (h : ∀ p, p ∈ l1 → Weak (lget l p.1) p.2) (hs : σ1.le σ) : Ghost ⟨n, l, d⟩ σ ⟨n, l1, d⟩ σ1 :=
  (Ghost.keep h).trans (Ghost.drop hs)
end Go.Proofs.YtfbodefnblpflaaGreatDoor
end

section
/- The frame of a call; calls of functions that write nothing of ours; nil as an empty row. -/
set_option linter.unusedVariables false
set_option linter.unusedSimpArgs false
namespace Go.Proofs.YtfbodefnblpflaaGreatDoor
/-- An empty slice becomes a row of its own. -/
theorem Gh.row {n : Nat} {l : List (Nat × MV)} {d : List (FuncId × List MV)} {σ : St} {K : FR → St → Prop} (t : TypeId) (e : Nat) (l1 : Nat → List (Nat × MV))
    (h1 : ∀ k, ∀ p, p ∈ l1 k → lget l p.1 = p.2 ∨ (p.2 = .vec e k 0 0 ∧ (lget l p.1 = .nils ∨ lget l p.1 = .lst e [] true)))
    (h : ∀ k, σ k = none → Gh ⟨n, l1 k, d⟩ (σ.set k (.row t e [])) K) : Gh ⟨n, l, d⟩ σ K := by
  intro Φ w vs hi hr
  obtain ⟨k, hk, hk'⟩ := inv_eq hi
  obtain ⟨v1, v2, -⟩ := virt_row hi (fun _ _ h => h) hk t e none
  have hfr : FRel (Φ.put k ⟨none, 0, e, 0⟩) vs ⟨n, l1 k, d⟩ := by
    refine ⟨hr.1, fun s => ?_⟩
    show Rel _ _ (lget (l1 k) s)
    have key : ∀ l2 : List (Nat × MV), (∀ p, p ∈ l2 → lget l p.1 = p.2 ∨ (p.2 = .vec e k 0 0 ∧ (lget l p.1 = .nils ∨ lget l p.1 = .lst e [] true))) → Rel (Φ.put k ⟨none, 0, e, 0⟩) (vs.getD s undef) (lget l2 s) := by
      intro l2
      induction l2 with
      | nil => intro _; exact .junk _
      | cons q r ih =>
        obtain ⟨j, v⟩ := q
        intro h
        simp only [lget]
        split
        · rename_i ht
          subst ht
          have hs := hr.2 s
          change Rel Φ _ (lget l s) at hs
          rcases h (s, v) (by simp) with q | ⟨q1, q2 | q2⟩
          · simp only at q; rw [← q]; exact hs.mono v2.le
          · simp only at q1 q2
            rw [q2] at hs
            have := hs.inv_nils
            rw [this, q1]
            exact (virt_row hi (fun _ _ h => h) hk t e none).2.2
          · simp only at q1 q2
            rw [q2] at hs
            obtain ⟨a, cap, hv, -, -, h0, -⟩ := hs.inv_lst
            have hcap : cap = 0 := by simpa using h0 rfl
            subst hcap
            rw [hv, q1]
            exact (virt_row hi (fun _ _ h => h) hk t e a).2.2
        · exact ih fun q hq => h q (by simp [hq])
    exact key _ (h1 k)
  obtain ⟨f2, σ2, Φ2, e2, k2, i2, r2, s2⟩ := h k hk' _ w vs v1 hfr
  exact ⟨f2, σ2, Φ2, e2, k2, i2, r2, v2.trans s2⟩
/-- An empty slice in an object becomes a row of its own. -/
theorem Gh.rowIn {f : FR} {σ : St} {K : FR → St → Prop} {b : Nat} {t : TypeId} {e : Nat} {pre post : List MV} (t' : TypeId) (e' : Nat) (hs : σ b = some (.row t e [pre ++ .nils :: post]))
    (h : ∀ k, σ k = none → Gh f ((σ.set b (.row t e [pre ++ .vec e' k 0 0 :: post])).set k (.row t' e' [])) K) : Gh f σ K := by
  intro Φ w vs hi hr
  obtain ⟨k, hk, hk'⟩ := inv_eq hi
  obtain ⟨v1, v2, -⟩ := virt_row hi (fun _ _ h => h) hk t' e' none
  have hbk : b ≠ k := fun e => by subst e; rw [hs] at hk'; cases hk'
  have hs' : (σ.set k (.row t' e' [])) b = some (.row t e [pre ++ .nils :: post]) := by rw [set_miss _ _ _ _ hbk]; exact hs
  obtain ⟨p, hp, hpe, q1, q2, q3, q4⟩ := v1.own b _ hs'
  have hown : OwnOk (Φ.put k ⟨none, 0, e', 0⟩) w b (.row t e [pre ++ .vec e' k 0 0 :: post]) := by
    refine ⟨p, hp, hpe, by simpa using q1, q2, fun i x hx => ?_, ?_⟩
    · match i with
      | 0 =>
        simp only [List.getElem?_cons_zero, Option.some.injEq] at hx
        subst hx
        have := q3 0 _ rfl
        simpa using this
      | i + 1 => simp at hx
    · cases hb : p.blk with
      | none => rw [hb] at q4; exact q4
      | some R =>
        rw [hb] at q4
        obtain ⟨c, fz, k1, k2, k3, k4⟩ := q4
        refine ⟨c, fz, k1, k2, k3, fun i x j m hx hm => ?_⟩
        match i with
        | 0 =>
          simp only [List.getElem?_cons_zero, Option.some.injEq] at hx
          subst hx
          by_cases hj : j = pre.length
          · subst hj
            simp at hm
            subst hm
            obtain ⟨-, v, hv, hrel⟩ := k4 0 _ pre.length .nils rfl (by simp)
            have := hrel.inv_nils
            subst this
            exact ⟨rfl, _, hv, .vecn (p := ⟨none, 0, e', 0⟩) (Phi.put_obj _ _ _) rfl rfl⟩
          · refine k4 0 _ j m rfl ?_
            rw [← hm]
            by_cases h : j < pre.length
            · rw [List.getElem?_append_left h, List.getElem?_append_left h]
            · rw [List.getElem?_append_right (by omega), List.getElem?_append_right (by omega)]
              obtain ⟨q, hq⟩ : ∃ q, j - pre.length = q + 1 := ⟨j - pre.length - 1, by omega⟩
              rw [hq, List.getElem?_cons_succ, List.getElem?_cons_succ]
        | i + 1 => simp at hx
  have i2 : Inv (Φ.put k ⟨none, 0, e', 0⟩) w ((σ.set k (.row t' e' [])).set b (.row t e [pre ++ .vec e' k 0 0 :: post])) := by
    refine v1.upd (.refl _) (fun _ => rfl) b _ p hp (fun m o q => St.set_cases q) (fun m o q R hm hs2 hq hR => ?_) (fun a v h => ?_) hown v1.fresh.1
    · rcases St.set_cases hs2 with ⟨_, q1⟩ | ⟨q1, _⟩
      · exact ⟨rfl, fun e2 => hm (v1.inj m b _ _ q p R q1 hs' hq hp hR e2)⟩
      · exact absurd q1 hm
    · exact ⟨rfl, fun e2 => v1.apart b _ p _ a v hs' hp e2 h rfl⟩
  have hst : (σ.set k (.row t' e' [])).set b (.row t e [pre ++ .vec e' k 0 0 :: post]) = (σ.set b (.row t e [pre ++ .vec e' k 0 0 :: post])).set k (.row t' e' []) := set_comm _ _ _ (Ne.symm hbk)
  rw [hst] at i2
  obtain ⟨f2, σ2, Φ2, e2, k2, j2, r2, s2⟩ := h k hk' _ w vs i2 (hr.mono v2.le)
  refine ⟨f2, σ2, Φ2, e2, k2, j2, r2, .trans ?_ s2⟩
  refine ⟨v2.le, rfl, rfl, rfl, Nat.le_refl _, Nat.le_refl _, fun _ _ _ => rfl, fun _ _ h => .inl h, fun m o q => ?_, fun R hR => ?_⟩
  · rcases St.set_cases q with ⟨_, q1⟩ | ⟨rfl, _⟩
    · rcases St.set_cases q1 with ⟨_, q2⟩ | ⟨rfl, _⟩
      · exact .inl ⟨_, q2⟩
      · exact .inl ⟨_, hs⟩
    · exact .inr hk
  · obtain ⟨m, o1, p1, t1, t2, t3⟩ := hR
    refine v2.ownd R ?_
    rcases St.set_cases t1 with ⟨hm, q1⟩ | ⟨rfl, rfl⟩
    · rcases St.set_cases q1 with ⟨_, q2⟩ | ⟨rfl, _⟩
      · exact ⟨m, o1, p1, by rw [set_miss _ _ _ _ hm]; exact q2, t2, t3⟩
      · exact ⟨m, _, p1, hs', t2, t3⟩
    · exact ⟨m, _, p1, set_hit _ _ _, t2, t3⟩
def St.over (x y : St) : St := fun l => match x l with | some o => some o | Option.none => y l
def St.minus (x y : St) : St := fun l => match y l with | some _ => Option.none | Option.none => x l
theorem over_some {x y : St} {l : Nat} {o : MObj} (h : (St.over x y) l = some o) : x l = some o ∨ (x l = none ∧ y l = some o) := by
  simp only [St.over] at h
  split at h
  · rename_i q hq; exact .inl (by rw [hq, h])
  · rename_i hq; exact .inr ⟨hq, h⟩
theorem minus_some {x y : St} {l : Nat} {o : MObj} (h : (St.minus x y) l = some o) : y l = none ∧ x l = some o := by
  simp only [St.minus] at h
  split at h
  · cases h
  · rename_i hq; exact ⟨hq, h⟩
/-- What a call does not name stays. -/
theorem MCalls.frame {P : Program} {g : FuncId} {ms : List MV} {σa σ : St} {Q : MV → St → Prop} (h : MCalls P g ms σa Q) (hle : σa.le σ) :
    MCalls P g ms σ fun v σ1 => ∃ σ', Q v σ' ∧ σ1 = σ'.over (σ.minus σa) ∧ ∀ l o, σ' l = some o → σ l = none ∨ ∃ o', σa l = some o' := by
  refine ⟨h.1, fun Φ w vs hi hr => (h.2 Φ w vs (hi.less hle) hr).mono ?_⟩
  rintro e w' ⟨v, mv, σ', Φ', rfl, r1, i1, s1, hq⟩
  have rest : ∀ l o, (σ.minus σa) l = some o → ∃ p, Φ.obj l = some p ∧ Φ'.obj l = some p ∧ ∀ R, p.blk = some R → R < w.heap.size ∧ ¬ Owned Φ σa R ∧ w'.heap[R]? = w.heap[R]? := by
    intro l o hl
    obtain ⟨q1, q2⟩ := minus_some hl
    obtain ⟨p, hp, hR⟩ := (hi.own l o q2).place
    refine ⟨p, hp, s1.le.obj _ _ hp, fun R hb => ?_⟩
    have hno : ¬ Owned Φ σa R := by
      rintro ⟨l2, o2, p2, u1, u2, u3⟩
      have := hi.inj l l2 o o2 p p2 R q2 (hle _ _ u1) hp u2 hb u3
      subst this
      rw [q1] at u1; cases u1
    exact ⟨hR R hb, hno, s1.block R (hR R hb) hno⟩
  have hdis : ∀ l o, σ' l = some o → σ l = none ∨ ∃ o', σa l = some o' := by
    intro l o hl
    rcases s1.locs l o hl with q | q
    · exact .inr q
    · exact .inl (hi.obj_none q)
  have hnew : ∀ l o p R, σ' l = some o → Φ'.obj l = some p → p.blk = some R → Owned Φ σa R ∨ w.heap.size ≤ R := fun l o p R a b c => s1.ownd R ⟨l, o, p, a, b, c⟩
  refine ⟨v, mv, σ'.over (σ.minus σa), Φ', rfl, r1, ⟨?_, ?_, i1.snap, ?_, i1.fresh⟩, ⟨s1.le, s1.os, s1.tape, s1.output, s1.drawn, s1.size, ?_, ?_, ?_, ?_⟩, σ', hq, rfl, hdis⟩
  · intro l o hl
    rcases over_some hl with q | ⟨q1, q2⟩
    · exact i1.own l o q
    · obtain ⟨p, hp, hp', hR⟩ := rest l o q2
      exact (hi.own l o (minus_some q2).2).mono s1.le fun p1 R h1 h2 => by
        rw [hp] at h1; cases h1
        exact (hR R h2).2.2
  · intro l l' o o' p p' R hl hl' hp hp' hb hb'
    rcases over_some hl with q | ⟨q1, q2⟩ <;> rcases over_some hl' with q' | ⟨q1', q2'⟩
    · exact i1.inj l l' o o' p p' R q q' hp hp' hb hb'
    · obtain ⟨p2, u1, u2, u3⟩ := rest l' o' q2'
      rw [hp'] at u2; cases u2
      rcases hnew l o p R q hp hb with k | k
      · exact absurd k (u3 R hb').2.1
      · have := (u3 R hb').1; omega
    · obtain ⟨p2, u1, u2, u3⟩ := rest l o q2
      rw [hp] at u2; cases u2
      rcases hnew l' o' p' R q' hp' hb' with k | k
      · exact absurd k (u3 R hb).2.1
      · have := (u3 R hb).1; omega
    · obtain ⟨p2, u1, u2, u3⟩ := rest l o q2
      rw [hp] at u2; cases u2
      obtain ⟨p3, v1, v2, v3⟩ := rest l' o' q2'
      rw [hp'] at v2; cases v2
      exact hi.inj l l' o o' p p' R (minus_some q2).2 (minus_some q2').2 u1 v1 hb hb'
  · intro l o p R a u hl hp hb hu
    rcases over_some hl with q | ⟨q1, q2⟩
    · exact i1.apart l o p R a u q hp hb hu
    · obtain ⟨p2, u1, u2, u3⟩ := rest l o q2
      rw [hp] at u2; cases u2
      intro e
      rcases s1.snapn a u hu with k | k | k
      · exact hi.apart l o p R a u (minus_some q2).2 u1 hb k e
      · have := (u3 R hb).1; omega
      · rw [e] at k; exact (u3 R hb).2.1 k
  · exact fun k hk hno => s1.block k hk fun q => hno (q.less hle)
  · intro a u hu
    rcases s1.snapn a u hu with k | k | k
    · exact .inl k
    · exact .inr (.inl k)
    · exact .inr (.inr (k.less hle))
  · intro l o hl
    rcases over_some hl with q | ⟨q1, q2⟩
    · rcases s1.locs l o q with ⟨o', k⟩ | k
      · exact .inl ⟨o', hle _ _ k⟩
      · exact .inr k
    · exact .inl ⟨o, (minus_some q2).2⟩
  · rintro R ⟨l, o, p, hl, hp, hb⟩
    rcases over_some hl with q | ⟨q1, q2⟩
    · rcases hnew l o p R q hp hb with k | k
      · exact .inl (k.less hle)
      · exact .inr k
    · obtain ⟨p2, u1, u2, u3⟩ := rest l o q2
      rw [hp] at u2; cases u2
      exact .inl ⟨l, o, p, (minus_some q2).2, u1, hb⟩
/-- Less of the store behind a call. -/
theorem MCalls.less {P : Program} {g : FuncId} {ms : List MV} {σ : St} {Q Q' : MV → St → Prop} (h : MCalls P g ms σ Q') (hq : ∀ v σ', Q' v σ' → ∃ σ1, σ1.le σ' ∧ Q v σ1) : MCalls P g ms σ Q := by
  refine ⟨h.1, fun Φ w vs hi hr => (h.2 Φ w vs hi hr).mono ?_⟩
  rintro e w' ⟨v, mv, σ', Φ', rfl, r1, i1, s1, k⟩
  obtain ⟨σ1, hle, hk⟩ := hq mv σ' k
  exact ⟨v, mv, σ1, Φ', rfl, r1, i1.less hle, s1.trans (.less _ hle), hk⟩
/-- Behind a call more of the store may be there. -/
theorem MCalls.drops {P : Program} {g : FuncId} {ms : List MV} {σ : St} {Q : MV → St → Prop} (h : MCalls P g ms σ fun v σ' => ∃ σ1, σ1.le σ' ∧ Q v σ1) : MCalls P g ms σ Q := h.less fun _ _ k => k
theorem minus_none (σ : St) : σ.minus St.none = σ := by funext l; simp [St.minus, St.none]
/-- A function that owns nothing. -/
theorem MCalls.pure {P : Program} {g : FuncId} {ms : List MV} {σ : St} {q : MV → Prop} (h : MCalls P g ms St.none fun v _ => q v) : MCalls P g ms σ fun v σ' => q v ∧ σ' = σ := by
  refine (h.frame (St.none_le σ)).less ?_
  rintro v σ1 ⟨σ', hq, rfl, hd⟩
  refine ⟨σ, fun l o hl => ?_, hq, rfl⟩
  rw [minus_none]
  simp only [St.over]
  cases hs : σ' l with
  | none => exact hl
  | some o' =>
    rcases hd l o' hs with k | ⟨_, k⟩
    · rw [hl] at k; cases k
    · simp [St.none] at k
theorem MCalls.mono_pure {P : Program} {g : FuncId} {ms : List MV} {q : MV → Prop} (h : MCalls P g ms St.none fun v _ => q v) : MCalls P g ms St.none fun v σ' => q v ∧ σ' = St.none := h.pure
theorem use_pure {P : Program} {g : FuncId} {ms : List MV} {σ : St} {r : MV} {k : MV → St → Prop} (h : MCalls P g ms St.none fun v _ => v = r) (hk : R (mlet r σ k)) : R (mcallE P g ms σ k) := by
  refine (MCalls.pure (σ := σ) h).mono ?_
  rintro v σ' ⟨rfl, rfl⟩
  exact hk
/-- A value that says nothing of memory. -/
inductive Flat : MV → Prop where
  | junk : Flat .junk
  | bool (b : Bool) : Flat (.bool b)
  | int (k : IntKind) (n : Int) : Flat (.int k n)
  | str (s : ByteArray) : Flat (.str s)
  | nilp : Flat .nilp
  | nils : Flat .nils
  | lst0 (e : Nat) : Flat (.lst e [] true)
  | nilm : Flat .nilm
  | nilfn : Flat .nilfn
  | nili : Flat .nili
  | agg {cs : List MV} (h : ∀ c, c ∈ cs → Flat c) : Flat (.agg cs)
  | tup {cs : List MV} (h : ∀ c, c ∈ cs → Flat c) : Flat (.tup cs)
theorem Flat.rel {Φ Φ' : Phi} {m : MV} (h : Flat m) : ∀ {v : Value}, Rel Φ v m → Rel Φ' v m := by
  induction h with
  | junk => intro v r; exact .junk v
  | bool b => intro v r; cases r; exact .bool b
  | int k n => intro v r; cases r; exact .int k n
  | str s => intro v r; cases r; exact .str s
  | nilp => intro v r; cases r; exact .nilp
  | nils => intro v r; cases r; exact .nils
  | nilm => intro v r; cases r; exact .nilm
  | nilfn => intro v r; cases r; exact .nilfn
  | nili => intro v r; cases r; exact .nili
  | lst0 e =>
    intro v r
    cases r with
    | lstn => exact .lstn e true
    | lst0 a e cap t ht hm => exact .lst0 a e cap true ht hm
    | lst hl h0 => simp at hl; omega
  | agg h ih =>
    intro v r
    cases r with
    | agg h hc hr => exact .agg h hc (fun i m hm => ih m (List.mem_of_getElem? hm) (hr i m hm))
  | tup h ih =>
    intro v r
    cases r with
    | tup h hr => exact .tup h (fun i m hm => ih m (List.mem_of_getElem? hm) (hr i m hm))
/-- What is ours is lent to a function that writes nothing of ours, and whose result says nothing of memory. -/
theorem MCalls.lend {P : Program} {g : FuncId} {ms ms' : List MV} {σ : St} {q : MV → Prop} (h : MCalls P g ms' St.none fun v _ => q v) (hf : ∀ r, q r → Flat r) (hl : ms.length = ms'.length)
    (hv : ∀ (i : Nat) (m m' : MV), ms[i]? = some m → ms'[i]? = some m' → View σ m m') : MCalls P g ms σ fun v σ' => q v ∧ σ' = σ := by
  refine ⟨h.1, fun Φ w vs hi hr => ?_⟩
  classical
  have hs : Shot Φ (Φ.shot w (fun _ => True)) w σ := shot_of hi (St.le_refl σ) (fun _ _ => trivial)
  have hi' : Inv (Φ.shot w (fun _ => True)) w St.none := by
    refine ⟨fun l o hl => by simp [St.none] at hl, fun l l' o o' p p' R hl => by simp [St.none] at hl, fun a v hv => ?_, fun l o p R a v hl => by simp [St.none] at hl, hi.fresh.1, fun g i v q => (shot_le _ _ _).snap _ _ (hi.fresh.2 g i v q)⟩
    rcases shot_snap hv with q | ⟨-, q⟩
    · exact hi.snap a v q
    · exact q
  have hr' : Rels (Φ.shot w (fun _ => True)) vs ms' := by
    refine ⟨hr.1.trans hl, fun i m' hm' => ?_⟩
    have hlt := (List.getElem?_eq_some_iff.1 hm').1
    obtain ⟨m, hm⟩ : ∃ m, ms[i]? = some m := ⟨_, List.getElem?_eq_getElem (by omega)⟩
    exact (hv i m m' hm hm').rel hi hs (hr.2 i m hm)
  refine (h.2 _ w vs hi' hr').mono ?_
  rintro e w' ⟨v, mv, σ', Φ', rfl, r1, i1, s1, hq⟩
  have hblk : ∀ k, k < w.heap.size → w'.heap[k]? = w.heap[k]? := fun k hk => s1.block k hk fun ⟨l, o, p, a, _⟩ => by simp [St.none] at a
  have hown : ∀ l o, σ l = some o → OwnOk Φ w' l o := fun l o hl' => by
    obtain ⟨p, hp, hR⟩ := (hi.own l o hl').place
    exact (hi.own l o hl').mono (.refl Φ) fun p1 R h1 h2 => by
      rw [hp] at h1; cases h1
      exact hblk R (hR R h2)
  refine ⟨v, mv, σ, Φ, rfl, (hf mv hq).rel r1, ⟨hown, hi.inj, fun a u hu => ?_, hi.apart, hi.fresh⟩, ⟨.refl Φ, s1.os, s1.tape, s1.output, s1.drawn, s1.size, fun k hk _ => hblk k hk, fun _ _ h => .inl h, fun l o h => .inl ⟨o, h⟩, fun _ h => .inl h⟩, hq, rfl⟩
  have h1 := hi.snap a u hu
  have := World.block_lt_of_cell? w a h1
  rw [World.cell?_heap (hblk _ this)]
  exact h1
theorem use_lend {P : Program} {g : FuncId} {ms : List MV} (ms' : List MV) {σ : St} {r : MV} {k : MV → St → Prop} (h : MCalls P g ms' St.none fun v _ => v = r) (hf : Flat r) (hl : ms.length = ms'.length)
    (hv : ∀ (i : Nat) (m m' : MV), ms[i]? = some m → ms'[i]? = some m' → View σ m m') (hk : R (mlet r σ k)) : R (mcallE P g ms σ k) := by
  refine (MCalls.lend (σ := σ) h (fun _ e => e ▸ hf) hl hv).mono ?_
  rintro v σ' ⟨rfl, rfl⟩
  exact hk
/-- A call of a function with a store of its own. -/
theorem use_frame {P : Program} {g : FuncId} {ms : List MV} {σa σ : St} {Q k : MV → St → Prop} (h : MCalls P g ms σa Q) (hle : σa.le σ)
    (hk : ∀ v σ', Q v σ' → (∀ l o, σ' l = some o → σ l = none ∨ ∃ o', σa l = some o') → R (mlet v (σ'.over (σ.minus σa)) k)) : R (mcallE P g ms σ k) := by
  refine (h.frame hle).mono ?_
  rintro v σ1 ⟨σ', hq, rfl, hd⟩
  exact hk v σ' hq hd
theorem over_minus {σ σa : St} (h : σa.le σ) : σa.over (σ.minus σa) = σ := by
  funext l
  simp only [St.over, St.minus]
  cases ha : σa l with
  | none => rfl
  | some o => exact (h l o ha).symm
theorem over_set (x y : St) (l : Nat) (o : MObj) : (x.set l o).over y = (x.over y).set l o := by
  funext k
  simp only [St.over, St.set]
  by_cases h : k = l
  · simp [h]
  · simp [h]
theorem over_none (y : St) : St.none.over y = y := rfl
theorem minus_set (x y : St) (l : Nat) (o : MObj) : x.minus (y.set l o) = (x.minus y).del l := by
  funext k
  simp only [St.minus, St.set, St.del]
  by_cases h : k = l
  · simp [h]
  · simp [h]
/-- The result, seen as fixed; the store goes. -/
theorem MCalls.seen {P : Program} {g : FuncId} {ms : List MV} {σ : St} {r : MV} (h : MCalls P g ms σ fun v σ' => View σ' v r) : MCalls P g ms σ fun v _ => v = r := by
  refine MCalls.ghost (h.mono fun v σ' hv => ⟨r, St.none, ?_, rfl⟩)
  exact Ghost.freeze σ' (St.le_refl _) (St.none_le _) (fun k o hk => by simp [St.none] at hk) (fun p hp => by
    simp only [List.mem_singleton] at hp
    subst hp
    simpa [lget] using hv)
theorem View.two {σ : St} {a b a' b' : MV} (h : View σ a a') (k : View σ b b') : View σ (.tup [a, b]) (.tup [a', b']) := by
  refine .tup rfl fun i m m' hm hm' => ?_
  match i with
  | 0 => simp only [List.getElem?_cons_zero, Option.some.injEq] at hm hm'; subst hm; subst hm'; exact h
  | 1 => simp only [List.getElem?_cons_succ, List.getElem?_cons_zero, Option.some.injEq] at hm hm'; subst hm; subst hm'; exact k
  | i + 2 => simp at hm
/-! ## Short names -/
theorem wT {σ : St} {K : Nat → Prop} (h : R (mnew σ K)) : R (mnew σ K) := h
theorem wN {σ : St} {K : Nat → Prop} (h : ∀ l, σ l = none → R (K l)) : R (mnew σ K) := h
theorem wS {σ : St} {l k : Nat} {o : MObj} {p : Prop} (h : l ≠ k → k ≠ l → σ l = none → p) : (σ.set k o) l = none → p := set_none_intro h
theorem wI {c A B : Prop} (h1 : c → R A) (h2 : ¬ c → R B) : R (mif c A B) := mif_go h1 h2
theorem wF {p : Prop} [Decidable p] {A B : Prop} (h1 : p → R A) (h2 : ¬ p → R B) : R (mfork (.bool (decide p)) A B) := mfork_dec h1 h2
theorem wG {p : Prop} [Decidable p] {A B : Prop} (h1 : p → R A) (h2 : ¬ p → R B) : R (mgfork (.bool (decide p)) true A B) := mgfork_dec h1 h2
theorem wH {p : Prop} [Decidable p] {A B : Prop} (h1 : ¬ p → R A) (h2 : p → R B) : R (mgfork (.bool (decide p)) false A B) := mgfork_dec' h1 h2
theorem wL {α : Type} {β : Type} : (∀ a b : List α, (a ++ b).length = a.length + b.length) ∧ (∀ (a : List α) (i : Nat), (a.take i).length = min i a.length) ∧ (∀ (a : List α) (i : Nat), (a.drop i).length = a.length - i) ∧
    (∀ (x : α) (a : List α), (x :: a).length = a.length + 1) ∧ ([] : List α).length = 0 ∧ (∀ (g : α → β) (a : List α), (a.map g).length = a.length) ∧ (∀ (a : List α) (i : Nat) (x : α), (a.set i x).length = a.length) ∧
    (∀ (n : Nat) (x : α), (List.replicate n x).length = n) :=
  ⟨fun _ _ => List.length_append, fun _ _ => List.length_take, fun _ _ => List.length_drop, fun _ _ => rfl, rfl, fun _ _ => List.length_map _, fun _ _ _ => List.length_set, fun _ _ => List.length_replicate⟩
theorem up {P : Program} {g : FuncId} {ms : List MV} {σ : St} {r : MV} {k : MV → St → Prop} (h : MCalls P g ms St.none fun v _ => v = r) (hk : R (mlet r σ k)) : R (mcallE P g ms σ k) := use_pure h hk
end Go.Proofs.YtfbodefnblpflaaGreatDoor
end

section
/- Filters as data: values, nodes, their order; sorted lists without doubles. No program in sight. -/
set_option linter.unusedVariables false
set_option linter.unusedSimpArgs false
namespace Go.Proofs.YtfbodefnblpflaaGreatDoor
structure VA where
  kd : Int
  n : Int
  s : ByteArray
  deriving DecidableEq
abbrev VA.c (v : VA) : List MV := [.int .i64 v.kd, .int .i64 v.n, .str v.s]
def va0 : VA := ⟨0, 0, ⟨#[]⟩⟩
structure ND where
  op : Int
  n : Int
  v : VA
  deriving DecidableEq
abbrev ND.c (x : ND) : List MV := [.int .i64 x.op, .int .i64 x.n, .int .i64 x.v.kd, .int .i64 x.v.n, .str x.v.s]
def nd0 : ND := ⟨0, 0, va0⟩
theorem getD_mapd {α : Type} {f : α → List MV} {l : List α} {n : Nat} (d : α) (h : n < l.length) : (l.map f).getD n [] = f (l.getD n d) := by simp [List.getD, h]
theorem dec_not_self {α : Sort _} [DecidableEq α] {a : α} : decide (¬ a = a) = false := by simp
theorem nd_ext {x y : ND} (h : x.op = y.op ∧ x.n = y.n ∧ x.v.kd = y.v.kd ∧ x.v.n = y.v.n ∧ x.v.s = y.v.s) : x = y := by
  obtain ⟨a, b, c, d, e⟩ := x
  obtain ⟨a', b', c', d', e'⟩ := y
  simp only at h
  obtain ⟨rfl, rfl, rfl, rfl, rfl⟩ := h
  rfl
theorem getD_of_lt {α : Type} {l : List α} {n : Nat} (d : α) (h : n < l.length) : l.getD n d = l[n] := by simp [List.getD, h]
theorem getD_mem {α : Type} {l : List α} {n : Nat} (d : α) (h : n < l.length) : l.getD n d ∈ l := by rw [getD_of_lt d h]; exact List.getElem_mem h
theorem all_take_succ {α : Type} {p : α → Bool} {l : List α} {i : Nat} (h : i < l.length) : (l.take (i + 1)).all p = ((l.take i).all p && p l[i]) := by
  rw [List.take_succ_eq_append_getElem h, List.all_append]; simp
theorem any_take_succ {α : Type} {p : α → Bool} {l : List α} {i : Nat} (h : i < l.length) : (l.take (i + 1)).any p = ((l.take i).any p || p l[i]) := by
  rw [List.take_succ_eq_append_getElem h, List.any_append]; simp
/-! ### Order -/
def VA.key (v : VA) : List Int := v.kd :: v.n :: v.s.toList.map fun b => (b.toNat : Int)
def ND.key (x : ND) : List Int := x.op :: x.n :: x.v.key
theorem bytes_inj {a b : ByteArray} (h : a.toList.map (fun b => (b.toNat : Int)) = b.toList.map fun b => (b.toNat : Int)) : a = b := by
  refine (toList_eq_iff a b).1 ?_
  exact (List.map_inj_right (fun x y h => by
    have : x.toNat = y.toNat := by exact_mod_cast h
    exact UInt8.toNat_inj.1 this)).1 h
theorem VA.key_inj {a b : VA} (h : a.key = b.key) : a = b := by
  simp only [VA.key, List.cons.injEq] at h
  obtain ⟨h1, h2, h3⟩ := h
  have := bytes_inj h3
  cases a; cases b; simp_all
theorem ND.key_inj {a b : ND} (h : a.key = b.key) : a = b := by
  simp only [ND.key, List.cons.injEq] at h
  obtain ⟨h1, h2, h3⟩ := h
  have := VA.key_inj h3
  cases a; cases b; simp_all
def ordI : Ordering → Int
  | .lt => -1
  | .eq => 0
  | .gt => 1
/-- Lists of numbers, as a dictionary has them. -/
def cmpL : List Int → List Int → Ordering
  | [], [] => .eq
  | [], _ :: _ => .lt
  | _ :: _, [] => .gt
  | a :: x, b :: y => if a < b then .lt else if b < a then .gt else cmpL x y
theorem cmpL_eq : ∀ {a b : List Int}, cmpL a b = .eq ↔ a = b
  | [], [] => by simp [cmpL]
  | [], _ :: _ => by simp [cmpL]
  | _ :: _, [] => by simp [cmpL]
  | a :: x, b :: y => by
    unfold cmpL
    split
    · simp; intro h; omega
    · split
      · simp; intro h; omega
      · rw [cmpL_eq]
        constructor
        · rintro rfl; have : a = b := by omega
          rw [this]
        · intro h; cases h; rfl
theorem cmpL_refl (a : List Int) : cmpL a a = .eq := cmpL_eq.2 rfl
theorem cmpL_ne {a b : Int} {x y : List Int} (h : a ≠ b) : cmpL (a :: x) (b :: y) = cmpL [a] [b] := by
  unfold cmpL
  by_cases h1 : a < b
  · rw [if_pos h1, if_pos h1]
  · have h2 : b < a := by omega
    rw [if_neg h1, if_neg h1, if_pos h2, if_pos h2]
theorem cmpL_same {a : Int} {x y : List Int} : cmpL (a :: x) (a :: y) = cmpL x y := by
  rw [cmpL, if_neg (by omega), if_neg (by omega)]
/-- The bytes of a text as numbers. -/
def bk (s : ByteArray) : List Int := s.toList.map fun b => (b.toNat : Int)
theorem bytesLess_cmp : ∀ (x y : List UInt8), Op.bytesLess x y = decide (cmpL (x.map fun b => (b.toNat : Int)) (y.map fun b => (b.toNat : Int)) = .lt)
  | [], [] => by simp [Op.bytesLess, cmpL]
  | _ :: _, [] => by simp [Op.bytesLess, cmpL]
  | [], _ :: _ => by simp [Op.bytesLess, cmpL]
  | a :: x, b :: y => by
    simp only [Op.bytesLess, List.map_cons, cmpL]
    rw [bytesLess_cmp x y]
    have hlt : (a < b) ↔ (a.toNat : Int) < b.toNat := by
      rw [UInt8.lt_iff_toNat_lt]; omega
    have heq : (a = b) ↔ (a.toNat : Int) = b.toNat := by
      constructor
      · rintro rfl; rfl
      · intro h; exact UInt8.toNat_inj.1 (by exact_mod_cast h)
    by_cases h1 : (a.toNat : Int) < b.toNat
    · have := hlt.2 h1
      rw [if_pos h1]; simp [this]
    · have h1' : ¬ a < b := fun h => h1 (hlt.1 h)
      rw [if_neg h1]
      by_cases h2 : (b.toNat : Int) < a.toNat
      · have : a ≠ b := fun h => by have := heq.1 h; omega
        rw [if_pos h2]; simp [h1', this]
      · have : a = b := heq.2 (by omega)
        rw [if_neg h2]; simp [h1', this]
/-! ### Sorted lists without doubles -/
end Go.Proofs.YtfbodefnblpflaaGreatDoor
end

section
/- Numbers, texts and truths as bytes. No program in sight. -/
set_option linter.unusedVariables false
set_option linter.unusedSimpArgs false
namespace Go.Proofs.YtfbodefnblpflaaGreatDoor
abbrev BL := List UInt8
abbrev bc (b : UInt8) : List MV := [.int .u8 (b.toNat : Int)]
def bsS (l : BL) : ByteArray := ⟨l.toArray⟩
theorem bsS_size (l : BL) : (bsS l).size = l.length := by simp [bsS, ByteArray.size]
theorem bsS_of (s : ByteArray) : bsS s.data.toList = s := by cases s; simp [bsS]
/-! ### A number -/
def big : Int := 1099511627776
def numF : Nat → Nat → BL
  | 0, v => [UInt8.ofNat v]
  | k + 1, v => if v < 128 then [UInt8.ofNat v] else UInt8.ofNat (v % 128 + 128) :: numF k (v / 128)
def numB (n : Int) : BL := numF 5 (min (max n 0) big).toNat
theorem numF_len : ∀ (k v : Nat), (numF k v).length ≤ k + 1
  | 0, v => by simp [numF]
  | k + 1, v => by
    have := numF_len k (v / 128)
    simp only [numF]; split <;> simp; omega
theorem u8_of {n : Nat} (h : n < 256) : (UInt8.ofNat n).toNat = n := by
  rw [UInt8.toNat_ofNat']; exact Nat.mod_eq_of_lt h
end Go.Proofs.YtfbodefnblpflaaGreatDoor
end

section
/- Filters as lists of nodes, and as trees. No program in sight. -/
set_option linter.unusedVariables false
set_option linter.unusedSimpArgs false
namespace Go.Proofs.YtfbodefnblpflaaGreatDoor
/-- Filters in order. -/
def cmpF : List ND → List ND → Ordering
  | [], [] => .eq
  | [], _ :: _ => .lt
  | _ :: _, [] => .gt
  | a :: x, b :: y => match cmpL a.key b.key with
    | .eq => cmpF x y
    | o => o
theorem drop_getD {α : Type} {l : List α} {i : Nat} (d : α) (h : i < l.length) : l.drop i = l.getD i d :: l.drop (i + 1) := by
  rw [List.drop_eq_getElem_cons h, getD_of_lt d h]
theorem cmpF_cons {a b : ND} {x y : List ND} : cmpF (a :: x) (b :: y) = if cmpL a.key b.key = .eq then cmpF x y else cmpL a.key b.key := by
  simp only [cmpF]
  cases cmpL a.key b.key <;> rfl
theorem ordI_zero {o : Ordering} : ordI o = 0 ↔ o = .eq := by cases o <;> simp [ordI]
def parts (op : Int) : Nat := if op = 10 then 1 else if op = 11 ∨ op = 12 then 2 else 0
/-- How many nodes some trees have, one behind the other. -/
def endN : Nat → List ND → Option Nat
  | 0, _ => some 0
  | _ + 1, [] => none
  | n + 1, x :: r => (endN (n + parts x.op) r).map (· + 1)
/-- The place behind a tree. -/
def endS (l : List ND) (i : Int) : Int := if i < 0 then -1 else match endN 1 (l.drop i.toNat) with
  | none => -1
  | some k => i + k
inductive T where
  | leaf (x : ND)
  | one (x : ND) (a : T)
  | two (x : ND) (a b : T)
def T.fl : T → List ND
  | .leaf x => [x]
  | .one x a => x :: a.fl
  | .two x a b => x :: (a.fl ++ b.fl)
def T.ok : T → Prop
  | .leaf x => parts x.op = 0
  | .one x a => parts x.op = 1 ∧ a.ok
  | .two x a b => parts x.op = 2 ∧ a.ok ∧ b.ok
theorem T.fl_pos : ∀ t : T, 0 < t.fl.length
  | .leaf _ => by simp [T.fl]
  | .one _ _ => by simp [T.fl]
  | .two _ _ _ => by simp [T.fl]
theorem endN_fl : ∀ (t : T), t.ok → ∀ (n : Nat) (r : List ND), endN (n + 1) (t.fl ++ r) = (endN n r).map (· + t.fl.length)
  | .leaf x, h, n, r => by
    simp only [T.ok] at h
    simp [T.fl, endN, h]
  | .one x a, h, n, r => by
    obtain ⟨h1, h2⟩ := h
    simp only [T.fl, List.cons_append, endN, h1]
    rw [endN_fl a h2]
    cases endN n r <;> simp
    omega
  | .two x a b, h, n, r => by
    obtain ⟨h1, h2, h3⟩ := h
    simp only [T.fl, List.cons_append, List.append_assoc, endN, h1]
    rw [show n + 2 = (n + 1) + 1 from rfl, endN_fl a h2, endN_fl b h3]
    cases endN n r <;> simp
    omega
theorem parts_cases (op : Int) : parts op = 0 ∨ parts op = 1 ∨ parts op = 2 := by
  unfold parts
  split
  · simp
  · split <;> simp
theorem parse_aux : ∀ (m : Nat) (l : List ND), l.length ≤ m → ∀ (n k : Nat), endN (n + 1) l = some k → ∃ (t : T) (r : List ND), t.ok ∧ l = t.fl ++ r
  | 0, l, hl, n, k, h => by
    have : l = [] := List.eq_nil_of_length_eq_zero (by omega)
    subst this
    simp [endN] at h
  | m + 1, [], hl, n, k, h => by simp [endN] at h
  | m + 1, x :: r, hl, n, k, h => by
    simp only [List.length_cons] at hl
    simp only [endN, Option.map_eq_some_iff] at h
    obtain ⟨j, h, rfl⟩ := h
    rcases parts_cases x.op with hp | hp | hp
    · exact ⟨.leaf x, r, hp, rfl⟩
    · rw [hp] at h
      obtain ⟨t, r', ht, rfl⟩ := parse_aux m r (by omega) n j h
      exact ⟨.one x t, r', ⟨hp, ht⟩, rfl⟩
    · rw [hp] at h
      obtain ⟨a, r1, ha, rfl⟩ := parse_aux m r (by omega) (n + 1) j h
      rw [show n + 2 = (n + 1) + 1 from rfl, endN_fl a ha] at h
      simp only [Option.map_eq_some_iff] at h
      obtain ⟨j1, h, rfl⟩ := h
      obtain ⟨b, r2, hb, rfl⟩ := parse_aux m r1 (by simp at hl; omega) n j1 h
      exact ⟨.two x a b, r2, ⟨hp, ha, hb⟩, by simp [T.fl]⟩
theorem parse {l : List ND} (h : endS l 0 = l.length) : ∃ t : T, t.ok ∧ l = t.fl := by
  unfold endS at h
  rw [if_neg (by omega)] at h
  simp only [Int.toNat_zero, List.drop_zero] at h
  cases e : endN 1 l with
  | none => rw [e] at h; simp at h
  | some k =>
    rw [e] at h
    simp only [Int.zero_add] at h
    have hk : k = l.length := by exact_mod_cast h
    obtain ⟨t, r, ht, rfl⟩ := parse_aux l.length l (Nat.le_refl _) 0 k e
    rw [endN_fl t ht] at e
    simp only [endN, Option.map_some, Option.some.injEq] at e
    refine ⟨t, ht, ?_⟩
    have : r = [] := List.eq_nil_of_length_eq_zero (by simp at hk; omega)
    rw [this, List.append_nil]
theorem endS_fl {t : T} (h : t.ok) (pre r : List ND) : endS (pre ++ (t.fl ++ r)) pre.length = (pre.length + t.fl.length : Nat) := by
  unfold endS
  rw [if_neg (by omega)]
  simp only [Int.toNat_natCast, List.drop_left]
  rw [endN_fl t h]
  simp [endN]
/-! ### Which may be -/
def vaOk (v : VA) : Bool :=
  if v.kd = 0 then decide (v = va0) else if v.kd = 1 then decide (0 ≤ v.n ∧ v.n ≤ 1099511627776 ∧ v.s = ⟨#[]⟩) else if v.kd = 2 then decide (v.n = 0 ∧ v.s.size ≤ 24) else false
def ndOk (x : ND) : Bool :=
  if x.op = 1 ∨ x.op = 2 ∨ x.op = 10 ∨ x.op = 11 ∨ x.op = 12 then decide (x.n = 0 ∧ x.v = va0)
  else if x.op = 3 ∨ x.op = 4 then decide (0 ≤ x.n ∧ x.n < 16 ∧ x.v = va0)
  else if x.op = 5 then decide (0 ≤ x.n ∧ x.n < 8 ∧ x.v = va0)
  else if x.op = 6 ∨ x.op = 7 ∨ x.op = 8 then decide (0 ≤ x.n ∧ x.n < 8 ∧ vaOk x.v = true ∧ x.v ≠ va0)
  else if x.op = 9 then decide (0 ≤ x.n ∧ x.n < 8 ∧ vaOk x.v = true ∧ x.v.kd = 2)
  else false
end Go.Proofs.YtfbodefnblpflaaGreatDoor
end

section
/- Readers of bytes; values, cards, patches, edits, tokens, filters, answers, pages, commands, messages: which may be, their bytes, and how they are read. No program in sight. -/
set_option linter.unusedVariables false
set_option linter.unusedSimpArgs false
namespace Go.Proofs.YtfbodefnblpflaaGreatDoor
/-! ### Readers -/
structure RD where
  l : BL
  e : Int
  deriving DecidableEq
def strB (s : BL) : BL := numB s.length ++ s
def flagB (b : Bool) : BL := numB (if b = true then 1 else 0)
/-! ### Values, cards, patches -/
structure F8 where
  l : List VA
  h : l.length = 8
  deriving DecidableEq
abbrev F8.c (f : F8) : List MV := (f.l.map VA.c).flatten
def F8.get (f : F8) (i : Nat) : VA := f.l.getD i va0
def F8.set (f : F8) (i : Nat) (v : VA) : F8 := ⟨f.l.set i v, by rw [List.length_set, f.h]⟩
def f80 : F8 := ⟨List.replicate 8 va0, rfl⟩
abbrev bl (s : ByteArray) : BL := s.data.toList
def valB (v : VA) : BL := if vaOk v = true then numB v.kd ++ (if v.kd = 1 then numB v.n else if v.kd = 2 then strB (bl v.s) else []) else []
abbrev bit (m i : Nat) : Bool := m.testBit i
structure PA where
  mask : UInt32
  lab : UInt32
  f : F8
  deriving DecidableEq
def pa0 : PA := ⟨0, 0, f80⟩
structure CA where
  id : Int
  ver : Int
  lab : UInt32
  f : F8
  deriving DecidableEq
def ca0 : CA := ⟨0, 0, 0, f80⟩
def idMax : Int := 1073741824
def cardOk (c : CA) : Bool := decide (1 ≤ c.id ∧ c.id < idMax ∧ 1 ≤ c.ver ∧ c.ver ≤ big ∧ c.lab.toNat < 65536) && c.f.l.all vaOk
def patchErr (p : PA) : Int :=
  if p.mask.toNat = 0 ∨ 511 < p.mask.toNat then 11
  else if 65536 ≤ p.lab.toNat ∨ p.lab.toNat ≠ 0 ∧ bit p.mask.toNat 8 = false then 1
  else if (List.range 8).all (fun i => vaOk (p.f.get i) && (decide ((p.f.get i).kd = 0) || bit p.mask.toNat i)) = true then 0 else 1
def fieldsB (m : Nat) (f : F8) : Nat → BL
  | 0 => []
  | k + 1 => (if bit m (7 - k) = true then valB (f.get (7 - k)) else []) ++ fieldsB m f k
def ors (p : Nat → Bool) : Nat → Nat
  | 0 => 0
  | n + 1 => if p n = true then ors p n ||| 2 ^ n else ors p n
def hasM (f : F8) : Nat := ors (fun i => decide ((f.get i).kd ≠ 0)) 8
def patchB (p : PA) : BL := if patchErr p = 0 then numB p.mask.toNat ++ (if bit p.mask.toNat 8 = true then numB p.lab.toNat else []) ++ fieldsB p.mask.toNat p.f 8 else []
def cardB (c : CA) : BL := if cardOk c = true then numB c.id ++ numB c.ver ++ numB c.lab.toNat ++ numB (hasM c.f) ++ fieldsB (hasM c.f) c.f 8 else []
/-! ### Edits -/
structure ED where
  kd : Int
  id : Int
  gr : Int
  p : PA
  deriving DecidableEq
def ed0 : ED := ⟨0, 0, 0, pa0⟩
def edG (k : Int) : Bool := decide (k = 4 ∨ k = 5 ∨ k = 6 ∨ k = 7)
def edI (k : Int) : Bool := decide (k = 2 ∨ k = 3 ∨ k = 6 ∨ k = 7)
def edP (k : Int) : Bool := decide (k = 1 ∨ k = 2)
def editErr (e : ED) : Int :=
  if e.kd < 1 ∨ 7 < e.kd then 1
  else if edG e.kd = false ∧ e.gr ≠ 0 ∨ edI e.kd = false ∧ e.id ≠ 0 ∨ edP e.kd = false ∧ e.p ≠ pa0 then 1
  else if e.gr < 0 ∨ 16 ≤ e.gr ∨ edI e.kd = true ∧ (e.id < 1 ∨ idMax ≤ e.id) then 1
  else if edP e.kd = true then patchErr e.p else 0
def editB (e : ED) : BL := if editErr e = 0 then numB e.kd ++ (if edG e.kd = true then numB e.gr else []) ++ (if edI e.kd = true then numB e.id else []) ++ (if edP e.kd = true then patchB e.p else []) else []
/-! ### Tokens -/
structure TO where
  dev : Int
  ep : Int
  sq : Int
  cu : Int
  deriving DecidableEq
abbrev TO.c (t : TO) : List MV := [.int .i64 t.dev, .int .i64 t.ep, .int .i64 t.sq, .int .i64 t.cu]
def tk0 : TO := ⟨0, 0, 0, 0⟩
def tokOk (t : TO) : Bool := decide (0 ≤ t.dev ∧ t.dev < 6 ∧ 1 ≤ t.ep ∧ t.ep ≤ big ∧ 0 ≤ t.sq ∧ t.sq ≤ big ∧ 0 ≤ t.cu ∧ t.cu ≤ idMax)
def tokGo (a b : TO) : Bool := tokOk a && tokOk b && decide (a.dev = b.dev ∧ a.ep = b.ep ∧ a.sq ≤ b.sq ∧ a.cu ≤ b.cu)
def tokB (t : TO) : BL := if tokOk t = true then numB t.dev ++ numB t.ep ++ numB t.sq ++ numB t.cu else []
/-! ### Filters -/
/-- What is open behind a node: how many parts are to come, of each. -/
def shut : List Nat → List Nat
  | [] => []
  | [0] => []
  | 0 :: k :: s => shut ((k - 1) :: s)
  | (n + 1) :: s => (n + 1) :: s
termination_by s => s.length
def dp : Nat → List Nat → List ND → Nat
  | d, _, [] => d
  | d, s, x :: l => dp (max d (s.length + 1)) (shut (parts x.op :: s)) l
def depthS (l : List ND) : Nat := if l = [] ∨ endS l 0 ≠ l.length then 0 else dp 0 [] l
def predErr (l : List ND) : Int :=
  if 31 < l.length then 4 else if l = [] ∨ endS l 0 ≠ l.length ∨ l.all ndOk = false then 1 else if 8 < depthS l then 5 else 0
def opN (op : Int) : Bool := decide (3 ≤ op ∧ op ≤ 9)
def opV (op : Int) : Bool := decide (6 ≤ op ∧ op ≤ 9)
def nodeB (x : ND) : BL := numB x.op ++ (if opN x.op = true then numB x.n else []) ++ (if opV x.op = true then valB x.v else [])
def predB (l : List ND) : BL := if predErr l = 0 then numB l.length ++ (l.map nodeB).flatten else []
/-! ### Answers, pages, commands -/
structure RE where
  kd : Int
  dev : Int
  req : Int
  code : Int
  id : Int
  ver : Int
  sq : Int
  ep : Int
  fl : List ND
  mask : UInt32
  deriving DecidableEq
def re0 : RE := ⟨0, 0, 0, 0, 0, 0, 0, 0, [], 0⟩
def repOk (a : RE) : Bool :=
  decide (2 ≤ a.kd ∧ a.kd ≤ 4 ∧ 0 ≤ a.dev ∧ a.dev < 6 ∧ 1 ≤ a.req ∧ a.req ≤ big ∧ 0 ≤ a.code ∧ a.code ≤ 16 ∧ 0 ≤ a.sq ∧ a.sq ≤ big ∧ (a.code ≠ 0 → a.sq = 0)
    ∧ (if a.code = 0 ∧ a.kd = 2 then 1 ≤ a.id ∧ a.id < idMax ∧ 1 ≤ a.ver ∧ a.ver ≤ big else a.id = 0 ∧ a.ver = 0)
    ∧ (if a.code = 0 ∧ a.kd = 3 then 1 ≤ a.ep ∧ a.ep ≤ big ∧ predErr a.fl = 0 ∧ a.mask.toNat ≤ 511 else a.ep = 0 ∧ a.fl = [] ∧ a.mask = 0))
def repB (a : RE) : BL := if repOk a = true then numB a.kd ++ numB a.dev ++ numB a.req ++ numB a.code ++ (if a.code = 0 then numB a.sq ++ (if a.kd = 2 then numB a.id ++ numB a.ver else []) ++ (if a.kd = 3 then numB a.ep ++ predB a.fl ++ numB a.mask.toNat else []) else []) else []
structure IT where
  kd : Int
  c : CA
  deriving DecidableEq
def it0 : IT := ⟨0, ca0⟩
def itOk (last : Int) (x : IT) : Bool := decide (last < x.c.id ∧ 1 ≤ x.c.id ∧ x.c.id < idMax) && (if x.kd = 1 ∨ x.kd = 3 then cardOk x.c else if x.kd = 2 then decide (x.c = { ca0 with id := x.c.id }) else false)
def itemsOk : Int → List IT → Bool
  | _, [] => true
  | last, x :: l => itOk last x && itemsOk x.c.id l
structure PG where
  code : Int
  reset : Bool
  fr : TO
  to : TO
  items : List IT
  deriving DecidableEq
def pg0 : PG := ⟨0, false, tk0, tk0, []⟩
def pageOk (p : PG) : Bool := tokOk p.fr &&
  (if p.code ≠ 0 then decide (1 ≤ p.code ∧ p.code ≤ 16 ∧ p.reset = false ∧ p.to = tk0 ∧ p.items = [])
  else if p.reset = true then decide (p.items = []) && tokOk p.to && decide (p.to.dev = p.fr.dev ∧ p.to.cu = 0)
  else tokGo p.fr p.to && itemsOk 0 p.items && decide (p.items.length ≤ 16))
def itemB (x : IT) : BL := numB x.kd ++ (if x.kd = 2 then numB x.c.id else cardB x.c)
def pageB (p : PG) : BL := if pageOk p = true then numB p.code ++ tokB p.fr ++ (if p.code = 0 then flagB p.reset ++ tokB p.to ++ (if p.reset = true then [] else numB p.items.length ++ (p.items.map itemB).flatten) else []) else []
structure CM where
  kd : Int
  e : ED
  dev : Int
  req : Int
  id : Int
  base : Int
  keep : Int
  p : PA
  fl : List ND
  mask : UInt32
  deriving DecidableEq
def cm0 : CM := ⟨0, ed0, 0, 0, 0, 0, 0, pa0, [], 0⟩
def cmdOk (c : CM) : Bool :=
  if c.kd = 1 then decide (c = { cm0 with kd := 1, e := c.e } ∧ editErr c.e = 0)
  else if c.kd = 5 then decide (c = { cm0 with kd := 5, keep := c.keep } ∧ 0 ≤ c.keep ∧ c.keep ≤ big)
  else if c.dev < 0 ∨ 6 ≤ c.dev ∨ c.req < 1 ∨ big < c.req then false
  else if c.kd = 2 then decide (c = { cm0 with kd := 2, dev := c.dev, req := c.req, id := c.id, base := c.base, p := c.p } ∧ 1 ≤ c.id ∧ c.id < idMax ∧ 1 ≤ c.base ∧ c.base ≤ big ∧ patchErr c.p = 0)
  else if c.kd = 3 then decide (c = { cm0 with kd := 3, dev := c.dev, req := c.req, fl := c.fl, mask := c.mask } ∧ predErr c.fl = 0 ∧ c.mask.toNat ≤ 511)
  else decide (c = { cm0 with kd := 4, dev := c.dev, req := c.req })
def cmdB (c : CM) : BL := if cmdOk c = true then numB c.kd ++
  (if c.kd = 1 then editB c.e else if c.kd = 5 then numB c.keep else numB c.dev ++ numB c.req ++ (if c.kd = 2 then numB c.id ++ numB c.base ++ patchB c.p else []) ++ (if c.kd = 3 then predB c.fl ++ numB c.mask.toNat else [])) else []
/-! ### Messages -/
structure MS where
  kd : Int
  size : Int
  cmd : CM
  tok : TO
  rep : RE
  page : PG
  code : Int
  deriving DecidableEq
def ms0 : MS := ⟨0, 0, cm0, tk0, re0, pg0, 0⟩
def msgOk (m : MS) : Bool :=
  if m.kd = 1 then decide (m = { ms0 with kd := 1, cmd := m.cmd } ∧ m.cmd.kd ≠ 1 ∧ m.cmd.kd ≠ 5) && cmdOk m.cmd
  else if m.kd = 2 then decide (m = { ms0 with kd := 2, tok := m.tok, size := m.size } ∧ 1 ≤ m.size ∧ m.size ≤ 16) && tokOk m.tok
  else if m.kd = 3 then decide (m = { ms0 with kd := 3, rep := m.rep }) && repOk m.rep
  else if m.kd = 4 then decide (m = { ms0 with kd := 4, page := m.page }) && pageOk m.page
  else if m.kd = 5 then decide (m = { ms0 with kd := 5, code := m.code } ∧ 1 ≤ m.code ∧ m.code ≤ 16) else false
def msgB (m : MS) : BL := numB m.kd ++ (if m.kd = 1 then cmdB m.cmd else if m.kd = 2 then tokB m.tok ++ numB m.size else if m.kd = 3 then repB m.rep else if m.kd = 4 then pageB m.page else numB m.code)
def msgE (m : MS) : BL × Int := if msgOk m = true then (if 4096 < (msgB m).length then ([], 4) else (msgB m, 0)) else ([], 1)
end Go.Proofs.YtfbodefnblpflaaGreatDoor
end

section
/- What is written is read, and what is read was written: numbers, texts, values, cards, patches, edits, tokens. No program in sight. -/
set_option linter.unusedVariables false
set_option linter.unusedSimpArgs false
namespace Go.Proofs.YtfbodefnblpflaaGreatDoor
/-- A reader that keeps an error, and goes on alone. -/
structure Sk {α : Type} (f : RD → α × RD) : Prop where
  stk : ∀ r, r.e ≠ 0 → (f r).2 = r
  sfx : ∀ r, (f r).2.l <:+ r.l
/-- What is read is what was written, if it may be. -/
structure Rt {α : Type} (f : RD → α × RD) (ok : α → Prop) (w : α → BL) : Prop where
  fwd : ∀ x l, ok x → f ⟨w x ++ l, 0⟩ = (x, ⟨l, 0⟩)
  bck : ∀ r, (f r).2.e = 0 → r.e = 0 ∧ ok (f r).1 ∧ r.l = w (f r).1 ++ (f r).2.l
/-! ### Values -/
section
variable {α : Type} {d : α} {y : α × RD}
end
theorem vaOk_iff (v : VA) : vaOk v = true ↔ (v.kd = 0 ∧ v = va0) ∨ (v.kd = 1 ∧ 0 ≤ v.n ∧ v.n ≤ big ∧ v.s = ⟨#[]⟩) ∨ (v.kd = 2 ∧ v.n = 0 ∧ v.s.size ≤ 24) := by
  unfold vaOk big
  by_cases h0 : v.kd = 0
  · simp [h0]
  · by_cases h1 : v.kd = 1
    · simp [h1]
    · by_cases h2 : v.kd = 2
      · simp [h2]
      · simp [h0, h1, h2]
end Go.Proofs.YtfbodefnblpflaaGreatDoor
end

section
/- What is written is read, and what is read was written: fields, cards, patches, edits, tokens. No program in sight. -/
set_option linter.unusedVariables false
set_option linter.unusedSimpArgs false
namespace Go.Proofs.YtfbodefnblpflaaGreatDoor
theorem F8.ext {f g : F8} (h : ∀ i, i < 8 → f.get i = g.get i) : f = g := by
  obtain ⟨a, ha⟩ := f
  obtain ⟨b, hb⟩ := g
  have : a = b := by
    apply List.ext_getElem (by omega)
    intro i h1 h2
    have := h i (by omega)
    simpa [F8.get, List.getD, h1, h2] using this
  subst this; rfl
theorem F8.get_set (f : F8) (i j : Nat) (v : VA) (hi : i < 8) : (f.set i v).get j = if i = j then v else f.get j := by
  have := f.h
  simp only [F8.get, F8.set, List.getD_eq_getElem?_getD, List.getElem?_set]
  split
  · rename_i e
    subst e
    rw [if_pos (by omega)]; rfl
  · rfl
theorem F8.all_iff (f : F8) (p : VA → Bool) : f.l.all p = true ↔ ∀ i, i < 8 → p (f.get i) = true := by
  rw [List.all_eq_true]
  constructor
  · intro h i hi
    refine h _ ?_
    have : i < f.l.length := by rw [f.h]; exact hi
    rw [F8.get, List.getD_eq_getElem?_getD, List.getElem?_eq_getElem this]
    exact List.getElem_mem _
  · intro h x hx
    obtain ⟨i, hi, rfl⟩ := List.mem_iff_getElem.1 hx
    have := h i (by rw [← f.h]; exact hi)
    rwa [F8.get, List.getD_eq_getElem?_getD, List.getElem?_eq_getElem hi] at this
/-! ### Cards -/
theorem ors_lt (p : Nat → Bool) : ∀ n, ors p n < 2 ^ n
  | 0 => by simp [ors]
  | n + 1 => by
    have h := ors_lt p n
    have h2 : ors p n < 2 ^ (n + 1) := by rw [Nat.pow_succ]; omega
    unfold ors
    split
    · exact Nat.or_lt_two_pow h2 (by rw [Nat.pow_succ]; have := Nat.pow_pos (a := 2) (n := n) (by decide); omega)
    · exact h2
theorem ors_bit (p : Nat → Bool) (j : Nat) : ∀ n, (ors p n).testBit j = (decide (j < n) && p j)
  | 0 => by simp [ors]
  | n + 1 => by
    have ih := ors_bit p j n
    unfold ors
    by_cases hj : j = n
    · subst hj
      by_cases hp : p j = true
      · rw [if_pos hp, Nat.testBit_or, ih, Nat.testBit_two_pow]; simp [hp]
      · rw [if_neg hp, ih]; simp [hp]
    · have e : decide (j < n + 1) = decide (j < n) := by rw [decide_eq_decide]; omega
      rw [e]
      split
      · rw [Nat.testBit_or, ih, Nat.testBit_two_pow]
        simp [Ne.symm hj]
      · exact ih
theorem hasM_bit (f : F8) {i : Nat} (h : i < 8) : bit (hasM f) i = decide ((f.get i).kd ≠ 0) := by
  rw [bit, hasM, ors_bit]; simp [h]
theorem hasM_lt (f : F8) : hasM f < 256 := ors_lt _ 8
theorem va_zero {v : VA} (h : vaOk v = true) (h0 : v.kd = 0) : v = va0 := by
  rcases (vaOk_iff v).1 h with ⟨_, h⟩ | ⟨h, _⟩ | ⟨h, _⟩
  · exact h
  · omega
  · omega
theorem u32_toN {n : Int} (h0 : 0 ≤ n) (h : n ≤ 4294967295) : ((UInt32.ofNat n.toNat).toNat : Int) = n := by
  rw [UInt32.toNat_ofNat', Nat.mod_eq_of_lt (by omega)]; omega
theorem cardOk_iff (c : CA) : cardOk c = true ↔ (1 ≤ c.id ∧ c.id < idMax ∧ 1 ≤ c.ver ∧ c.ver ≤ big ∧ c.lab.toNat < 65536) ∧ ∀ i, i < 8 → vaOk (c.f.get i) = true := by
  rw [cardOk, Bool.and_eq_true, decide_eq_true_eq, F8.all_iff]
end Go.Proofs.YtfbodefnblpflaaGreatDoor
end

section
/- What is written is read, and what is read was written: patches, edits, tokens, filters. No program in sight. -/
set_option linter.unusedVariables false
set_option linter.unusedSimpArgs false
namespace Go.Proofs.YtfbodefnblpflaaGreatDoor
/-! ### Parts that may be there -/
/-- A part that is there, or not. -/
theorem Sk.cond {α : Type} {f : RD → α × RD} (h : Sk f) (d : α) (b : Bool) : Sk (fun r => if b = true then f r else (d, r)) := ⟨fun r hr => by
  cases b
  · rfl
  · simpa using h.stk r hr, fun r => by
  cases b
  · exact List.suffix_refl _
  · simpa using h.sfx r⟩
theorem Rt.cond {α : Type} {f : RD → α × RD} {ok : α → Prop} {w : α → BL} (h : Rt f ok w) (d : α) (b : Bool) : Rt (fun r => if b = true then f r else (d, r)) (fun x => if b = true then ok x else x = d) (fun x => if b = true then w x else []) where
  fwd x l hx := by
    cases b
    · simp only [Bool.false_eq_true, if_false, List.nil_append] at hx ⊢; rw [hx]
    · simp only [if_true] at hx ⊢; exact h.fwd x l hx
  bck r hr := by
    cases b
    · exact ⟨by simpa using hr, by simp, by simp⟩
    · simp only [if_true] at hr ⊢; exact h.bck r hr
theorem patchErr_iff (p : PA) : patchErr p = 0 ↔ (1 ≤ p.mask.toNat ∧ p.mask.toNat ≤ 511) ∧ (p.lab.toNat < 65536 ∧ (bit p.mask.toNat 8 = false → p.lab.toNat = 0)) ∧ ∀ i, i < 8 → vaOk (p.f.get i) = true ∧ (bit p.mask.toNat i = false → (p.f.get i).kd = 0) := by
  unfold patchErr
  by_cases h1 : p.mask.toNat = 0 ∨ 511 < p.mask.toNat
  · rw [if_pos h1]
    constructor
    · intro h; simp at h
    · intro h; omega
  · rw [if_neg h1]
    by_cases h2 : 65536 ≤ p.lab.toNat ∨ p.lab.toNat ≠ 0 ∧ bit p.mask.toNat 8 = false
    · rw [if_pos h2]
      constructor
      · intro h; simp at h
      · rintro ⟨_, ⟨a, b⟩, _⟩
        rcases h2 with h2 | ⟨h2, h3⟩
        · omega
        · exact absurd (b h3) h2
    · rw [if_neg h2]
      have hx : (List.range 8).all (fun i => vaOk (p.f.get i) && (decide ((p.f.get i).kd = 0) || bit p.mask.toNat i)) = true ↔ ∀ i, i < 8 → vaOk (p.f.get i) = true ∧ (bit p.mask.toNat i = false → (p.f.get i).kd = 0) := by
        rw [List.all_eq_true]
        refine ⟨fun h i hi => ?_, fun h i hi => ?_⟩
        · have := h i (List.mem_range.2 hi)
          rw [Bool.and_eq_true, Bool.or_eq_true, decide_eq_true_eq] at this
          exact ⟨this.1, fun hb => this.2.elim id fun h => by rw [hb] at h; cases h⟩
        · have := h i (List.mem_range.1 hi)
          rw [Bool.and_eq_true, Bool.or_eq_true, decide_eq_true_eq]
          refine ⟨this.1, ?_⟩
          cases hb : bit p.mask.toNat i
          · exact .inl (this.2 hb)
          · exact .inr rfl
      constructor
      · intro h
        split at h
        · rename_i h3
          refine ⟨by omega, ⟨by omega, fun hb => ?_⟩, hx.1 h3⟩
          exact Classical.byContradiction fun hc => h2 (.inr ⟨hc, hb⟩)
        · simp at h
      · rintro ⟨_, _, h⟩
        rw [if_pos (hx.2 h)]
theorem editErr_iff (e : ED) : editErr e = 0 ↔ (1 ≤ e.kd ∧ e.kd ≤ 7) ∧ (if edG e.kd = true then 0 ≤ e.gr ∧ e.gr ≤ 15 else e.gr = 0) ∧ (if edI e.kd = true then 1 ≤ e.id ∧ e.id < idMax else e.id = 0) ∧ (if edP e.kd = true then patchErr e.p = 0 else e.p = pa0) := by
  unfold editErr
  cases hg : edG e.kd <;> cases hi : edI e.kd <;> cases hp : edP e.kd
  all_goals
    simp only [Bool.false_eq_true, if_false, if_true, true_and, false_and, reduceCtorEq, false_or, or_false]
    grind
/-! ### Tokens -/
end Go.Proofs.YtfbodefnblpflaaGreatDoor
end

section
/- What is written is read, and what is read was written: filters, answers, items, pages. No program in sight. -/
set_option linter.unusedVariables false
set_option linter.unusedSimpArgs false
namespace Go.Proofs.YtfbodefnblpflaaGreatDoor
section
variable {α : Type} {f : RD → α × RD} {ok : α → Prop} {w : α → BL}
end
section
variable {c : Prop} [Decidable c] {e : Int} {r : RD} {l : BL}
end
/-! ### Filters -/
theorem predErr_iff (l : List ND) : predErr l = 0 ↔ l.length ≤ 31 ∧ l ≠ [] ∧ endS l 0 = l.length ∧ l.all ndOk = true ∧ depthS l ≤ 8 := by
  unfold predErr
  by_cases h1 : 31 < l.length
  · rw [if_pos h1]
    constructor
    · intro h; cases h
    · intro h; omega
  · rw [if_neg h1]
    by_cases h2 : l = [] ∨ endS l 0 ≠ l.length ∨ l.all ndOk = false
    · rw [if_pos h2]
      constructor
      · intro h; cases h
      · rintro ⟨_, k1, k2, k3, _⟩
        rcases h2 with hc | hc | hc
        · exact absurd hc k1
        · exact absurd k2 hc
        · rw [k3] at hc; cases hc
    · rw [if_neg h2]
      by_cases h3 : 8 < depthS l
      · rw [if_pos h3]
        constructor
        · intro h; cases h
        · rintro ⟨_, _, _, _, k⟩; exact absurd h3 (Nat.not_lt.2 k)
      · rw [if_neg h3]
        refine ⟨fun _ => ⟨Nat.le_of_not_lt h1, fun h => h2 (.inl h), Classical.byContradiction fun h => h2 (.inr (.inl h)), ?_, Nat.le_of_not_lt h3⟩, fun _ => rfl⟩
        cases h : l.all ndOk
        · exact absurd (.inr (.inr h)) h2
        · rfl
/-! ### Answers -/
theorem u32_zero {x : UInt32} : x = 0 ↔ x.toNat = 0 := ⟨fun h => by rw [h]; rfl, fun h => UInt32.toNat_inj.1 (by rw [h]; rfl)⟩
end Go.Proofs.YtfbodefnblpflaaGreatDoor
end

section
/- What is written is read, and what is read was written: items, pages, commands, messages. No program in sight. -/
set_option linter.unusedVariables false
set_option linter.unusedSimpArgs false
namespace Go.Proofs.YtfbodefnblpflaaGreatDoor
/-! ### Items, pages -/
theorem pageOk_iff (p : PG) : pageOk p = true ↔ tokOk p.fr = true ∧ (if p.code ≠ 0 then 1 ≤ p.code ∧ p.code ≤ 16 ∧ p.reset = false ∧ p.to = tk0 ∧ p.items = []
    else if p.reset = true then p.items = [] ∧ tokOk p.to = true ∧ p.to.dev = p.fr.dev ∧ p.to.cu = 0 else tokGo p.fr p.to = true ∧ itemsOk 0 p.items = true ∧ p.items.length ≤ 16) := by
  unfold pageOk
  rw [Bool.and_eq_true]
  by_cases h1 : p.code ≠ 0
  · simp only [if_pos h1, decide_eq_true_eq]
  · simp only [if_neg h1]
    by_cases h2 : p.reset = true
    · simp only [if_pos h2, Bool.and_eq_true, decide_eq_true_eq, and_assoc]
    · simp only [if_neg h2, Bool.and_eq_true, decide_eq_true_eq, and_assoc]
theorem tokGo_to {a b : TO} (h : tokGo a b = true) : tokOk b = true := by
  rw [tokGo, Bool.and_eq_true, Bool.and_eq_true] at h; exact h.1.2
end Go.Proofs.YtfbodefnblpflaaGreatDoor
end

section
/- The cells of eight fields, of cards, patches, edits, as one part of a struct's cells. No program in sight. -/
set_option linter.unusedVariables false
set_option linter.unusedSimpArgs false
namespace Go.Proofs.YtfbodefnblpflaaGreatDoor
def fc (f : F8) : List MV := (f.l.map VA.c).flatten
theorem va_len (l : List VA) : (l.map VA.c).flatten.length = 3 * l.length := by
  induction l with
  | nil => rfl
  | cons v l ih => simp only [List.map_cons, List.flatten_cons, List.length_append, List.length_cons, List.length_nil, ih]; omega
theorem va_drop : ∀ (l : List VA) (i : Nat), ((l.map VA.c).flatten).drop (i * 3) = ((l.drop i).map VA.c).flatten
  | _, 0 => by simp
  | [], i + 1 => by simp
  | v :: l, i + 1 => by
    have := va_drop l i
    rw [show (i + 1) * 3 = i * 3 + 3 by omega]
    simp only [List.map_cons, List.flatten_cons, List.cons_append, List.nil_append, List.drop_succ_cons]
    exact this
theorem va_take : ∀ (l : List VA) (i : Nat), ((l.map VA.c).flatten).take (i * 3) = ((l.take i).map VA.c).flatten
  | _, 0 => by simp
  | [], i + 1 => by simp
  | v :: l, i + 1 => by
    have := va_take l i
    rw [show (i + 1) * 3 = i * 3 + 3 by omega]
    simp only [List.map_cons, List.flatten_cons, List.cons_append, List.nil_append, List.take_succ_cons]
    rw [this]
theorem va_cell (l : List VA) : ((l.map VA.c).flatten).all MV.isCell = true := by
  induction l with
  | nil => rfl
  | cons v l ih =>
    simp only [List.map_cons, List.flatten_cons, List.cons_append, List.nil_append, List.all_cons, ih]; rfl
theorem fc_len (f : F8) : (fc f).length = 24 := by rw [fc, va_len, f.h]
theorem fc_cell (f : F8) : (fc f).all MV.isCell = true := va_cell f.l
theorem fc_take {f : F8} {r : List MV} {n : Nat} (h : 24 ≤ n) : (fc f ++ r).take n = fc f ++ r.take (n - 24) := by
  rw [List.take_append, List.take_of_length_le (by rw [fc_len]; exact h), fc_len]
theorem fc_take' {f : F8} {n : Nat} (h : 24 ≤ n) : (fc f).take n = fc f := List.take_of_length_le (by rw [fc_len]; exact h)
theorem fc_drop {f : F8} {r : List MV} {n : Nat} (h : 24 ≤ n) : (fc f ++ r).drop n = r.drop (n - 24) := by
  rw [List.drop_append, List.drop_eq_nil_of_le (by rw [fc_len]; exact h), fc_len, List.nil_append]
theorem fc_drop' {f : F8} {n : Nat} (h : 24 ≤ n) : (fc f).drop n = [] := List.drop_eq_nil_of_le (by rw [fc_len]; exact h)
theorem fc_getD {f : F8} {r : List MV} {n : Nat} {d : MV} (h : 24 ≤ n) : (fc f ++ r).getD n d = r.getD (n - 24) d := by
  rw [List.getD_eq_getElem?_getD, List.getElem?_append_right (by rw [fc_len]; exact h), fc_len, ← List.getD_eq_getElem?_getD]
theorem fc_drop_at {f : F8} {i : Nat} (h : i < 8) : (fc f).drop (i * 3) = (f.get i).c ++ (fc f).drop ((i + 1) * 3) := by
  have hl : i < f.l.length := by rw [f.h]; exact h
  rw [fc, va_drop, va_drop, List.drop_eq_getElem_cons hl, List.map_cons, List.flatten_cons]
  congr 1
  rw [F8.get, getD_of_lt va0 hl]
theorem fc_at {f : F8} {i : Nat} (h : i < 8) : ((fc f).drop (i * 3)).take 3 = [.int .i64 (f.get i).kd, .int .i64 (f.get i).n, .str (f.get i).s] := by
  rw [fc_drop_at h]; rfl
theorem fc_at_app {f : F8} {r : List MV} {i : Nat} (h : i < 8) : ((fc f ++ r).drop (i * 3)).take 3 = [.int .i64 (f.get i).kd, .int .i64 (f.get i).n, .str (f.get i).s] := by
  rw [List.drop_append_of_le_length (by rw [fc_len]; omega), fc_drop_at h]; rfl
theorem getD_drop {α : Type} {l : List α} {n k : Nat} {d : α} : l.getD (n + k) d = (l.drop n).getD k d := by
  rw [List.getD_eq_getElem?_getD, List.getD_eq_getElem?_getD, List.getElem?_drop]
theorem fc_get0 {f : F8} {i : Nat} {d : MV} (h : i < 8) : (fc f).getD (i * 3) d = .int .i64 (f.get i).kd := by
  have := getD_drop (l := fc f) (n := i * 3) (k := 0) (d := d)
  rw [Nat.add_zero] at this
  rw [this, fc_drop_at h]; rfl
theorem fc_get1 {f : F8} {i : Nat} {d : MV} (h : i < 8) : (fc f).getD (i * 3 + 1) d = .int .i64 (f.get i).n := by
  rw [getD_drop, fc_drop_at h]; rfl
theorem fc_get2 {f : F8} {i : Nat} {d : MV} (h : i < 8) : (fc f).getD (i * 3 + 2) d = .str (f.get i).s := by
  rw [getD_drop, fc_drop_at h]; rfl
theorem fc_laid {f : F8} {i : Nat} {a b : Int} {s : ByteArray} (h : i < 8) : laid (fc f) (i * 3) [.int .i64 a, .int .i64 b, .str s] = fc (f.set i ⟨a, b, s⟩) := by
  have hl : i < f.l.length := by rw [f.h]; exact h
  unfold laid
  simp only [List.length_cons, List.length_nil]
  have e : (f.set i ⟨a, b, s⟩).l = f.l.set i ⟨a, b, s⟩ := rfl
  rw [show i * 3 + (0 + 1 + 1 + 1) = (i + 1) * 3 by omega, fc, fc, va_take, va_drop, e, List.set_eq_take_append_cons_drop, if_pos hl, List.map_append, List.flatten_append, List.map_cons, List.flatten_cons]
  simp only [List.append_assoc]
theorem fc_fold {f : F8} {i : Nat} {v : VA} (h : i < 8) : (fc f).take (i * 3) ++ v.c ++ (fc f).drop (3 + i * 3) = fc (f.set i v) := by
  have := fc_laid (f := f) (i := i) (a := v.kd) (b := v.n) (s := v.s) h
  rw [← this, laid, show 3 + i * 3 = i * 3 + 3 by omega]; rfl
theorem F8.get_hit {f : F8} {i : Nat} {v : VA} (h : i < 8) : (f.set i v).get i = v := by rw [F8.get_set f i i v h, if_pos rfl]
theorem drop_two {α : Type} {a b : α} {l : List α} {n : Nat} : (a :: b :: l).drop (2 + n) = l.drop n := by rw [show 2 + n = n + 1 + 1 by omega]; rfl
theorem drop_three {α : Type} {a b c : α} {l : List α} {n : Nat} : (a :: b :: c :: l).drop (3 + n) = l.drop n := by rw [show 3 + n = n + 1 + 1 + 1 by omega]; rfl
theorem take_two {α : Type} {a b : α} {l : List α} {n : Nat} : (a :: b :: l).take (2 + n) = a :: b :: l.take n := by rw [show 2 + n = n + 1 + 1 by omega]; rfl
theorem take_three {α : Type} {a b c : α} {l : List α} {n : Nat} : (a :: b :: c :: l).take (3 + n) = a :: b :: c :: l.take n := by rw [show 3 + n = n + 1 + 1 + 1 by omega]; rfl
theorem getD_three {α : Type} {a b c d : α} {l : List α} {n : Nat} : (a :: b :: c :: l).getD (3 + n) d = l.getD n d := by rw [show 3 + n = n + 1 + 1 + 1 by omega]; simp
theorem getD_two {α : Type} {a b d : α} {l : List α} {n : Nat} : (a :: b :: l).getD (2 + n) d = l.getD n d := by rw [show 2 + n = n + 1 + 1 by omega]; simp
/-- Zeros. -/
theorem fc_zero {r : List MV} : (MV.int .i64 0 :: .int .i64 0 :: .str ⟨#[]⟩ :: .int .i64 0 :: .int .i64 0 :: .str ⟨#[]⟩ :: .int .i64 0 :: .int .i64 0 :: .str ⟨#[]⟩ :: .int .i64 0 :: .int .i64 0 :: .str ⟨#[]⟩ ::
    .int .i64 0 :: .int .i64 0 :: .str ⟨#[]⟩ :: .int .i64 0 :: .int .i64 0 :: .str ⟨#[]⟩ :: .int .i64 0 :: .int .i64 0 :: .str ⟨#[]⟩ :: .int .i64 0 :: .int .i64 0 :: .str ⟨#[]⟩ :: r) = fc f80 ++ r := rfl
abbrev PA.c (p : PA) : List MV := .int .u32 (p.mask.toNat : Int) :: .int .u32 (p.lab.toNat : Int) :: fc p.f
abbrev CA.c (c : CA) : List MV := .int .i64 c.id :: .int .i64 c.ver :: .int .u32 (c.lab.toNat : Int) :: fc c.f
abbrev ED.c (e : ED) : List MV := .int .i64 e.kd :: .int .i64 e.id :: .int .i64 e.gr :: .int .u32 (e.p.mask.toNat : Int) :: .int .u32 (e.p.lab.toNat : Int) :: fc e.p.f
theorem u32_int {a b : UInt32} : ((a.toNat : Int) = (b.toNat : Int)) ↔ a = b := by
  constructor
  · intro h; exact UInt32.toNat_inj.1 (by exact_mod_cast h)
  · intro h; rw [h]
end Go.Proofs.YtfbodefnblpflaaGreatDoor
end

section
/- How many bytes parts of messages have; readers that are short; fields step by step. No program in sight. -/
set_option linter.unusedVariables false
set_option linter.unusedSimpArgs false
namespace Go.Proofs.YtfbodefnblpflaaGreatDoor
class LB (l : BL) (k : outParam Nat) : Prop where
  h : l.length ≤ k
theorem numB_len (n : Int) : (numB n).length ≤ 6 := numF_len 5 _
instance {n : Int} : LB (numB n) 6 := ⟨numB_len n⟩
instance {a b : BL} {i j : Nat} [h : LB a i] [k : LB b j] : LB (a ++ b) (i + j) := ⟨by have := h.h; have := k.h; rw [List.length_append]; omega⟩
instance : LB [] 0 := ⟨Nat.le_refl _⟩
instance {c : Prop} [Decidable c] {a b : BL} {i j : Nat} [h : LB a i] [k : LB b j] : LB (if c then a else b) (i + j) := ⟨by have := h.h; have := k.h; split <;> omega⟩
instance {b : Bool} : LB (flagB b) 6 := ⟨numB_len _⟩
instance {v : VA} : LB (valB v) 36 := ⟨by
  have h1 := numB_len v.kd
  have h2 := numB_len v.n
  unfold valB
  split
  · rename_i h
    rw [vaOk_iff] at h
    have h3 := numB_len ((bl v.s).length : Int)
    simp only [List.length_append]
    split
    · omega
    · split
      · rename_i h5
        have : v.s.size ≤ 24 := by omega
        have e : (bl v.s).length = v.s.size := rfl
        simp only [strB, List.length_append]
        omega
      · simp only [List.length_nil]; omega
  · simp⟩
theorem fieldsB_len (m : Nat) (f : F8) : ∀ k, (fieldsB m f k).length ≤ 36 * k
  | 0 => by simp [fieldsB]
  | k + 1 => by
    have ih := fieldsB_len m f k
    have := (inferInstance : LB (valB (f.get (7 - k))) 36).h
    simp only [fieldsB, List.length_append]
    split
    · omega
    · simp only [List.length_nil]; omega
instance {m : Nat} {f : F8} : LB (fieldsB m f 8) 288 := ⟨fieldsB_len m f 8⟩
instance {p : PA} : LB (patchB p) 400 := ⟨by
  have h : LB (numB p.mask.toNat ++ (if bit p.mask.toNat 8 = true then numB p.lab.toNat else []) ++ fieldsB p.mask.toNat p.f 8) _ := inferInstance
  have h := h.h
  unfold patchB
  split
  · omega
  · simp⟩
instance {c : CA} : LB (cardB c) 400 := ⟨by
  have h : LB (numB c.id ++ numB c.ver ++ numB c.lab.toNat ++ numB (hasM c.f) ++ fieldsB (hasM c.f) c.f 8) _ := inferInstance
  have h := h.h
  unfold cardB
  split
  · omega
  · simp⟩
instance {e : ED} : LB (editB e) 500 := ⟨by
  have h : LB (numB e.kd ++ (if edG e.kd = true then numB e.gr else []) ++ (if edI e.kd = true then numB e.id else []) ++ (if edP e.kd = true then patchB e.p else [])) _ := inferInstance
  have h := h.h
  unfold editB
  split
  · omega
  · simp⟩
instance {t : TO} : LB (tokB t) 24 := ⟨by
  have h : LB (numB t.dev ++ numB t.ep ++ numB t.sq ++ numB t.cu) _ := inferInstance
  have h := h.h
  unfold tokB
  split
  · omega
  · simp⟩
instance {x : ND} : LB (nodeB x) 48 := ⟨by
  have h : LB (numB x.op) 6 := inferInstance
  have h2 : LB (if opN x.op = true then numB x.n else []) _ := inferInstance
  have h3 : LB (if opV x.op = true then valB x.v else []) _ := inferInstance
  have h := h.h
  have h2 := h2.h
  have h3 := h3.h
  unfold nodeB
  simp only [List.length_append]
  omega⟩
theorem flat_len {α : Type} {f : α → BL} {k : Nat} (h : ∀ x, (f x).length ≤ k) : ∀ l : List α, (l.map f).flatten.length ≤ k * l.length
  | [] => by simp
  | x :: l => by
    have := flat_len h l
    have := h x
    simp only [List.map_cons, List.flatten_cons, List.length_append, List.length_cons, Nat.mul_add]
    omega
theorem nodes_len (l : List ND) : (l.map nodeB).flatten.length ≤ 48 * l.length := flat_len (fun x => (inferInstance : LB (nodeB x) 48).h) l
instance {l : List ND} : LB (predB l) 1600 := ⟨by
  have h := nodes_len l
  have h1 := numB_len l.length
  unfold predB
  split
  · rename_i hp
    have := (predErr_iff l).1 hp
    simp only [List.length_append]
    omega
  · simp⟩
instance {a : RE} : LB (repB a) 1700 := ⟨by
  have h : LB (numB a.kd ++ numB a.dev ++ numB a.req ++ numB a.code ++ (if a.code = 0 then numB a.sq ++ (if a.kd = 2 then numB a.id ++ numB a.ver else []) ++ (if a.kd = 3 then numB a.ep ++ predB a.fl ++ numB a.mask.toNat else []) else [])) _ := inferInstance
  have h := h.h
  unfold repB
  split
  · omega
  · simp⟩
instance {x : IT} : LB (itemB x) 412 := ⟨by
  have h : LB (numB x.kd ++ (if x.kd = 2 then numB x.c.id else cardB x.c)) _ := inferInstance
  have h := h.h
  unfold itemB
  omega⟩
theorem items_len (l : List IT) : (l.map itemB).flatten.length ≤ 412 * l.length := flat_len (fun x => (inferInstance : LB (itemB x) 412).h) l
theorem page_items {p : PG} (hp : pageOk p = true) (hc : p.code = 0) (hr : ¬ p.reset = true) : p.items.length ≤ 16 := by
  have h := (pageOk_iff p).1 hp
  have h := h.2
  rw [if_neg (by omega), if_neg hr] at h
  exact h.2.2
instance {p : PG} : LB (pageB p) 7000 := ⟨by
  have h1 : LB (numB p.code ++ tokB p.fr) _ := inferInstance
  have h2 : LB (flagB p.reset ++ tokB p.to) _ := inferInstance
  have h3 := items_len p.items
  have h1 := h1.h
  have h2 := h2.h
  have h4 := numB_len p.items.length
  unfold pageB
  by_cases hp : pageOk p = true
  · rw [if_pos hp]
    by_cases hc : p.code = 0
    · rw [if_pos hc]
      by_cases hr : p.reset = true
      · rw [if_pos hr]
        simp only [List.length_append, List.length_nil] at h1 h2 ⊢; omega
      · have := page_items hp hc hr
        rw [if_neg hr]
        simp only [List.length_append] at h1 h2 ⊢; omega
    · rw [if_neg hc]
      simp only [List.length_append, List.length_nil] at h1 h2 ⊢; omega
  · rw [if_neg hp]; simp⟩
instance {c : CM} : LB (cmdB c) 3000 := ⟨by
  have h : LB (numB c.kd ++ (if c.kd = 1 then editB c.e else if c.kd = 5 then numB c.keep else numB c.dev ++ numB c.req ++ (if c.kd = 2 then numB c.id ++ numB c.base ++ patchB c.p else []) ++ (if c.kd = 3 then predB c.fl ++ numB c.mask.toNat else []))) _ := inferInstance
  have h := h.h
  unfold cmdB
  split
  · omega
  · simp⟩
theorem LB.le {l : BL} {k n : Nat} [h : LB l k] (hk : k ≤ n) : l.length ≤ n := Nat.le_trans h.h hk
/-- A reader of few bytes. -/
class Sh (r : RD) : Prop where
  h : r.l.length ≤ 1000000
instance {c : Prop} [Decidable c] {r s : RD} [h : Sh r] [k : Sh s] : Sh (if c then r else s) := by
  split
  · exact h
  · exact k
theorem fieldsB_at {m : Nat} {f : F8} {i : Nat} (h : i < 8) : fieldsB m f (8 - i) = (if bit m i = true then valB (f.get i) else []) ++ fieldsB m f (8 - (i + 1)) := by
  rw [show 8 - i = (8 - (i + 1)) + 1 by omega, fieldsB, show 7 - (8 - (i + 1)) = i by omega]
end Go.Proofs.YtfbodefnblpflaaGreatDoor
end

section
/- The fields of a mask, one by one. No program in sight. -/
set_option linter.unusedVariables false
set_option linter.unusedSimpArgs false
namespace Go.Proofs.YtfbodefnblpflaaGreatDoor
/-- The fields that a mask has. -/
def bitsL (m : Nat) : List Nat := (List.range 8).filter fun i => bit m i
theorem fieldsB_bits (m : Nat) (f : F8) : fieldsB m f 8 = ((bitsL m).map fun i => valB (f.get i)).flatten := by
  have h : ∀ k, k ≤ 8 → fieldsB m f k = ((((List.range 8).drop (8 - k)).filter fun i => bit m i).map fun i => valB (f.get i)).flatten := by
    intro k
    induction k with
    | zero => intro _; rfl
    | succ k ih =>
      intro hk
      have e : (List.range 8).drop (8 - (k + 1)) = (7 - k) :: (List.range 8).drop (8 - k) := by
        rw [List.drop_eq_getElem_cons (by simp; omega)]
        congr 1
        · simp
        · congr 1; omega
      rw [e, fieldsB, ih (by omega), List.filter_cons]
      split
      · rfl
      · rfl
  exact h 8 (Nat.le_refl 8)
theorem bitsL_lt {m i : Nat} (h : i ∈ bitsL m) : i < 8 := List.mem_range.1 (List.mem_filter.1 h).1
theorem bitsL_len (m : Nat) : (bitsL m).length ≤ 8 := by
  have := List.length_filter_le (fun i => bit m i) (List.range 8)
  rwa [List.length_range] at this
theorem bitsL_and (m : Nat) : bitsL (m &&& 255) = bitsL m := by
  unfold bitsL
  apply List.filter_congr
  intro i hi
  have hi := List.mem_range.1 hi
  unfold bit
  rw [Nat.testBit_and]
  have : (255 : Nat).testBit i = true := by
    have h : ∀ i, i < 8 → (255 : Nat).testBit i = true := by decide
    exact h i hi
  rw [this, Bool.and_true]
theorem bits_low : ∀ s : Nat, s < 256 → s ≠ 0 → bitsL s = (bitsL s).headD 0 :: bitsL (s &&& (s - 1)) := by decide +kernel
theorem bits_zero : bitsL 0 = [] := by decide
theorem ors_snoc (L : List Nat) (i : Nat) : (L ++ [i]).foldl (fun s n => s ||| 2 ^ n) 0 = L.foldl (fun s n => s ||| 2 ^ n) 0 ||| 2 ^ i := by simp
/-- The mask of those that hold. -/
theorem ors_fold (p : Nat → Bool) (n : Nat) : ors p n = ((List.range n).filter p).foldl (fun s n => s ||| 2 ^ n) 0 := by
  induction n with
  | zero => rfl
  | succ n ih =>
    rw [ors, ih, List.range_succ, List.filter_append, List.filter_cons]
    split <;> simp
end Go.Proofs.YtfbodefnblpflaaGreatDoor
end

section
/- Regions whose order is drawn (1): what an operation reads and turns; two that may change places. -/
set_option linter.unusedVariables false
set_option linter.unusedSimpArgs false
namespace Go.Proofs.YtfbodefnblpflaaGreatDoor
/-- What an operation does, once it has read. -/
structure Eff where
  C : Prop
  kill : Option Nat
  upd : Option (Nat × MObj)
  new : Option MObj
  v : Nat → MV → Prop
abbrev GF := List Nat × (List MObj → Option Eff)
def Eff.app (e : Eff) (σ : St) : St := fun l => if e.upd.map (·.1) = some l then e.upd.map (·.2) else if e.kill = some l then none else σ l
def Eff.out (e : Eff) (U : Nat → Prop) (σ : St) (v : MV) (U' : Nat → Prop) (σ' : St) : Prop :=
  match e.new with
  | none => e.v 0 v ∧ U' = U ∧ σ' = e.app σ
  | some o => ∃ l, ¬ U l ∧ e.v l v ∧ U' = (fun x => x = l ∨ U x) ∧ σ' = (e.app σ).set l o
def gs (U : Nat → Prop) (σ : St) (g : GF) (k : MV → (Nat → Prop) → St → Prop) : Prop :=
  ∃ os e, g.1.map σ = os.map some ∧ g.2 os = some e ∧ e.C ∧ (∀ l, ∃ v, e.v l v) ∧ ∀ v U' σ', e.out U σ v U' σ' → k v U' σ'
def Wf (g : GF) : Prop := ∀ os e, os.length = g.1.length → g.2 os = some e → (∀ l, e.kill = some l → l ∈ g.1) ∧ (∀ p, e.upd = some p → p.1 ∈ g.1)
def NoUpd (g : GF) : Prop := ∀ os e, os.length = g.1.length → g.2 os = some e → e.upd = none
def NoW (g : GF) : Prop := ∀ os e, os.length = g.1.length → g.2 os = some e → e.upd = none ∧ e.kill = none
def Dom (U : Nat → Prop) (σ : St) : Prop := ∀ l, σ l ≠ none → U l
def Fin (U : Nat → Prop) : Prop := ∃ n, ∀ l, n ≤ l → ¬ U l
theorem app_id {e : Eff} (h : e.upd = none ∧ e.kill = none) (σ : St) : e.app σ = σ := by
  funext l; simp [Eff.app, h.1, h.2]
theorem map_len {rd : List Nat} {σ : St} {os : List MObj} (h : rd.map σ = os.map some) : os.length = rd.length := by
  have := congrArg List.length h; simpa using this.symm
theorem map_mem {rd : List Nat} {σ : St} {os : List MObj} (h : rd.map σ = os.map some) {l : Nat} (hl : l ∈ rd) : σ l ≠ none := by
  have : σ l ∈ rd.map σ := List.mem_map_of_mem hl
  rw [h] at this
  obtain ⟨o, _, ho⟩ := List.mem_map.1 this
  rw [← ho]; simp
theorem map_inj {rd : List Nat} {σ σ' : St} {os os' : List MObj} (h : rd.map σ = os.map some) (h' : rd.map σ' = os'.map some) (he : ∀ l, l ∈ rd → σ l = σ' l) : os = os' := by
  have : rd.map σ = rd.map σ' := List.map_congr_left he
  rw [h, h'] at this
  clear h h' he
  induction os generalizing os' with
  | nil => cases os' with
    | nil => rfl
    | cons a r => simp at this
  | cons b r ih => cases os' with
    | nil => simp at this
    | cons a r' =>
      simp only [List.map_cons, List.cons.injEq, Option.some.injEq] at this
      rw [this.1, ih this.2]
theorem gs_mono {U : Nat → Prop} {σ : St} {g : GF} {k k' : MV → (Nat → Prop) → St → Prop} (h : gs U σ g k) (hd : Dom U σ) (hf : Fin U) (hk : ∀ v U' σ', Dom U' σ' → Fin U' → (∀ l, U l → U' l) → k v U' σ' → k' v U' σ') (wf : Wf g) : gs U σ g k' := by
  obtain ⟨os, e, h1, h2, h3, h4, h5⟩ := h
  refine ⟨os, e, h1, h2, h3, h4, fun v U' σ' ho => ?_⟩
  have hw := wf os e (map_len h1) h2
  have hdom : Dom U (e.app σ) := fun l hl => by
    simp only [Eff.app] at hl
    split at hl
    · rename_i hu
      cases hup : e.upd with
      | none => rw [hup] at hu; cases hu
      | some p =>
        rw [hup] at hu
        simp only [Option.map_some, Option.some.injEq] at hu
        have := hw.2 p hup
        rw [hu] at this
        exact hd l (map_mem h1 this)
    · split at hl
      · exact absurd rfl hl
      · exact hd l hl
  refine hk v U' σ' ?_ ?_ ?_ (h5 v U' σ' ho)
  all_goals
    unfold Eff.out at ho
    split at ho
  · obtain ⟨-, rfl, rfl⟩ := ho; exact hdom
  · obtain ⟨l, -, -, rfl, rfl⟩ := ho
    intro k hk
    simp only [St.set] at hk
    split at hk
    · rename_i e; exact .inl e
    · exact .inr (hdom k hk)
  · obtain ⟨-, rfl, rfl⟩ := ho; exact hf
  · obtain ⟨l, -, -, rfl, rfl⟩ := ho
    obtain ⟨n, hn⟩ := hf
    exact ⟨max n (l + 1), fun k hk q => q.elim (fun e => by omega) (hn k (by omega))⟩
  · obtain ⟨-, rfl, rfl⟩ := ho; exact fun _ h => h
  · obtain ⟨l, -, -, rfl, rfl⟩ := ho; exact fun _ h => .inr h
theorem gs_anti {U U' : Nat → Prop} {σ : St} {g : GF} {k : MV → (Nat → Prop) → St → Prop} (h : gs U σ g k) (hu : ∀ l, U l → U' l) (hk : ∀ v V V' σ, (∀ l, V l → V' l) → k v V σ → k v V' σ) : gs U' σ g k := by
  obtain ⟨os, e, h1, h2, h3, h4, h5⟩ := h
  refine ⟨os, e, h1, h2, h3, h4, fun v V σ' ho => ?_⟩
  unfold Eff.out at ho h5
  split at ho
  · rename_i hn
    obtain ⟨a, rfl, rfl⟩ := ho
    refine hk v U _ _ hu (h5 v U _ ?_)
    rw [hn]; exact ⟨a, rfl, rfl⟩
  · rename_i o hn
    obtain ⟨l, a, b, rfl, rfl⟩ := ho
    refine hk v (fun x => x = l ∨ U x) _ _ (fun x hx => hx.imp id (hu x)) (h5 v _ _ ?_)
    rw [hn]; exact ⟨l, fun q => a (hu l q), b, rfl, rfl⟩
/-- Some way on. -/
theorem out_some {e : Eff} {U : Nat → Prop} {σ : St} (hf : Fin U) (hv : ∀ l, ∃ v, e.v l v) (rd : List Nat) : ∃ v U' σ', e.out U σ v U' σ' ∧ ∀ l, l ∈ rd → σ' l = (e.app σ) l := by
  unfold Eff.out
  cases e.new with
  | none => obtain ⟨v, hv⟩ := hv 0; exact ⟨v, U, e.app σ, ⟨hv, rfl, rfl⟩, fun _ _ => rfl⟩
  | some o =>
    obtain ⟨n, hn⟩ := hf
    have key : ∃ m, ∀ l, l ∈ rd → l < m := by
      clear hv
      induction rd with
      | nil => exact ⟨0, by simp⟩
      | cons a r ih =>
        obtain ⟨m, hm⟩ := ih
        refine ⟨max m (a + 1), fun l hl => ?_⟩
        rcases List.mem_cons.1 hl with q | q
        · omega
        · have := hm l q; omega
    obtain ⟨m, hm⟩ := key
    obtain ⟨v, hv⟩ := hv (max n m)
    refine ⟨v, _, _, ⟨max n m, hn _ (by omega), hv, rfl, rfl⟩, fun l hl => ?_⟩
    have := hm l hl
    exact set_miss _ _ _ _ (by omega)
theorem app_set {e : Eff} {σ : St} {l : Nat} {o : MObj} (hk : e.kill ≠ some l) (hu : ∀ p, e.upd = some p → p.1 ≠ l) : e.app (σ.set l o) = (e.app σ).set l o := by
  funext k
  simp only [Eff.app, St.set]
  by_cases h : k = l
  · subst h
    rw [if_neg, if_neg hk, if_pos rfl]
    · simp
    · intro q
      cases hup : e.upd with
      | none => rw [hup] at q; cases q
      | some p => rw [hup] at q; simp at q; exact hu p hup q
  · simp only [if_neg h]
/-- Two operations change places. -/
theorem gs_swap {U : Nat → Prop} {σ : St} {gx gy : GF} {K : MV → MV → (Nat → Prop) → St → Prop} (hd : Dom U σ) (hf : Fin U) (wx : Wf gx) (wy : Wf gy)
    (hc : ((gy.1 = [] ∨ NoUpd gx) ∧ (gx.1 = [] ∨ NoW gy) ∧ (NoW gx ∨ NoW gy)) ∨ ∀ l, l ∈ gx.1 → l ∉ gy.1)
    (hK : ∀ v u V V' σ, (∀ l, V l → V' l) → K v u V σ → K v u V' σ)
    (h : gs U σ gx fun v U1 σ1 => gs U1 σ1 gy fun u U2 σ2 => K v u U2 σ2) :
    gs U σ gy fun u U1 σ1 => ∀ U1', (∀ l, U1 l → U1' l) → gs U1' σ1 gx fun v U2 σ2 => K v u U2 σ2 := by
  obtain ⟨ox, ex, x1, x2, x3, x4, x5⟩ := h
  have wx' := wx ox ex (map_len x1) x2
  -- what y reads is there already
  have agree : ∀ v U1 σ1, ex.out U σ v U1 σ1 → ∀ oy : List MObj, gy.1.map σ1 = oy.map some → (∀ l, l ∈ gy.1 → σ1 l = (ex.app σ) l) → ∀ l, l ∈ gy.1 → σ1 l = σ l := by
    intro v U1 σ1 ho oy hoy hsame l hl
    rw [hsame l hl]
    rcases hc.imp_left (·.1) with (c | c) | c
    · rw [c] at hl; cases hl
    · have hu := c ox ex (map_len x1) x2
      have hne := map_mem hoy hl
      rw [hsame l hl] at hne
      simp only [Eff.app, hu, Option.map_none] at hne ⊢
      split at hne
      · rename_i q; cases q
      · split at hne
        · exact absurd rfl hne
        · rename_i q1 q2; rw [if_neg q1, if_neg q2]
    · simp only [Eff.app]
      rw [if_neg, if_neg]
      · intro e; exact c l (wx'.1 l e) hl
      · intro e
        obtain ⟨p, hp, he⟩ := Option.map_eq_some_iff.1 e
        exact c l (he ▸ wx'.2 p hp) hl
  obtain ⟨v0, V0, σ0, out0, same0⟩ := out_some (σ := σ) hf x4 gy.1
  obtain ⟨oy, ey, y1, y2, y3, y4, y5⟩ := x5 v0 V0 σ0 out0
  have ag0 := agree v0 V0 σ0 out0 oy y1 same0
  have y1' : gy.1.map σ = oy.map some := by rw [← y1]; exact (List.map_congr_left ag0).symm
  have wy' := wy oy ey (map_len y1) y2
  refine ⟨oy, ey, y1', y2, y3, y4, fun u U1 σ1 hoy U1' hU1 => ?_⟩
  -- what x reads is there still
  have hx1 : gx.1.map σ1 = ox.map some := by
    rw [← x1]
    refine List.map_congr_left fun l hl => ?_
    rcases hc.imp_left (·.2.1) with (c | c) | c
    · rw [c] at hl; cases hl
    · have hw := c oy ey (map_len y1) y2
      unfold Eff.out at hoy
      split at hoy
      · obtain ⟨-, -, rfl⟩ := hoy; rw [app_id hw]
      · obtain ⟨k, q1, q2, q3, rfl⟩ := hoy
        rw [app_id hw]
        refine set_miss _ _ _ _ (fun e => q1 ?_)
        subst e
        exact hd l (map_mem x1 hl)
    · have hap : (ey.app σ) l = σ l := by
        simp only [Eff.app]
        rw [if_neg, if_neg]
        · intro e; exact c l hl (wy'.1 l e)
        · intro e
          obtain ⟨p, hp, he⟩ := Option.map_eq_some_iff.1 e
          exact c l hl (he ▸ wy'.2 p hp)
      unfold Eff.out at hoy
      split at hoy
      · obtain ⟨-, -, rfl⟩ := hoy; exact hap
      · obtain ⟨k, q1, q2, q3, rfl⟩ := hoy
        rw [← hap]
        refine set_miss _ _ _ _ (fun e => q1 ?_)
        subst e
        exact hd l (map_mem x1 hl)
  refine ⟨ox, ex, hx1, x2, x3, x4, fun v U2 σ2 hox => ?_⟩
  -- the two in their old order, at the same places
  have noty : ∀ l, ¬ U l → ey.kill ≠ some l ∧ ∀ p, ey.upd = some p → p.1 ≠ l := fun l hl =>
    ⟨fun e => hl (hd l (map_mem y1' (wy'.1 l e))), fun p hp e => hl (hd l (e ▸ map_mem y1' (wy'.2 p hp)))⟩
  have notx : ∀ l, ¬ U l → ex.kill ≠ some l ∧ ∀ p, ex.upd = some p → p.1 ≠ l := fun l hl =>
    ⟨fun e => hl (hd l (map_mem x1 (wx'.1 l e))), fun p hp e => hl (hd l (e ▸ map_mem x1 (wx'.2 p hp)))⟩
  have comm : ex.app (ey.app σ) = ey.app (ex.app σ) := by
    rcases hc.imp_left (·.2.2) with (c | c) | c
    · rw [app_id (c ox ex (map_len x1) x2), app_id (c ox ex (map_len x1) x2)]
    · rw [app_id (c oy ey (map_len y1) y2), app_id (c oy ey (map_len y1) y2)]
    · funext l
      by_cases hx : l ∈ gx.1
      · have hy := c l hx
        have n1 : ey.upd.map (·.1) ≠ some l := fun e => by
          obtain ⟨p, hp, he⟩ := Option.map_eq_some_iff.1 e
          exact hy (he ▸ wy'.2 p hp)
        have n2 : ey.kill ≠ some l := fun e => hy (wy'.1 l e)
        simp only [Eff.app, if_neg n1, if_neg n2]
      · have n1 : ex.upd.map (·.1) ≠ some l := fun e => by
          obtain ⟨p, hp, he⟩ := Option.map_eq_some_iff.1 e
          exact hx (he ▸ wx'.2 p hp)
        have n2 : ex.kill ≠ some l := fun e => hx (wx'.1 l e)
        simp only [Eff.app, if_neg n1, if_neg n2]
  have finish : ∀ V σ', ex.out U σ v V σ' → (∀ l, l ∈ gy.1 → σ' l = (ex.app σ) l) → ∀ W σ'', ey.out V σ' u W σ'' → K v u W σ'' := by
    intro V σ' ho hsame W σ'' hoy'
    obtain ⟨oy2, ey2, z1, z2, z3, z4, z5⟩ := x5 v V σ' ho
    have ag := agree v V σ' ho oy2 z1 hsame
    have : oy = oy2 := map_inj y1' z1 (fun l hl => (ag l hl).symm)
    subst this
    rw [y2] at z2; cases z2
    exact z5 u W σ'' hoy'
  have hmem : ∀ l, ¬ U l → l ∉ gy.1 := fun l hl q => hl (hd l (map_mem y1' q))
  unfold Eff.out at hox hoy
  cases hnx : ex.new with
  | none =>
    rw [hnx] at hox
    obtain ⟨a1, rfl, rfl⟩ := hox
    have hout : ex.out U σ v U (ex.app σ) := by unfold Eff.out; rw [hnx]; exact ⟨a1, rfl, rfl⟩
    cases hny : ey.new with
    | none =>
      rw [hny] at hoy
      obtain ⟨b1, rfl, rfl⟩ := hoy
      refine hK v u U1 U2 _ hU1 (finish _ _ hout (fun _ _ => rfl) _ _ ?_)
      unfold Eff.out; rw [hny]; exact ⟨b1, rfl, comm⟩
    | some o =>
      rw [hny] at hoy
      obtain ⟨l, b0, b1, rfl, rfl⟩ := hoy
      refine hK v u _ U2 _ hU1 (finish _ _ hout (fun _ _ => rfl) _ _ ?_)
      unfold Eff.out; rw [hny]
      refine ⟨l, b0, b1, rfl, ?_⟩
      rw [app_set (notx l b0).1 (notx l b0).2, comm]
  | some p =>
    rw [hnx] at hox
    obtain ⟨k, a0, a1, rfl, rfl⟩ := hox
    have hout : ∀ W : Nat → Prop, (∀ l, U l → W l) → ¬ W k → ex.out U σ v (fun x => x = k ∨ U x) ((ex.app σ).set k p) := fun W hW hk => by
      unfold Eff.out; rw [hnx]; exact ⟨k, fun q => hk (hW k q), a1, rfl, rfl⟩
    cases hny : ey.new with
    | none =>
      rw [hny] at hoy
      obtain ⟨b1, rfl, rfl⟩ := hoy
      have hk : ¬ U1 k := fun q => a0 (hU1 k q)
      refine hK v u (fun x => x = k ∨ U1 x) _ _ (fun l q => q.imp id (hU1 l)) (finish _ _ (hout U1' hU1 a0) (fun l hl => set_miss _ _ _ _ (fun e => hmem k hk (e ▸ hl))) _ _ ?_)
      unfold Eff.out; rw [hny]
      refine ⟨b1, rfl, ?_⟩
      rw [comm, app_set (noty k hk).1 (noty k hk).2]
    | some o =>
      rw [hny] at hoy
      obtain ⟨l, b0, b1, rfl, rfl⟩ := hoy
      have hk : ¬ U k := fun q => a0 (hU1 k (.inr q))
      have hkl : k ≠ l := fun e => a0 (hU1 k (.inl e))
      refine hK v u (fun x => x = l ∨ (x = k ∨ U x)) _ _ (fun x q => ?_) (finish _ _ (hout U1' (fun x q => hU1 x (.inr q)) a0) (fun x hx => set_miss _ _ _ _ (fun e => hmem k hk (e ▸ hx))) _ _ ?_)
      · rcases q with q | q | q
        · exact .inr (hU1 x (.inl q))
        · exact .inl q
        · exact .inr (hU1 x (.inr q))
      · unfold Eff.out; rw [hny]
        refine ⟨l, fun q => q.elim (fun e => hkl e.symm) b0, b1, rfl, ?_⟩
        rw [app_set (notx l b0).1 (notx l b0).2, comm, app_set (noty k hk).1 (noty k hk).2, set_comm _ _ _ (Ne.symm hkl)]
end Go.Proofs.YtfbodefnblpflaaGreatDoor
end

section
/- Regions whose order is drawn, with calls that answer a new place (2): the operations as what they read and turn. -/
set_option linter.unusedVariables false
set_option linter.unusedSimpArgs false
namespace Go.Proofs.YtfbodefnblpflaaGreatDoor
def St.ofList : List Nat → List MObj → St
  | l :: ls, o :: os => (St.ofList ls os).set l o
  | _, _ => St.none
/-- What is known of a call: what it reads and answers, or the new place that it answers. -/
structure Fact where
  rd : List Nat
  q : MV → Prop
  new : Option (MObj × (Nat → MV))
abbrev Know := FuncId → List MV → Option Fact
def gfail : GF := ([], fun _ => none)
def gpure (pv : PV) : GF := ([], fun _ => pv.map fun x => ⟨x.1, none, none, none, fun _ u => u = x.2⟩)
def galloc (C : Prop) (o : MObj) (v : Nat → MV) : GF := ([], fun _ => some ⟨C, none, none, some o, fun l u => u = v l⟩)
def srcLoc : MV → List Nat
  | .vec _ l _ _ => [l]
  | _ => []
def stOf (os : List MObj) : St := fun _ => os.head?
def gload (P : Program) (t : TypeId) : MV → GF
  | .ptr l i o => ([l], fun os => match os with
    | [.row _ _ xs] => some ⟨(td P t).ok = true ∧ i < xs.length ∧ o + (td P t).size ≤ (xs.getD i []).length ∧ 0 < (td P t).size, none, none, none, fun _ u => u = mpart (td P t) (xs.getD i []) o⟩
    | _ => none)
  | .cptr cs => gpure (some ((td P t).ok = true ∧ (td P t).size ≤ cs.length ∧ 0 < (td P t).size, mpart (td P t) cs 0))
  | _ => gfail
def gstore (P : Program) (t : TypeId) (x y : MV) : GF :=
  match x with
  | .ptr l i o => ([l], fun os => match os with
    | [.row tt e xs] => some ⟨(td P t).ok = true ∧ i < xs.length ∧ y.cells.all MV.isCell = true ∧ y.cells.length = (td P t).size ∧ o + y.cells.length ≤ (xs.getD i []).length, none, some (l, .row tt e (xs.set i (laid (xs.getD i []) o y.cells))), none, fun _ u => u = .junk⟩
    | _ => none)
  | _ => gfail
def gappend (P : Program) (t xt : TypeId) (s x : MV) : GF :=
  match (td P t).k with
  | .slice el => match s with
    | .nils => (srcLoc x, fun os => match msrc (stOf os) (td P el).size x with
      | some ys => some ⟨(td P xt).k.isSrc = true ∧ (td P el).zok = true ∧ Fits ys.length (td P el).bytes, none, none, some (.row el (td P el).size ys), fun l u => u = .vec (td P el).size l 0 ys.length⟩
      | none => none)
    | .lst e xs true => (srcLoc x, fun os => match msrc (stOf os) (td P el).size x with
      | some ys => some ⟨(td P xt).k.isSrc = true ∧ (td P el).zok = true ∧ e = (td P el).size ∧ (xs = [] ∨ 0 < ys.length) ∧ Fits (xs.length + ys.length) (td P el).bytes, none, none, some (.row el (td P el).size (xs ++ ys)), fun l u => u = .vec (td P el).size l 0 (xs.length + ys.length)⟩
      | none => none)
    | .vec e l lo n => (l :: srcLoc x, fun os => match os with
      | .row tt e' xs :: os => match msrc (stOf os) (td P el).size x with
        | some ys => some ⟨(td P xt).k.isSrc = true ∧ (td P el).zok = true ∧ e = (td P el).size ∧ e' = (td P el).size ∧ tt = el ∧ lo + n ≤ xs.length ∧ Fits (n + ys.length) (td P el).bytes, some l, none, some (.row el (td P el).size (appRow xs lo n ys)), fun l' u => u = .vec (td P el).size l' 0 (n + ys.length)⟩
        | none => none
      | _ => none)
    | _ => gfail
  | _ => gfail
def gbuildSlice (P : Program) (ρ : Operand → MV) (t : TypeId) (len : Nat) (parts : Array (Nat × Operand)) : GF :=
  match (td P t).k with
  | .slice el => galloc ((td P el).zok = true ∧ parts.toList.map (·.1) = List.range len ∧ (parts.toList.all fun p => (ρ p.2).cells.all MV.isCell && (ρ p.2).cells.length == (td P el).size) = true ∧ len * (td P el).size ≤ 16777216 ∧ len ≤ 16777216)
      (.row el (td P el).size (parts.toList.map fun p => (ρ p.2).cells)) (fun l => .vec (td P el).size l 0 len)
  | _ => gfail
def gmakeSlice (P : Program) (t : TypeId) (x y : MV) : GF :=
  match (td P t).k, x, y with
  | .slice el, .int .i64 n, .int .i64 c => galloc ((td P el).zok = true ∧ 0 ≤ n ∧ n ≤ c ∧ Fits c.toNat (td P el).bytes) (.row el (td P el).size (List.replicate n.toNat (td P el).zero)) (fun l => .vec (td P el).size l 0 n.toNat)
  | _, _, _ => gfail
def gconvert (P : Program) (s d : TypeId) (x : MV) : GF :=
  match (td P s).k, (td P d).k, x with
  | .str, .slice el, .str b => galloc ((td P el).k = .int .u8 ∧ b.size ≤ 140737488355328) (.row el 1 (b.toList.map fun c => [.int .u8 (c.toNat : Int)])) (fun l => .vec 1 l 0 b.size)
  | .slice el, .str, .str _ => gfail
  | .slice el, .str, x => (srcLoc x, fun os => match msrc (stOf os) 1 x with
    | some ys => some ⟨(td P el).k = .int .u8 ∧ ys.all isByte = true, none, none, none, fun _ u => u = .str (bytesOf ys)⟩
    | none => none)
  | _, _, x => gpure (mconv P s d x)
def gcall (P : Program) (C : Know) (g : FuncId) (ms : List MV) : GF :=
  match C g ms with
  | some ⟨rd, q, none⟩ => (rd, fun os => some ⟨MCalls P g ms (St.ofList rd os) (fun v σ' => q v ∧ σ' = St.ofList rd os), none, none, none, fun _ u => q u⟩)
  | some ⟨[], _, some (o, u)⟩ => galloc (MCalls P g ms St.none fun v σ' => ∃ l, v = u l ∧ σ' = St.none.set l o) o u
  | some ⟨[l], _, some (o', u)⟩ => ([l], fun os => match os with
    | [o] => some ⟨MCalls P g ms (St.none.set l o) (fun v σ' => v = u l ∧ σ' = St.none.set l o'), none, some (l, o'), none, fun _ w => w = u l⟩
    | _ => none)
  | _ => gfail
/-- Calls turn nothing. -/
def Pl (C : Know) : Prop := ∀ g ms rd q x, C g ms = some ⟨rd, q, some x⟩ → rd = []
def Know.pl (C : Know) : Know := fun g ms => (C g ms).map fun F => match F with
  | ⟨rd, q, none⟩ => ⟨rd, q, none⟩
  | ⟨_, q, some x⟩ => ⟨[], q, some x⟩
theorem Know.pl_pl (C : Know) : Pl C.pl := by
  intro g ms rd q x h
  unfold Know.pl at h
  cases hC : C g ms with
  | none => rw [hC] at h; cases h
  | some F =>
    rw [hC] at h
    obtain ⟨rd', q', n⟩ := F
    cases n with
    | none => simp at h
    | some y => simp at h; exact h.1.symm ▸ rfl
def gop (P : Program) (C : Know) (f : FR) : Op → GF
  | .alloc t => galloc ((td P t).zok = true) (.row t (td P t).size [(td P t).zero]) (fun l => .ptr l 0 0)
  | .box t x => galloc ((mval f x).cells.all MV.isCell = true) (.row t (mval f x).cells.length [(mval f x).cells]) (fun l => .ptr l 0 0)
  | .load t x => gload P t (mval f x)
  | .store t x y => gstore P t (mval f x) (mval f y)
  | .buildSlice t len parts => gbuildSlice P (mval f) t len parts
  | .makeSlice t x y => gmakeSlice P t (mval f x) (mval f y)
  | .convert s d x => gconvert P s d (mval f x)
  | .call ⟨.builtin .append, args, ts⟩ => match args.toList, ts.toList with
    | [s, x], [t, xt] => gappend P t xt (mval f s) (mval f x)
    | _, _ => gfail
  | .call ⟨.builtin b, args, ts⟩ => if ts.toList.length = args.toList.length then gpure (mbuiltin P b ts.toList.toArray (args.toList.map (mval f))) else gfail
  | .call ⟨.value x, args, ts⟩ => match mval f x with
    | .fn (.func g) ms ns => gcall P C g (ms ++ args.toList.map (mval f) ++ ns)
    | _ => gfail
  | .call ⟨.invoke _ _, _, _⟩ => gfail
  | .defer _ => gfail
  | op => gpure (qop P f op)
/-! ### What the forms read and turn -/
theorem wf_pure (pv : PV) : Wf (gpure pv) ∧ NoW (gpure pv) ∧ NoUpd (gpure pv) ∧ (gpure pv).1 = [] := by
  have key : ∀ os e, (gpure pv).2 os = some e → e.upd = none ∧ e.kill = none := fun os e h => by
    simp only [gpure, Option.map_eq_some_iff] at h
    obtain ⟨x, -, rfl⟩ := h
    exact ⟨rfl, rfl⟩
  exact ⟨fun os e _ h => by simp [key os e h], fun os e _ h => key os e h, fun os e _ h => (key os e h).1, rfl⟩
theorem wf_alloc (C : Prop) (o : MObj) (v : Nat → MV) : Wf (galloc C o v) ∧ NoW (galloc C o v) ∧ NoUpd (galloc C o v) ∧ (galloc C o v).1 = [] := by
  have key : ∀ os e, (galloc C o v).2 os = some e → e.upd = none ∧ e.kill = none := fun os e h => by
    simp only [galloc, Option.some.injEq] at h
    subst h; exact ⟨rfl, rfl⟩
  exact ⟨fun os e _ h => by simp [key os e h], fun os e _ h => key os e h, fun os e _ h => (key os e h).1, rfl⟩
theorem wf_fail : Wf gfail ∧ NoW gfail ∧ NoUpd gfail ∧ gfail.1 = [] := ⟨fun os e _ h => by simp [gfail] at h, fun os e _ h => by simp [gfail] at h, fun os e _ h => by simp [gfail] at h, rfl⟩
def rd0 : Op → Bool
  | .load .. | .store .. | .convert .. | .call ⟨.builtin .append, _, _⟩ | .call ⟨.value _, _, _⟩ => false
  | _ => true
def noUpd (u : Bool) : Op → Bool
  | .store .. => false
  | .call ⟨.value _, _, _⟩ => !u
  | _ => true
def noW (u : Bool) : Op → Bool
  | .store .. | .call ⟨.builtin .append, _, _⟩ => false
  | .call ⟨.value _, _, _⟩ => !u
  | _ => true
theorem wf_load (P : Program) (t : TypeId) (x : MV) : Wf (gload P t x) ∧ NoW (gload P t x) ∧ NoUpd (gload P t x) := by
  unfold gload
  split
  · have key : ∀ (os : List MObj) (e : Eff) (l i o : Nat), (match os with
      | [.row _ _ xs] => some (⟨(td P t).ok = true ∧ i < xs.length ∧ o + (td P t).size ≤ (xs.getD i []).length ∧ 0 < (td P t).size, none, none, none, fun _ u => u = mpart (td P t) (xs.getD i []) o⟩ : Eff)
      | _ => none) = some e → e.upd = none ∧ e.kill = none := by
      intro os e l i o h
      split at h
      · cases h; exact ⟨rfl, rfl⟩
      · cases h
    exact ⟨fun os e _ h => by simp [key os e 0 _ _ h], fun os e _ h => key os e 0 _ _ h, fun os e _ h => (key os e 0 _ _ h).1⟩
  · exact ⟨(wf_pure _).1, (wf_pure _).2.1, (wf_pure _).2.2.1⟩
  · exact ⟨wf_fail.1, wf_fail.2.1, wf_fail.2.2.1⟩
theorem wf_store (P : Program) (t : TypeId) (x y : MV) : Wf (gstore P t x y) := by
  unfold gstore
  split
  · intro os e _ h
    simp only at h
    split at h
    · cases h; simp
    · cases h
  · exact wf_fail.1
theorem wf_append (P : Program) (t xt : TypeId) (s x : MV) : Wf (gappend P t xt s x) ∧ NoUpd (gappend P t xt s x) := by
  unfold gappend
  split
  · split
    · refine ⟨fun os e _ h => ?_, fun os e _ h => ?_⟩ <;>
      · simp only at h
        split at h
        · cases h; simp
        · cases h
    · refine ⟨fun os e _ h => ?_, fun os e _ h => ?_⟩ <;>
      · simp only at h
        split at h
        · cases h; simp
        · cases h
    · refine ⟨fun os e _ h => ?_, fun os e _ h => ?_⟩ <;>
      · simp only at h
        split at h
        · split at h
          · cases h; simp
          · cases h
        · cases h
    · exact ⟨wf_fail.1, wf_fail.2.2.1⟩
  · exact ⟨wf_fail.1, wf_fail.2.2.1⟩
theorem wf_convert (P : Program) (s d : TypeId) (x : MV) : Wf (gconvert P s d x) ∧ NoW (gconvert P s d x) ∧ NoUpd (gconvert P s d x) := by
  unfold gconvert
  split
  · exact ⟨(wf_alloc _ _ _).1, (wf_alloc _ _ _).2.1, (wf_alloc _ _ _).2.2.1⟩
  · exact ⟨wf_fail.1, wf_fail.2.1, wf_fail.2.2.1⟩
  · refine ⟨fun os e _ h => ?_, fun os e _ h => ?_, fun os e _ h => ?_⟩ <;>
    · simp only at h
      split at h
      · cases h; simp
      · cases h
  · exact ⟨(wf_pure _).1, (wf_pure _).2.1, (wf_pure _).2.2.1⟩
theorem wf_call (P : Program) (C : Know) (g : FuncId) (ms : List MV) : Wf (gcall P C g ms) ∧ (Pl C → NoW (gcall P C g ms) ∧ NoUpd (gcall P C g ms)) := by
  unfold gcall
  split
  · refine ⟨fun os e _ h => ?_, fun _ => ⟨fun os e _ h => ?_, fun os e _ h => ?_⟩⟩ <;>
    · simp only [Option.some.injEq] at h
      subst h; simp
  · exact ⟨(wf_alloc _ _ _).1, fun _ => ⟨(wf_alloc _ _ _).2.1, (wf_alloc _ _ _).2.2.1⟩⟩
  · rename_i l q o' u hC
    refine ⟨fun os e _ h => ?_, fun hp => ?_⟩
    · simp only at h
      split at h
      · cases h; simp
      · cases h
    · have := hp _ _ _ _ _ hC; cases this
  · exact ⟨wf_fail.1, fun _ => ⟨wf_fail.2.1, wf_fail.2.2.1⟩⟩
theorem wf_buildSlice (P : Program) (ρ : Operand → MV) (t : TypeId) (len : Nat) (parts : Array (Nat × Operand)) : Wf (gbuildSlice P ρ t len parts) ∧ NoW (gbuildSlice P ρ t len parts) ∧ NoUpd (gbuildSlice P ρ t len parts) ∧ (gbuildSlice P ρ t len parts).1 = [] := by
  unfold gbuildSlice
  split
  · exact wf_alloc _ _ _
  · exact wf_fail
theorem wf_makeSlice (P : Program) (t : TypeId) (x y : MV) : Wf (gmakeSlice P t x y) ∧ NoW (gmakeSlice P t x y) ∧ NoUpd (gmakeSlice P t x y) ∧ (gmakeSlice P t x y).1 = [] := by
  unfold gmakeSlice
  split
  · exact wf_alloc _ _ _
  · exact wf_fail
theorem wf_gop (P : Program) (C : Know) {u : Bool} (hu : u = true ∨ Pl C) (f : FR) (op : Op) : Wf (gop P C f op) ∧ (noUpd u op = true → NoUpd (gop P C f op)) ∧ (noW u op = true → NoW (gop P C f op)) ∧ (rd0 op = true → (gop P C f op).1 = []) := by
  cases op
  case load t x => exact ⟨(wf_load _ _ _).1, fun _ => (wf_load _ _ _).2.2, fun _ => (wf_load _ _ _).2.1, fun h => by simp [rd0] at h⟩
  case store t x y => exact ⟨wf_store _ _ _ _, fun h => by simp [noUpd] at h, fun h => by simp [noW] at h, fun h => by simp [rd0] at h⟩
  case convert s d x => exact ⟨(wf_convert _ _ _ _).1, fun _ => (wf_convert _ _ _ _).2.2, fun _ => (wf_convert _ _ _ _).2.1, fun h => by simp [rd0] at h⟩
  case alloc t => exact ⟨(wf_alloc _ _ _).1, fun _ => (wf_alloc _ _ _).2.2.1, fun _ => (wf_alloc _ _ _).2.1, fun _ => rfl⟩
  case box t x => exact ⟨(wf_alloc _ _ _).1, fun _ => (wf_alloc _ _ _).2.2.1, fun _ => (wf_alloc _ _ _).2.1, fun _ => rfl⟩
  case buildSlice t n p => exact ⟨(wf_buildSlice _ _ _ _ _).1, fun _ => (wf_buildSlice _ _ _ _ _).2.2.1, fun _ => (wf_buildSlice _ _ _ _ _).2.1, fun _ => (wf_buildSlice _ _ _ _ _).2.2.2⟩
  case makeSlice t x y => exact ⟨(wf_makeSlice _ _ _ _).1, fun _ => (wf_makeSlice _ _ _ _).2.2.1, fun _ => (wf_makeSlice _ _ _ _).2.1, fun _ => (wf_makeSlice _ _ _ _).2.2.2⟩
  case defer c => exact ⟨wf_fail.1, fun _ => wf_fail.2.2.1, fun _ => wf_fail.2.1, fun _ => rfl⟩
  case call c =>
    obtain ⟨callee, args, ts⟩ := c
    cases callee with
    | value x =>
      simp only [gop]
      split
      · have hp : u = false → Pl C := fun h => hu.resolve_left (by simp [h])
        exact ⟨(wf_call _ _ _ _).1, fun h => ((wf_call _ _ _ _).2 (hp (by simpa [noUpd] using h))).2, fun h => ((wf_call _ _ _ _).2 (hp (by simpa [noW] using h))).1, fun h => by simp [rd0] at h⟩
      · exact ⟨wf_fail.1, fun _ => wf_fail.2.2.1, fun _ => wf_fail.2.1, fun _ => rfl⟩
    | invoke r m => exact ⟨wf_fail.1, fun _ => wf_fail.2.2.1, fun _ => wf_fail.2.1, fun _ => rfl⟩
    | builtin b =>
      by_cases hb : b = .append
      · subst hb
        simp only [gop]
        split
        · exact ⟨(wf_append _ _ _ _ _).1, fun _ => (wf_append _ _ _ _ _).2, fun h => by simp [noW] at h, fun h => by simp [rd0] at h⟩
        · exact ⟨wf_fail.1, fun _ => wf_fail.2.2.1, fun _ => wf_fail.2.1, fun _ => rfl⟩
      · have : gop P C f (.call ⟨.builtin b, args, ts⟩) = if ts.toList.length = args.toList.length then gpure (mbuiltin P b ts.toList.toArray (args.toList.map (mval f))) else gfail := by
          cases b <;> first | rfl | exact absurd rfl hb
        rw [this]
        split
        · exact ⟨(wf_pure _).1, fun _ => (wf_pure _).2.2.1, fun _ => (wf_pure _).2.1, fun _ => rfl⟩
        · exact ⟨wf_fail.1, fun _ => wf_fail.2.2.1, fun _ => wf_fail.2.1, fun _ => rfl⟩
  all_goals exact ⟨(wf_pure _).1, fun _ => (wf_pure _).2.2.1, fun _ => (wf_pure _).2.1, fun _ => rfl⟩
end Go.Proofs.YtfbodefnblpflaaGreatDoor
end

section
/- Regions whose order is drawn, with calls that answer a new place (3): the forms are the operations. -/
set_option linter.unusedVariables false
set_option linter.unusedSimpArgs false
namespace Go.Proofs.YtfbodefnblpflaaGreatDoor
def mcallC (P : Program) (C : Know) (g : FuncId) (ms : List MV) (σ : St) (k : MV → St → Prop) : Prop :=
  (∃ rd q os, C g ms = some ⟨rd, q, none⟩ ∧ rd.map σ = os.map some ∧ MCalls P g ms (St.ofList rd os) (fun v σ' => q v ∧ σ' = St.ofList rd os) ∧ (∃ v, q v) ∧ ∀ v, q v → k v σ) ∨
  ∃ rd q o u, C g ms = some ⟨rd, q, some (o, u)⟩ ∧ MCalls P g ms St.none (fun v σ' => ∃ l, v = u l ∧ σ' = St.none.set l o) ∧ ∀ l, σ l = none → k (u l) (σ.set l o)
def mopX (P : Program) (MC : FuncId → List MV → St → (MV → St → Prop) → Prop) (f : FR) (σ : St) (k : MV → St → Prop) : Op → Prop
  | .call ⟨.value x, args, ts⟩ => match mval f x with
    | .fn (.func g) ms ns => MC g (ms ++ args.toList.map (mval f) ++ ns) σ k
    | _ => False
  | .defer _ => False
  | op => mop P f σ k op
section
variable {P : Program} {C : Know} {f : FR} {σ : St} {U : Nat → Prop}
theorem ofList_le : ∀ (rd : List Nat) (os : List MObj), rd.map σ = os.map some → (St.ofList rd os).le σ
  | [], _, _ => by
    intro l o h
    simp [St.ofList, St.none] at h
  | l :: ls, [], h => by simp at h
  | l :: ls, o :: os, h => by
    simp only [List.map_cons, List.cons.injEq] at h
    simp only [St.ofList]
    exact St.set_le (ofList_le ls os h.2) h.1
theorem gs_pure {pv : PV} {k : MV → St → Prop} (h : mpure σ k pv) : gs U σ (gpure pv) fun v _ σ' => k v σ' := by
  cases pv with
  | none => exact h.elim
  | some x =>
    obtain ⟨Cd, v⟩ := x
    refine ⟨[], ⟨Cd, none, none, none, fun _ u => u = v⟩, rfl, rfl, h.1, fun _ => ⟨v, rfl⟩, fun u U' σ' ho => ?_⟩
    obtain ⟨rfl, -, rfl⟩ := ho
    rw [app_id ⟨rfl, rfl⟩]
    exact h.2
theorem pure_gs {pv : PV} {k : MV → (Nat → Prop) → St → Prop} (h : gs U σ (gpure pv) k) : mpure σ (fun v σ' => ∃ U', (∀ l, U' l → U l ∨ σ' l ≠ none) ∧ k v U' σ') pv := by
  obtain ⟨os, e, h1, h2, h3, h4, h5⟩ := h
  cases pv with
  | none => simp [gpure] at h2
  | some x =>
    obtain ⟨Cd, v⟩ := x
    simp only [gpure, Option.map_some, Option.some.injEq] at h2
    subst h2
    refine ⟨h3, U, fun l h => .inl h, h5 v U σ ⟨rfl, rfl, ?_⟩⟩
    rw [app_id ⟨rfl, rfl⟩]
theorem gs_alloc {Cd : Prop} {o : MObj} {v : Nat → MV} {k : MV → St → Prop} (hd : Dom U σ) (h : Cd ∧ ∀ l, σ l = none → k (v l) (σ.set l o)) : gs U σ (galloc Cd o v) fun v _ σ' => k v σ' := by
  refine ⟨[], ⟨Cd, none, none, some o, fun l u => u = v l⟩, rfl, rfl, h.1, fun l => ⟨v l, rfl⟩, fun u U' σ' ho => ?_⟩
  obtain ⟨l, hl, rfl, -, rfl⟩ := ho
  rw [app_id ⟨rfl, rfl⟩]
  exact h.2 l (by
    cases hs : σ l with
    | none => rfl
    | some x => exact absurd (hd l (by simp [hs])) hl)
/-- What is told of a place that was taken newly. -/
def Newly (U : Nat → Prop) (σ : St) (k : MV → (Nat → Prop) → St → Prop) (v : MV) (σ' : St) : Prop :=
  (∀ l, σ' l ≠ none → σ l = none → ¬ U l) → ∃ U', (∀ l, U' l → U l ∨ σ' l ≠ none) ∧ k v U' σ'
theorem alloc_gs {Cd : Prop} {o : MObj} {v : Nat → MV} {k : MV → (Nat → Prop) → St → Prop} (h : gs U σ (galloc Cd o v) k) : Cd ∧ ∀ l, σ l = none → Newly U σ k (v l) (σ.set l o) := by
  obtain ⟨os, e, h1, h2, h3, h4, h5⟩ := h
  simp only [galloc, Option.some.injEq] at h2
  subst h2
  refine ⟨h3, fun l hl hn => ⟨fun x => x = l ∨ U x, fun x hx => hx.elim (fun e => .inr (by rw [e, set_hit]; simp)) .inl, h5 _ _ _ ⟨l, hn l (by rw [set_hit]; simp) hl, rfl, rfl, ?_⟩⟩⟩
  rw [app_id ⟨rfl, rfl⟩]
theorem mpure_mono {pv : PV} {k k' : MV → St → Prop} (h : mpure σ k pv) (hk : ∀ v σ', k v σ' → k' v σ') : mpure σ k' pv := by
  cases pv with
  | none => exact h.elim
  | some x => exact ⟨h.1, hk _ _ h.2⟩
theorem msrc_stOf {e : Nat} {x : MV} {os : List MObj} (h : (srcLoc x).map σ = os.map some) : msrc (stOf os) e x = msrc σ e x := by
  cases x <;> try rfl
  rename_i e' l lo n
  cases os with
  | nil => simp [srcLoc] at h
  | cons o r =>
    simp only [srcLoc, List.map_cons, List.map_nil, List.cons.injEq] at h
    simp only [msrc, stOf, List.head?_cons, h.1]
theorem src_ex {e : Nat} {x : MV} {ys : List (List MV)} (h : msrc σ e x = some ys) : ∃ os : List MObj, (srcLoc x).map σ = os.map some := by
  cases x <;> try exact ⟨[], rfl⟩
  rename_i e' l lo n
  simp only [msrc] at h
  split at h
  · split at h
    · rename_i t e2 xs hs; exact ⟨[.row t e2 xs], by simp [srcLoc, hs]⟩
    · cases h
  · cases h
theorem gs_load {t : TypeId} {x : MV} {k : MV → St → Prop} (h : mload P t x σ k) : gs U σ (gload P t x) fun v _ σ' => k v σ' := by
  unfold mload at h
  unfold gload
  split at h
  · rename_i l i o
    split at h
    · rename_i tt e xs hs
      refine ⟨[.row tt e xs], _, by simp [hs], rfl, h.1, fun _ => ⟨_, rfl⟩, fun v U' σ' ho => ?_⟩
      obtain ⟨rfl, -, rfl⟩ := ho
      rw [app_id ⟨rfl, rfl⟩]; exact h.2
    · exact h.elim
  · exact gs_pure (σ := σ) (pv := some (_, _)) h
  · exact h.elim
theorem load_gs {t : TypeId} {x : MV} {k : MV → (Nat → Prop) → St → Prop} (h : gs U σ (gload P t x) k) : mload P t x σ (Newly U σ k) := by
  unfold gload at h
  unfold mload
  split at h
  · rename_i l i o
    obtain ⟨os, e, h1, h2, h3, h4, h5⟩ := h
    simp only at h1 h2
    split at h2
    · rename_i tt ee xs
      cases h2
      simp only [List.map_cons, List.map_nil, List.cons.injEq, and_true] at h1
      simp only [h1]
      refine ⟨h3, fun _ => ⟨U, fun _ h => .inl h, h5 _ _ _ ⟨rfl, rfl, ?_⟩⟩⟩
      rw [app_id ⟨rfl, rfl⟩]
    · cases h2
  · obtain ⟨h1, U', h2, h3⟩ := pure_gs (σ := σ) h
    exact ⟨h1, fun _ => ⟨U', h2, h3⟩⟩
  · obtain ⟨os, e, h1, h2, _⟩ := h
    simp [gfail] at h2
theorem app_upd {Cd : Prop} {l : Nat} {o : MObj} {n : Option MObj} {v : Nat → MV → Prop} : (Eff.app ⟨Cd, none, some (l, o), n, v⟩ σ) = σ.set l o := by
  funext k
  simp only [Eff.app, St.set, Option.map_some, Option.some.injEq, reduceCtorEq, if_false]
  by_cases hk : k = l
  · simp [hk]
  · rw [if_neg (Ne.symm hk), if_neg hk]
theorem gs_store {t : TypeId} {x y : MV} {k : MV → St → Prop} (h : mstore P t x y σ k) : gs U σ (gstore P t x y) fun v _ σ' => k v σ' := by
  unfold mstore at h
  unfold gstore
  split at h
  · rename_i l i o
    split at h
    · rename_i tt e xs hs
      refine ⟨[.row tt e xs], _, by simp [hs], rfl, h.1, fun _ => ⟨_, rfl⟩, fun v U' σ' ho => ?_⟩
      obtain ⟨rfl, -, rfl⟩ := ho
      rw [app_upd]; exact h.2
    · exact h.elim
  · exact h.elim
theorem store_gs {t : TypeId} {x y : MV} {k : MV → (Nat → Prop) → St → Prop} (h : gs U σ (gstore P t x y) k) : mstore P t x y σ (Newly U σ k) := by
  unfold gstore at h
  unfold mstore
  split at h
  · rename_i l i o
    obtain ⟨os, e, h1, h2, h3, h4, h5⟩ := h
    simp only at h1 h2
    split at h2
    · rename_i tt ee xs
      cases h2
      simp only [List.map_cons, List.map_nil, List.cons.injEq, and_true] at h1
      simp only [h1]
      refine ⟨h3, fun _ => ⟨U, fun _ h => .inl h, h5 _ _ _ ⟨rfl, rfl, ?_⟩⟩⟩
      rw [app_upd]
    · cases h2
  · obtain ⟨os, e, h1, h2, _⟩ := h
    simp [gfail] at h2
theorem app_kill {Cd : Prop} {l : Nat} {n : Option MObj} {v : Nat → MV → Prop} : (Eff.app ⟨Cd, some l, none, n, v⟩ σ) = σ.del l := by
  funext k
  simp only [Eff.app, St.del, Option.map_none, reduceCtorEq, if_false, Option.some.injEq]
  by_cases hk : k = l
  · simp [hk]
  · rw [if_neg (Ne.symm hk), if_neg hk]
theorem fresh_of (hd : Dom U σ) {l : Nat} (hl : ¬ U l) : σ l = none := by
  cases hs : σ l with
  | none => rfl
  | some x => exact absurd (hd l (by simp [hs])) hl
theorem gs_append {t xt : TypeId} {s x : MV} {k : MV → St → Prop} (hd : Dom U σ) (h : mappend P t xt s x σ k) : gs U σ (gappend P t xt s x) fun v _ σ' => k v σ' := by
  unfold mappend at h
  unfold gappend
  split at h
  · rename_i el hk
    simp only [hk]
    split at h
    · rename_i ys hy
      obtain ⟨os, hos⟩ := src_ex hy
      have hsrc := msrc_stOf (e := (td P el).size) hos
      rw [hy] at hsrc
      split at h
      · refine ⟨os, ⟨(td P xt).k.isSrc = true ∧ (td P el).zok = true ∧ Fits ys.length (td P el).bytes, none, none, some (.row el (td P el).size ys), fun l u => u = .vec (td P el).size l 0 ys.length⟩, hos, by simp only [hsrc], h.1, fun l => ⟨_, rfl⟩, fun u U' σ' ho => ?_⟩
        obtain ⟨l, hl, rfl, -, rfl⟩ := ho
        rw [app_id ⟨rfl, rfl⟩]
        exact h.2 l (fresh_of hd hl)
      · rename_i e xs
        refine ⟨os, ⟨(td P xt).k.isSrc = true ∧ (td P el).zok = true ∧ e = (td P el).size ∧ (xs = [] ∨ 0 < ys.length) ∧ Fits (xs.length + ys.length) (td P el).bytes, none, none, some (.row el (td P el).size (xs ++ ys)), fun l u => u = .vec (td P el).size l 0 (xs.length + ys.length)⟩, hos, by simp only [hsrc], h.1, fun l => ⟨_, rfl⟩, fun u U' σ' ho => ?_⟩
        obtain ⟨l, hl, rfl, -, rfl⟩ := ho
        rw [app_id ⟨rfl, rfl⟩]
        exact h.2 l (fresh_of hd hl)
      · rename_i e l lo n
        split at h
        · rename_i tt e' xs hs
          refine ⟨.row tt e' xs :: os, ⟨(td P xt).k.isSrc = true ∧ (td P el).zok = true ∧ e = (td P el).size ∧ e' = (td P el).size ∧ tt = el ∧ lo + n ≤ xs.length ∧ Fits (n + ys.length) (td P el).bytes, some l, none, some (.row el (td P el).size (appRow xs lo n ys)), fun l' u => u = .vec (td P el).size l' 0 (n + ys.length)⟩, by simp [hs, hos], by simp only [hsrc], h.1, fun l => ⟨_, rfl⟩, fun u U' σ' ho => ?_⟩
          obtain ⟨l', hl, rfl, -, rfl⟩ := ho
          rw [app_kill]
          exact h.2 l' (fresh_of hd hl)
        · exact h.elim
      · exact h.elim
    · exact h.elim
  · exact h.elim
theorem append_gs {t xt : TypeId} {s x : MV} {k : MV → (Nat → Prop) → St → Prop} (h : gs U σ (gappend P t xt s x) k) : mappend P t xt s x σ (Newly U σ k) := by
  unfold gappend at h
  unfold mappend
  split at h
  · rename_i el hk
    split at h
    · obtain ⟨os, e, h1, h2, h3, h4, h5⟩ := h
      simp only at h1 h2
      split at h2
      · rename_i ys hy
        cases h2
        rw [msrc_stOf h1] at hy
        simp only [hk, hy]
        refine ⟨h3, fun l hl hn => ⟨fun x => x = l ∨ U x, fun x hx => hx.elim (fun e => .inr (by rw [e, set_hit]; simp)) .inl, h5 _ _ _ ⟨l, hn l (by rw [set_hit]; simp) hl, rfl, rfl, ?_⟩⟩⟩
        rw [app_id ⟨rfl, rfl⟩]
      · cases h2
    · obtain ⟨os, e, h1, h2, h3, h4, h5⟩ := h
      simp only at h1 h2
      split at h2
      · rename_i ys hy
        cases h2
        rw [msrc_stOf h1] at hy
        simp only [hk, hy]
        refine ⟨h3, fun l hl hn => ⟨fun x => x = l ∨ U x, fun x hx => hx.elim (fun e => .inr (by rw [e, set_hit]; simp)) .inl, h5 _ _ _ ⟨l, hn l (by rw [set_hit]; simp) hl, rfl, rfl, ?_⟩⟩⟩
        rw [app_id ⟨rfl, rfl⟩]
      · cases h2
    · obtain ⟨os, e, h1, h2, h3, h4, h5⟩ := h
      simp only at h1 h2
      split at h2
      · rename_i tt e' xs os'
        simp only [List.map_cons, List.cons.injEq] at h1
        split at h2
        · rename_i ys hy
          cases h2
          rw [msrc_stOf h1.2] at hy
          simp only [hk, hy, h1.1]
          refine ⟨h3, fun l hl hn => ⟨fun x => x = l ∨ U x, fun x hx => hx.elim (fun e => .inr (by rw [e, set_hit]; simp)) .inl, h5 _ _ _ ⟨l, hn l (by rw [set_hit]; simp) hl, rfl, rfl, ?_⟩⟩⟩
          rw [app_kill]
        · cases h2
      · cases h2
    · obtain ⟨os, e, h1, h2, _⟩ := h
      simp [gfail] at h2
  · obtain ⟨os, e, h1, h2, _⟩ := h
    simp [gfail] at h2
theorem no_fail {k : MV → (Nat → Prop) → St → Prop} (h : gs U σ gfail k) : False := by
  obtain ⟨os, e, h1, h2, _⟩ := h
  simp [gfail] at h2
theorem gs_src {D : Prop} {x : MV} {k : MV → St → Prop} (h : match msrc σ 1 x with | some ys => (D ∧ ys.all isByte = true) ∧ k (.str (bytesOf ys)) σ | none => False) :
    gs U σ (srcLoc x, fun os => match msrc (stOf os) 1 x with
    | some ys => some ⟨D ∧ ys.all isByte = true, none, none, none, fun _ u => u = .str (bytesOf ys)⟩
    | none => none) fun v _ σ' => k v σ' := by
  split at h
  · rename_i ys hy
    obtain ⟨os, hos⟩ := src_ex hy
    have hsrc := msrc_stOf (e := 1) hos
    rw [hy] at hsrc
    refine ⟨os, ⟨D ∧ ys.all isByte = true, none, none, none, fun _ u => u = .str (bytesOf ys)⟩, hos, by simp only [hsrc], h.1, fun _ => ⟨_, rfl⟩, fun u U' σ' ho => ?_⟩
    obtain ⟨rfl, -, rfl⟩ := ho
    rw [app_id ⟨rfl, rfl⟩]; exact h.2
  · exact h.elim
theorem src_gs {D : Prop} {x : MV} {k : MV → (Nat → Prop) → St → Prop} (h : gs U σ (srcLoc x, fun os => match msrc (stOf os) 1 x with
    | some ys => some ⟨D ∧ ys.all isByte = true, none, none, none, fun _ u => u = .str (bytesOf ys)⟩
    | none => none) k) : match msrc σ 1 x with | some ys => (D ∧ ys.all isByte = true) ∧ Newly U σ k (.str (bytesOf ys)) σ | none => False := by
  obtain ⟨os, e, h1, h2, h3, h4, h5⟩ := h
  simp only at h1 h2
  split at h2
  · rename_i ys hy
    cases h2
    rw [msrc_stOf h1] at hy
    simp only [hy]
    refine ⟨h3, fun _ => ⟨U, fun _ h => .inl h, h5 _ _ _ ⟨rfl, rfl, ?_⟩⟩⟩
    rw [app_id ⟨rfl, rfl⟩]
  · cases h2
theorem gs_convert {s d : TypeId} {x : MV} {k : MV → St → Prop} (hd : Dom U σ) (h : mconvert P s d x σ k) : gs U σ (gconvert P s d x) fun v _ σ' => k v σ' := by
  unfold mconvert at h
  unfold gconvert
  cases hs : (td P s).k <;> cases hk : (td P d).k <;> simp only [hs, hk] at h ⊢ <;> first
    | exact gs_pure h
    | (cases x <;> first | exact gs_pure h | exact gs_alloc hd h | exact h.elim | exact gs_src h)
theorem convert_gs {s d : TypeId} {x : MV} {k : MV → (Nat → Prop) → St → Prop} (h : gs U σ (gconvert P s d x) k) : mconvert P s d x σ (Newly U σ k) := by
  unfold gconvert at h
  unfold mconvert
  have hp : ∀ {pv : PV}, gs U σ (gpure pv) k → mpure σ (Newly U σ k) pv := fun h => mpure_mono (pure_gs h) fun v σ' hh _ => hh
  cases hs : (td P s).k <;> cases hk : (td P d).k <;> simp only [hs, hk] at h ⊢ <;> first
    | exact hp h
    | (cases x <;> first | exact hp h | exact alloc_gs h | exact (no_fail h).elim | exact src_gs h)
theorem gs_known {g : FuncId} {ms : List MV} {k : MV → St → Prop} {rd : List Nat} {q : MV → Prop} {os : List MObj} (h1 : C g ms = some ⟨rd, q, none⟩) (h2 : rd.map σ = os.map some) (h3 : MCalls P g ms (St.ofList rd os) (fun v σ' => q v ∧ σ' = St.ofList rd os)) (h4 : ∃ v, q v) (h5 : ∀ v, q v → k v σ) : gs U σ (gcall P C g ms) fun v _ σ' => k v σ' := by
  unfold gcall
  rw [h1]
  refine ⟨os, ⟨MCalls P g ms (St.ofList rd os) (fun v σ' => q v ∧ σ' = St.ofList rd os), none, none, none, fun _ u => q u⟩, h2, rfl, h3, fun _ => h4, fun u U' σ' ho => ?_⟩
  obtain ⟨hq, -, rfl⟩ := ho
  rw [app_id ⟨rfl, rfl⟩]
  exact h5 u hq
theorem gs_call {g : FuncId} {ms : List MV} {k : MV → St → Prop} (hd : Dom U σ) (h : mcallC P C g ms σ k) : gs U σ (gcall P C.pl g ms) fun v _ σ' => k v σ' := by
  rcases h with ⟨rd, q, os, h1, h2, h3, h4, h5⟩ | ⟨rd, q, o, u, h1, h2, h3⟩
  · exact gs_known (by unfold Know.pl; rw [h1]; rfl) h2 h3 h4 h5
  · have hC : C.pl g ms = some ⟨[], q, some (o, u)⟩ := by unfold Know.pl; rw [h1]; rfl
    unfold gcall
    rw [hC]
    exact gs_alloc hd ⟨h2, h3⟩
theorem call_gs {g : FuncId} {ms : List MV} {k : MV → (Nat → Prop) → St → Prop} (h : gs U σ (gcall P C g ms) k) : MCalls P g ms σ (Newly U σ k) := by
  unfold gcall at h
  split at h
  · rename_i rd q hC
    obtain ⟨os, e, h1, h2, h3, h4, h5⟩ := h
    simp only [Option.some.injEq] at h2
    subst h2
    simp only at h1 h3
    have hle := ofList_le rd os h1
    refine (h3.frame hle).mono ?_
    rintro v σ1 ⟨σ', ⟨hq, rfl⟩, rfl, -⟩
    rw [over_minus hle]
    refine fun _ => ⟨U, fun _ h => .inl h, h5 _ _ _ ⟨hq, rfl, ?_⟩⟩
    rw [app_id ⟨rfl, rfl⟩]
  · rename_i rd q o u hC
    obtain ⟨h1, h2⟩ := alloc_gs h
    refine (h1.frame (St.none_le σ)).mono ?_
    rintro v σ1 ⟨σ', ⟨l, rfl, rfl⟩, rfl, hf⟩
    rw [minus_none, over_set, over_none]
    refine h2 l ?_
    rcases hf l o (set_hit _ _ _) with h | ⟨o', h⟩
    · exact h
    · simp [St.none] at h
  · rename_i l q o' u hC
    obtain ⟨os, e, h1, h2, h3, h4, h5⟩ := h
    simp only at h1 h2
    split at h2
    · rename_i o
      cases h2
      have hl : σ l = some o := by simpa using h1
      have hle : (St.none.set l o).le σ := St.set_le (St.none_le _) hl
      refine (MCalls.frame h3 hle).mono ?_
      rintro v σ1 ⟨σ', ⟨hv, rfl⟩, rfl, -⟩
      have e : (St.none.set l o').over (σ.minus (St.none.set l o)) = σ.set l o' := by
        funext j
        by_cases h : j = l
        · subst h; simp [St.over, St.set]
        · simp [St.over, St.set, St.minus, h, St.none]
      rw [e]
      exact fun _ => ⟨U, fun _ h => .inl h, h5 _ _ _ ⟨hv, rfl, app_upd.symm⟩⟩
    · cases h2
  · exact (no_fail h).elim
theorem gs_opX {MC : FuncId → List MV → St → (MV → St → Prop) → Prop} (hMC : ∀ g ms k, MC g ms σ k → gs U σ (gcall P C g ms) fun v _ σ' => k v σ') {op : Op} {k : MV → St → Prop} (hd : Dom U σ) (h : mopX P MC f σ k op) : gs U σ (gop P C f op) fun v _ σ' => k v σ' := by
  cases op
  case alloc t => exact gs_alloc hd h
  case box t x => exact gs_alloc hd h
  case load t x => exact gs_load h
  case store t x y => exact gs_store h
  case convert s d x => exact gs_convert hd h
  case buildSlice t n p =>
    have h : mbuildSlice P f t n p σ k := h
    simp only [gop]
    unfold mbuildSlice at h
    unfold gbuildSlice
    split at h
    · rename_i el hk; simp only [hk]; exact gs_alloc hd h
    · exact h.elim
  case makeSlice t x y =>
    have h : mmakeSlice P t (mval f x) (mval f y) σ k := h
    simp only [gop]
    unfold mmakeSlice at h
    unfold gmakeSlice
    split at h
    · rename_i el n c hk hx hy; simp only [hk, hx, hy]; exact gs_alloc hd h
    · exact h.elim
  case defer c => exact h.elim
  case call c =>
    obtain ⟨callee, args, ts⟩ := c
    cases callee with
    | value x =>
      simp only [mopX] at h
      simp only [gop]
      split at h
      · rename_i g ms ns hx; first | (simp only [hx]; exact hMC _ _ _ h) | exact hMC _ _ _ h
      · exact h.elim
    | invoke r m => exact h.elim
    | builtin b =>
      by_cases hb : b = .append
      · subst hb
        have h : mbcall P f .append args.toList ts.toList σ k := h
        simp only [gop]
        simp only [mbcall] at h
        split at h
        · rename_i s x t xt ha ht; simp only [ha, ht]; exact gs_append hd h
        · exact h.elim
      · have h : mbcall P f b args.toList ts.toList σ k := h
        have e1 : gop P C f (.call ⟨.builtin b, args, ts⟩) = if ts.toList.length = args.toList.length then gpure (mbuiltin P b ts.toList.toArray (args.toList.map (mval f))) else gfail := by
          cases b <;> first | rfl | exact absurd rfl hb
        have e2 : mbcall P f b args.toList ts.toList σ k = (ts.toList.length = args.toList.length ∧ mpure σ k (mbuiltin P b ts.toList.toArray (args.toList.map (mval f)))) := by
          cases b <;> first | rfl | exact absurd rfl hb
        rw [e2] at h
        rw [e1, if_pos h.1]
        exact gs_pure h.2
  all_goals exact gs_pure h
theorem op_gs {op : Op} {k : MV → (Nat → Prop) → St → Prop} (h : gs U σ (gop P C f op) k) : mop P f σ (Newly U σ k) op := by
  have hp : ∀ {pv : PV}, gs U σ (gpure pv) k → mpure σ (Newly U σ k) pv := fun h => mpure_mono (pure_gs h) fun v σ' hh _ => hh
  cases op
  case alloc t => exact alloc_gs h
  case box t x => exact alloc_gs h
  case load t x => exact load_gs h
  case store t x y => exact store_gs h
  case convert s d x => exact convert_gs h
  case buildSlice t n p =>
    simp only [gop] at h
    show mbuildSlice P f t n p σ _
    unfold mbuildSlice
    unfold gbuildSlice at h
    split at h
    · rename_i el hk; simp only [hk]; exact alloc_gs h
    · exact (no_fail h).elim
  case makeSlice t x y =>
    simp only [gop] at h
    show mmakeSlice P t (mval f x) (mval f y) σ _
    unfold mmakeSlice
    unfold gmakeSlice at h
    split at h
    · rename_i el n c hk hx hy; simp only [hk, hx, hy]; exact alloc_gs h
    · exact (no_fail h).elim
  case defer c => exact (no_fail h).elim
  case call c =>
    obtain ⟨callee, args, ts⟩ := c
    cases callee with
    | value x =>
      simp only [gop] at h
      show mcall P f ⟨.value x, args, ts⟩ σ _
      simp only [mcall]
      split at h
      · rename_i g ms ns hx; simp only [hx]; exact call_gs h
      · exact (no_fail h).elim
    | invoke r m => exact (no_fail h).elim
    | builtin b =>
      show mbcall P f b args.toList ts.toList σ _
      by_cases hb : b = .append
      · subst hb
        simp only [gop] at h
        simp only [mbcall]
        split at h
        · rename_i s x t xt ha ht; simp only [ha, ht]; exact append_gs h
        · exact (no_fail h).elim
      · have e1 : gop P C f (.call ⟨.builtin b, args, ts⟩) = if ts.toList.length = args.toList.length then gpure (mbuiltin P b ts.toList.toArray (args.toList.map (mval f))) else gfail := by
          cases b <;> first | rfl | exact absurd rfl hb
        have e2 : mbcall P f b args.toList ts.toList σ (Newly U σ k) = (ts.toList.length = args.toList.length ∧ mpure σ (Newly U σ k) (mbuiltin P b ts.toList.toArray (args.toList.map (mval f)))) := by
          cases b <;> first | rfl | exact absurd rfl hb
        rw [e1] at h
        rw [e2]
        split at h
        · rename_i hl; exact ⟨hl, hp h⟩
        · exact (no_fail h).elim
  all_goals exact hp h
end
end Go.Proofs.YtfbodefnblpflaaGreatDoor
end

section
/- Regions whose order is drawn, with calls that answer a new place (4): one order for all. -/
set_option linter.unusedVariables false
set_option linter.unusedSimpArgs false
namespace Go.Proofs.YtfbodefnblpflaaGreatDoor
section
variable {P : Program} {C : Know} {ops : Array Oper}
/-! ### Frames that hold the same -/
def FEq (f f' : FR) : Prop := f.n = f'.n ∧ f.d = f'.d ∧ ∀ t, f.get t = f'.get t
theorem FEq.refl (f : FR) : FEq f f := ⟨rfl, rfl, fun _ => rfl⟩
theorem FEq.symm {f f' : FR} (h : FEq f f') : FEq f' f := ⟨h.1.symm, h.2.1.symm, fun t => (h.2.2 t).symm⟩
theorem FEq.trans {f f' f'' : FR} (h : FEq f f') (k : FEq f' f'') : FEq f f'' := ⟨h.1.trans k.1, h.2.1.trans k.2.1, fun t => (h.2.2 t).trans (k.2.2 t)⟩
theorem get_put (f : FR) (dst : Option Tmp) (v : MV) (t : Nat) : (mput f dst v).get t = if dst = some t ∧ t < f.n then v else f.get t := by
  cases dst with
  | none => simp [mput]
  | some d =>
    simp only [mput]
    split
    · rename_i hd
      simp only [FR.get, lget]
      by_cases ht : t = d
      · subst ht; simp [hd]
      · rw [if_neg ht, if_neg (by simp; intro e; exact absurd e.symm ht)]
    · rename_i hd
      rw [if_neg]
      rintro ⟨e, h⟩
      cases e
      exact hd h
theorem put_n (f : FR) (dst : Option Tmp) (v : MV) : (mput f dst v).n = f.n := by
  unfold mput
  split <;> (try split) <;> rfl
theorem FEq.put {f f' : FR} (h : FEq f f') (dst : Option Tmp) (v : MV) : FEq (mput f dst v) (mput f' dst v) :=
  ⟨by rw [put_n, put_n]; exact h.1, by rw [mput_d, mput_d]; exact h.2.1, fun t => by rw [get_put, get_put, h.1, h.2.2 t]⟩
theorem FEq.comm (f : FR) {x y : Option Tmp} (v u : MV) (h : ∀ d, x = some d → y ≠ some d) : FEq (mput (mput f x v) y u) (mput (mput f y u) x v) :=
  ⟨by simp only [put_n], by simp only [mput_d], fun t => by
    simp only [get_put, put_n]
    by_cases hx : x = some t
    · have := h t hx
      simp [hx, this]
    · simp [hx]⟩
theorem FEq.mval {f f' : FR} (h : FEq f f') : mval f = mval f' := by
  funext x
  cases x with
  | tmp t => exact h.2.2 t
  | _ => rfl
theorem mval_put {f : FR} {dst : Option Tmp} {v : MV} {x : Operand} (h : ∀ d, dst = some d → x ≠ .tmp d) : mval (mput f dst v) x = mval f x := by
  cases x with
  | tmp t =>
    show (mput f dst v).get t = f.get t
    rw [get_put, if_neg]
    rintro ⟨e, _⟩
    exact h t e rfl
  | _ => rfl
theorem buildFrom_congr {f f' : FR} {place : Nat → Option (Nat × TypeId)} : ∀ (parts : List (Nat × Operand)) (cs : List MV), (∀ p, p ∈ parts → mval f p.2 = mval f' p.2) → buildFrom P f place parts cs = buildFrom P f' place parts cs := by
  intro parts
  induction parts with
  | nil => intro cs _; rfl
  | cons p r ih =>
    intro cs h
    obtain ⟨i, x⟩ := p
    simp only [buildFrom]
    have hx : mval f x = mval f' x := h (i, x) (by simp)
    rw [hx]
    cases place i with
    | none => rfl
    | some q => simp only []; rw [ih _ (fun p hp => h p (by simp [hp]))]
theorem mbuild_congr {f f' : FR} {t : TypeId} {parts : Array (Nat × Operand)} (h : ∀ p, p ∈ parts.toList → mval f p.2 = mval f' p.2) : mbuild P f t parts = mbuild P f' t parts := by
  unfold mbuild
  cases (td P t).k <;> simp only [] <;> rw [buildFrom_congr _ _ h]
theorem map_congr' {f f' : FR} {xs : List Operand} (h : ∀ x, x ∈ xs → mval f x = mval f' x) : xs.map (mval f) = xs.map (mval f') := List.map_congr_left h
theorem gop_congr {f f' : FR} {op : Op} (h : ∀ x, x ∈ op.operands → mval f x = mval f' x) : gop P C f op = gop P C f' op := by
  cases op <;> simp only [Op.operands] at h
  case buildSlice t n ps =>
    simp only [gop, gbuildSlice]
    have hp : ∀ p, p ∈ ps.toList → mval f p.2 = mval f' p.2 := fun p hp => h p.2 (by simpa using ⟨p.1, by simpa using hp⟩)
    have e1 : (ps.toList.all fun p => (mval f p.2).cells.all MV.isCell && (mval f p.2).cells.length == 0) = (ps.toList.all fun p => (mval f' p.2).cells.all MV.isCell && (mval f' p.2).cells.length == 0) := by
      rw [Bool.eq_iff_iff]; simp only [List.all_eq_true]
      exact ⟨fun q x hx => by rw [← hp x hx]; exact q x hx, fun q x hx => by rw [hp x hx]; exact q x hx⟩
    have e2 : ∀ z, (ps.toList.all fun p => (mval f p.2).cells.all MV.isCell && (mval f p.2).cells.length == z) = (ps.toList.all fun p => (mval f' p.2).cells.all MV.isCell && (mval f' p.2).cells.length == z) := fun z => by
      rw [Bool.eq_iff_iff]; simp only [List.all_eq_true]
      exact ⟨fun q x hx => by rw [← hp x hx]; exact q x hx, fun q x hx => by rw [hp x hx]; exact q x hx⟩
    have e3 : (ps.toList.map fun p => (mval f p.2).cells) = (ps.toList.map fun p => (mval f' p.2).cells) := List.map_congr_left fun p hq => by rw [hp p hq]
    simp only [e2, e3]
  case build t ps =>
    simp only [gop, qop]
    rw [mbuild_congr fun p hp => h p.2 (by simpa using ⟨p.1, by simpa using hp⟩)]
  case makeFunc fn first captured =>
    simp only [gop, qop]
    rw [map_congr' (xs := first.toList) fun x hx => h x (by simp at hx ⊢; exact .inl hx), map_congr' (xs := captured.toList) fun x hx => h x (by simp at hx ⊢; exact .inr hx)]
  case indexAddr t x i =>
    have h1 := h x (by simp)
    have h2 := h i (by simp)
    simp only [gop]
    cases x <;> simp only [qop] <;> simp [h1, h2]
  case slice t x lo hi mx =>
    simp only [gop, qop]
    rw [h x (by simp)]
    cases lo <;> cases hi <;> cases mx <;> simp_all
  case call c =>
    obtain ⟨callee, args, ts⟩ := c
    have ha : args.toList.map (mval f) = args.toList.map (mval f') := map_congr' fun x hx => h x (by simp [Call.operands]; exact .inr (by simpa using hx))
    cases callee with
    | value x => simp only [gop]; rw [h x (by simp [Call.operands]), ha]
    | invoke r m => rfl
    | builtin b =>
      by_cases hb : b = .append
      · subst hb
        simp only [gop]
        have hm : ∀ y, y ∈ args.toList → mval f y = mval f' y := fun y hy => h y (by simp [Call.operands]; simpa using hy)
        split
        · rename_i s x t xt hl _
          rw [hm s (by simp [hl]), hm x (by simp [hl])]
        · rfl
      · have e1 : ∀ f, gop P C f (.call ⟨.builtin b, args, ts⟩) = if ts.toList.length = args.toList.length then gpure (mbuiltin P b ts.toList.toArray (args.toList.map (mval f))) else gfail := fun f => by
          cases b <;> first | rfl | exact absurd rfl hb
        rw [e1, e1, ha]
  all_goals first
    | rfl
    | (simp_all [gop, qop]; done)
/-- An operation and its guard. -/
def gfo (P : Program) (C : Know) (ops : Array Oper) (f : FR) (o : Oper) : GF :=
  match o.guard with
  | none => gop P C f o.op
  | some (j, want) => match (ops[j]?).bind (·.dst) with
    | some t => match f.get t with
      | .bool b => if b = want then gop P C f o.op else gpure (some (True, .tup []))
      | .tup [] => gpure (some (True, .tup []))
      | _ => gfail
    | none => gfail
theorem wf_gfo {u : Bool} (hu : u = true ∨ Pl C) (f : FR) (o : Oper) : Wf (gfo P C ops f o) ∧ (noUpd u o.op = true → NoUpd (gfo P C ops f o)) ∧ (noW u o.op = true → NoW (gfo P C ops f o)) ∧ (rd0 o.op = true → (gfo P C ops f o).1 = []) := by
  have hf : Wf gfail ∧ (noUpd u o.op = true → NoUpd gfail) ∧ (noW u o.op = true → NoW gfail) ∧ (rd0 o.op = true → gfail.1 = []) := ⟨wf_fail.1, fun _ => wf_fail.2.2.1, fun _ => wf_fail.2.1, fun _ => rfl⟩
  unfold gfo
  split
  · exact wf_gop P C hu f o.op
  · split
    · split
      · split
        · exact wf_gop P C hu f o.op
        · exact ⟨(wf_pure _).1, fun _ => (wf_pure _).2.2.1, fun _ => (wf_pure _).2.1, fun _ => rfl⟩
      · exact ⟨(wf_pure _).1, fun _ => (wf_pure _).2.2.1, fun _ => (wf_pure _).2.1, fun _ => rfl⟩
      · exact hf
    · exact hf
theorem gfo_congr {f f' : FR} (h : FEq f f') (o : Oper) : gfo P C ops f o = gfo P C ops f' o := by
  unfold gfo
  rw [gop_congr (f := f) (f' := f') fun x _ => by rw [h.mval]]
  simp only [h.2.2]
theorem gfo_put {f : FR} {dst : Option Tmp} {v : MV} {o : Oper} (h : ∀ d, dst = some d → d ∉ o.looksAt ops) : gfo P C ops (mput f dst v) o = gfo P C ops f o := by
  have h1 : gop P C (mput f dst v) o.op = gop P C f o.op := gop_congr fun x hx => mval_put fun d hd e => h d hd (by
    subst e
    exact List.mem_append_left _ (List.mem_filterMap.2 ⟨.tmp d, by simpa using hx, rfl⟩))
  unfold gfo
  rw [h1]
  split
  · rfl
  · rename_i j want hg
    split
    · rename_i t ht
      have : (mput f dst v).get t = f.get t := by
        rw [get_put, if_neg]
        rintro ⟨e, -⟩
        exact h t e (by simp [Oper.looksAt, hg, ht])
      rw [this]
    · rfl
/-- Operations one by one, as forms. -/
def gl (P : Program) (C : Know) (ops : Array Oper) (K : FR → (Nat → Prop) → St → Prop) : List Oper → FR → (Nat → Prop) → St → Prop
  | [], f, U, σ => K f U σ
  | o :: r, f, U, σ => gs U σ (gfo P C ops f o) fun v U' σ' => gl P C ops K r (mput f o.dst v) U' σ'
def KOk (K : FR → (Nat → Prop) → St → Prop) : Prop := ∀ f f' U U' σ, FEq f f' → (∀ l, U l → U' l) → K f U σ → K f' U' σ
theorem gs_imp {U : Nat → Prop} {σ : St} {g : GF} {k k' : MV → (Nat → Prop) → St → Prop} (h : gs U σ g k) (hk : ∀ v U' σ', k v U' σ' → k' v U' σ') : gs U σ g k' := by
  obtain ⟨os, e, h1, h2, h3, h4, h5⟩ := h
  exact ⟨os, e, h1, h2, h3, h4, fun v U' σ' ho => hk v U' σ' (h5 v U' σ' ho)⟩
theorem gl_ok {K : FR → (Nat → Prop) → St → Prop} (hK : KOk K) : ∀ l, KOk (gl P C ops K l)
  | [] => hK
  | o :: r => fun f f' U U' σ hf hu h => by
    simp only [gl] at h ⊢
    rw [← gfo_congr hf]
    refine gs_anti (gs_imp h fun v U' σ' hh => gl_ok hK r _ (mput f' o.dst v) U' U' σ' (hf.put o.dst v) (fun _ h => h) hh) hu fun v V V' σ hv hh => gl_ok hK r _ _ V V' σ (.refl _) hv hh
/-- Two operations may change places (calls may turn a place: u). -/
def swapB (u : Bool) (ops : Array Oper) (x y : Oper) : Bool := x.apart ops y && ((rd0 y.op || noUpd u x.op) && (rd0 x.op || noW u y.op) && (noW u x.op || noW u y.op))
/-- What is told of a region: slots of pointers that it does not turn, each to a place of its own; slots that it turns, to pointers to such a place; the slot whose place calls may turn. -/
structure RX where
  Ds : List Nat
  Rs : List (Nat × Nat)
  dr : Option Nat
def DOk (X : RX) (loc : Nat → Nat) (f : FR) : Prop := (∀ t, t ∈ X.Ds → ∃ i o, f.get t = .ptr (loc t) i o) ∧ (∀ t t', t ∈ X.Ds → t' ∈ X.Ds → t ≠ t' → loc t ≠ loc t') ∧ ∀ p, p ∈ X.Rs → p.2 ∈ X.Ds ∧ ∀ l i o, f.get p.1 = .ptr l i o → l = loc p.2
/-- What calls read is that slot's place; where there is no such slot they turn nothing. -/
def CalOk (X : RX) (loc : Nat → Nat) (C : Know) : Prop := match X.dr with
  | none => Pl C
  | some d => d ∈ X.Ds ∧ ∀ g ms F, C g ms = some F → ∀ l, l ∈ F.rd → l = loc d
def rootD (X : RX) (t : Nat) : Option Nat := if X.Ds.contains t then some t else (X.Rs.find? fun p => p.1 == t).map (·.2)
def dsr (X : RX) : Op → Option Nat
  | .load _ (.tmp t) => rootD X t
  | .store _ (.tmp t) _ => rootD X t
  | .call ⟨.value _, _, _⟩ => X.dr
  | _ => none
def disjD (X : RX) (x y : Op) : Bool := match dsr X x, dsr X y with
  | some a, some b => a != b
  | _, _ => false
def swapD (X : RX) (ops : Array Oper) (x y : Oper) : Bool := swapB X.dr.isSome ops x y || (x.apart ops y && disjD X x.op y.op)
def derives (X : RX) (r : Nat) : Op → Bool
  | .fieldAddr _ (.tmp s) _ | .move (.tmp s) => rootD X s == some r
  | _ => false
def keepsD (X : RX) (o : Oper) : Bool := match o.dst with
  | some d => !X.Ds.contains d && X.Rs.all fun p => p.1 != d || derives X p.2 o.op
  | none => true
/-- A value that an operation may yield. -/
def GV (g : GF) (v : MV) : Prop := ∃ os e l, g.2 os = some e ∧ e.v l v
theorem gs_val {U : Nat → Prop} {σ : St} {g : GF} {k : MV → (Nat → Prop) → St → Prop} (h : gs U σ g k) : gs U σ g fun v U' σ' => GV g v ∧ k v U' σ' := by
  obtain ⟨os, e, h1, h2, h3, h4, h5⟩ := h
  refine ⟨os, e, h1, h2, h3, h4, fun v U' σ' ho => ⟨?_, h5 v U' σ' ho⟩⟩
  unfold Eff.out at ho
  split at ho
  · exact ⟨os, e, 0, h2, ho.1⟩
  · obtain ⟨l, -, hv, -⟩ := ho
    exact ⟨os, e, l, h2, hv⟩
theorem rootD_at {X : RX} {loc : Nat → Nat} {f : FR} (h : DOk X loc f) {t r : Nat} (hr : rootD X t = some r) : r ∈ X.Ds ∧ ∀ l i o, f.get t = .ptr l i o → l = loc r := by
  unfold rootD at hr
  split at hr
  · rename_i hm
    cases hr
    have hm : t ∈ X.Ds := by simpa using hm
    refine ⟨hm, fun l i o e => ?_⟩
    obtain ⟨i', o', e'⟩ := h.1 t hm
    rw [e] at e'
    cases e'
    rfl
  · obtain ⟨p, hp, rfl⟩ := Option.map_eq_some_iff.1 hr
    have h1 := List.find?_some hp
    have h2 := List.mem_of_find?_eq_some hp
    obtain ⟨h3, h4⟩ := h.2.2 p h2
    refine ⟨h3, fun l i o e => h4 l i o ?_⟩
    have : p.1 = t := by simpa using h1
    rw [this]; exact e
theorem gv_pure {pv : PV} {v : MV} (h : GV (gpure pv) v) : ∃ c, pv = some (c, v) := by
  obtain ⟨os, e, l, h1, h2⟩ := h
  simp only [gpure, Option.map_eq_some_iff] at h1
  obtain ⟨x, hx, rfl⟩ := h1
  exact ⟨x.1, by rw [hx]; congr 1; exact Prod.ext rfl h2.symm⟩
theorem derives_at {X : RX} {loc : Nat → Nat} {f : FR} (h : DOk X loc f) {r : Nat} {o : Oper} (hd : derives X r o.op = true) {v : MV} (hv : GV (gfo P C ops f o) v) {l i j : Nat} (e : v = .ptr l i j) : l = loc r := by
  subst e
  have key : GV (gop P C f o.op) (.ptr l i j) → l = loc r := by
    intro hv
    unfold derives at hd
    split at hd
    · rename_i ty s k hop
      rw [hop] at hv
      obtain ⟨c, hc⟩ := gv_pure hv
      have hr : rootD X s = some r := by simpa using hd
      simp only [qop, mfieldAddr, mval] at hc
      split at hc
      · split at hc
        · rename_i l' i' o' hs
          simp only [Option.some.injEq, Prod.mk.injEq, MV.ptr.injEq] at hc
          rw [← hc.2.1]
          exact (rootD_at h hr).2 _ _ _ (by assumption)
        · simp at hc
        · cases hc
      · cases hc
    · rename_i s hop
      rw [hop] at hv
      obtain ⟨c, hc⟩ := gv_pure hv
      have hr : rootD X s = some r := by simpa using hd
      simp only [qop, mval, Option.some.injEq, Prod.mk.injEq] at hc
      exact (rootD_at h hr).2 _ _ _ hc.2
    · cases hd
  unfold gfo at hv
  split at hv
  · exact key hv
  · split at hv
    · split at hv
      · split at hv
        · exact key hv
        · obtain ⟨c, hc⟩ := gv_pure hv; simp at hc
      · obtain ⟨c, hc⟩ := gv_pure hv; simp at hc
      · obtain ⟨os, e, l, h1, h2⟩ := hv; simp [gfail] at h1
    · obtain ⟨os, e, l, h1, h2⟩ := hv; simp [gfail] at h1
theorem DOk.put {X : RX} {loc : Nat → Nat} {f : FR} (h : DOk X loc f) {o : Oper} (hk : keepsD X o = true) {v : MV} (hv : GV (gfo P C ops f o) v) : DOk X loc (mput f o.dst v) := by
  refine ⟨fun t ht => ?_, h.2.1, fun p hp => ⟨(h.2.2 p hp).1, fun l i j e => ?_⟩⟩
  · rw [get_put, if_neg]
    · exact h.1 t ht
    · rintro ⟨e, -⟩
      simp only [keepsD, e, Bool.and_eq_true, Bool.not_eq_true', List.contains_iff_mem] at hk
      simp [ht] at hk
  · rw [get_put] at e
    split at e
    · rename_i hd
      simp only [keepsD, hd.1, Bool.and_eq_true, List.all_eq_true, Bool.or_eq_true, bne_iff_ne, ne_eq] at hk
      rcases hk.2 p hp with hn | hn
      · exact absurd rfl hn
      · exact derives_at h hn hv e
    · exact (h.2.2 p hp).2 l i j e
theorem dsr_reads {X : RX} {loc : Nat → Nat} {f : FR} (h : DOk X loc f) (hC : CalOk X loc C) {o : Oper} {r : Nat} (ho : dsr X o.op = some r) : r ∈ X.Ds ∧ ∀ l, l ∈ (gfo P C ops f o).1 → l = loc r := by
  have ld : ∀ {t : Nat}, rootD X t = some r → r ∈ X.Ds ∧ ∀ g : MV → GF, (∀ v, (∀ l i j, v ≠ .ptr l i j) → (g v).1 = []) → (∀ l i j, (g (.ptr l i j)).1 = [l]) → ∀ l, l ∈ (g (f.get t)).1 → l = loc r := by
    intro t ht
    obtain ⟨h1, h2⟩ := rootD_at h ht
    refine ⟨h1, fun g hg1 hg2 l hl => ?_⟩
    by_cases hp : ∃ l' i j, f.get t = .ptr l' i j
    · obtain ⟨l', i, j, e⟩ := hp
      rw [e, hg2] at hl
      rw [List.mem_singleton.1 hl]
      exact h2 _ _ _ e
    · rw [hg1 _ (fun l i j e => hp ⟨l, i, j, e⟩)] at hl
      cases hl
  have key : r ∈ X.Ds ∧ ∀ l, l ∈ (gop P C f o.op).1 → l = loc r := by
    unfold dsr at ho
    split at ho
    · rename_i ty u hop
      obtain ⟨h1, h2⟩ := ld ho
      refine ⟨h1, fun l hl => ?_⟩
      rw [hop] at hl
      exact h2 (gload P ty) (fun v hv => by unfold gload; split <;> first | rfl | exact absurd rfl (hv _ _ _)) (fun l i j => rfl) l hl
    · rename_i ty u y hop
      obtain ⟨h1, h2⟩ := ld ho
      refine ⟨h1, fun l hl => ?_⟩
      rw [hop] at hl
      exact h2 (fun v => gstore P ty v (mval f y)) (fun v hv => by unfold gstore; split <;> first | rfl | exact absurd rfl (hv _ _ _)) (fun l i j => rfl) l hl
    · rename_i x args ts hop
      unfold CalOk at hC
      rw [ho] at hC
      simp only at hC
      refine ⟨hC.1, fun l hl => ?_⟩
      rw [hop] at hl
      simp only [gop] at hl
      split at hl
      · unfold gcall at hl
        split at hl
        · rename_i hc; exact hC.2 _ _ _ hc l hl
        · cases hl
        · rename_i hc; exact hC.2 _ _ _ hc l hl
        · cases hl
      · cases hl
    · cases ho
  refine ⟨key.1, fun l hl => ?_⟩
  unfold gfo at hl
  split at hl
  · exact key.2 l hl
  · split at hl
    · split at hl
      · split at hl
        · exact key.2 l hl
        · simp [gpure] at hl
      · simp [gpure] at hl
      · simp [gfail] at hl
    · simp [gfail] at hl
theorem CalOk.u {X : RX} {loc : Nat → Nat} (h : CalOk X loc C) : X.dr.isSome = true ∨ Pl C := by
  unfold CalOk at h
  cases hd : X.dr with
  | none => rw [hd] at h; exact .inr h
  | some d => exact .inl rfl
theorem pull {K : FR → (Nat → Prop) → St → Prop} (hK : KOk K) {X : RX} {loc : Nat → Nat} (hC : CalOk X loc C) (l2 : List Oper) (o : Oper) : ∀ (l1 : List Oper) (f : FR) (U : Nat → Prop) (σ : St), Dom U σ → Fin U → DOk X loc f → (∀ x, x ∈ l1 → swapD X ops x o = true) → (∀ x, x ∈ l1 → keepsD X x = true) →
    gl P C ops K (l1 ++ o :: l2) f U σ → gs U σ (gfo P C ops f o) fun v U1 σ1 => ∀ U1', (∀ l, U1 l → U1' l) → gl P C ops K (l1 ++ l2) (mput f o.dst v) U1' σ1 := by
  intro l1
  induction l1 with
  | nil =>
    intro f U σ hd hf _ _ _ h
    exact gs_imp h fun v U' σ' hh U1' hu => gl_ok hK _ _ _ U' U1' σ' (.refl _) hu hh
  | cons x l1 ih =>
    intro f U σ hd hf hD hsw hkp h
    have hx := hsw x (by simp)
    have wx := wf_gfo (P := P) (C := C) (ops := ops) hC.u f x
    have wo := wf_gfo (P := P) (C := C) (ops := ops) hC.u f o
    have hx2 : x.apart ops o = true ∧ ((((gfo P C ops f o).1 = [] ∨ NoUpd (gfo P C ops f x)) ∧ ((gfo P C ops f x).1 = [] ∨ NoW (gfo P C ops f o)) ∧ (NoW (gfo P C ops f x) ∨ NoW (gfo P C ops f o))) ∨ ∀ l, l ∈ (gfo P C ops f x).1 → l ∉ (gfo P C ops f o).1) := by
      simp only [swapD, swapB, Bool.or_eq_true, Bool.and_eq_true] at hx
      rcases hx with ⟨hap, ⟨c1, c2⟩, c3⟩ | ⟨hap, hdj⟩
      · exact ⟨hap, .inl ⟨c1.imp wo.2.2.2 wx.2.1, c2.imp wx.2.2.2 wo.2.2.1, c3.imp wx.2.2.1 wo.2.2.1⟩⟩
      · refine ⟨hap, .inr ?_⟩
        unfold disjD at hdj
        split at hdj
        · rename_i a b ha hb
          obtain ⟨m1, r1⟩ := dsr_reads (P := P) (C := C) (ops := ops) hD hC ha
          obtain ⟨m2, r2⟩ := dsr_reads (P := P) (C := C) (ops := ops) hD hC hb
          intro l h1 h2
          have e1 := r1 l h1
          have e2 := r2 l h2
          exact hD.2.1 a b m1 m2 (by simpa using hdj) (e1.symm.trans e2)
        · cases hdj
    obtain ⟨hap, hc⟩ := hx2
    obtain ⟨a1, a2, a3⟩ := Oper.apart_spec hap
    simp only [List.cons_append, gl] at h
    have h' := gs_mono (gs_val h) hd hf (k' := fun v U1 σ1 => gs U1 σ1 (gfo P C ops f o) fun u U2 σ2 => ∀ U2', (∀ l, U2 l → U2' l) → gl P C ops K (l1 ++ l2) (mput (mput f x.dst v) o.dst u) U2' σ2) (fun v U1 σ1 hd1 hf1 _ ⟨hgv, hh⟩ => by
      have := ih (mput f x.dst v) U1 σ1 hd1 hf1 (hD.put (hkp x (by simp)) hgv) (fun y hy => hsw y (by simp [hy])) (fun y hy => hkp y (by simp [hy])) hh
      rwa [gfo_put a1] at this) wx.1
    have h2 := gs_swap (K := fun v u U2 σ2 => ∀ U2', (∀ l, U2 l → U2' l) → gl P C ops K (l1 ++ l2) (mput (mput f x.dst v) o.dst u) U2' σ2) hd hf wx.1 wo.1 hc
      (fun v u V V' σ hv hh U2' hu => hh U2' fun l hl => hu l (hv l hl)) h'
    refine gs_imp h2 fun u U1 σ1 hh U1' hu => ?_
    simp only [List.cons_append, gl]
    rw [gfo_put a3]
    refine gs_imp (hh U1' hu) fun v U2 σ2 hk => ?_
    exact gl_ok hK _ _ _ U2 U2 σ2 (FEq.comm f v u a2) (fun _ h => h) (hk U2 fun _ h => h)
end
end Go.Proofs.YtfbodefnblpflaaGreatDoor
end

section
/- Regions whose order is drawn, with calls that answer a new place (5): the region's rule. -/
set_option linter.unusedVariables false
set_option linter.unusedSimpArgs false
namespace Go.Proofs.YtfbodefnblpflaaGreatDoor
/-- What stands ahead of each operation, as bits. -/
def masks : List Oper → List Nat → List Nat
  | [], acc => acc
  | o :: r, acc => masks r (acc ++ [o.after.toList.foldl (fun m e => if Region.binds .any e then (m ||| 2 ^ e.on) ||| acc.getD e.on 0 else m) 0])
/-- One order serves for all. -/
def chkD (X : RX) (ops : Array Oper) : Bool :=
  let ms := masks ops.toList []
  (ops.toList.all (keepsD X)) && (List.range ops.size).all fun i => match ops[i]? with
    | none => true
    | some oi => (oi.after.toList.all fun e => !Region.binds .any e || decide (e.on < i)) &&
      ((List.range i).all fun j => match ops[j]? with
        | none => true
        | some oj => (ms.getD i 0).testBit j || swapD X ops oj oi)
def chk (ops : Array Oper) : Bool := chkD ⟨[], [], none⟩ ops
section
variable {P : Program} {C : Know} {ops : Array Oper}
/-- Whatever is done, what stands ahead of it is done. -/
def Closed (ops : Array Oper) (L : Nat → Prop) : Prop := ∀ i o, ops[i]? = some o → L i → ∀ e, e ∈ o.after.toList → Region.binds .any e = true → L e.on
theorem fold_bit {L : Nat → Prop} {acc : List Nat} {B : Edge → Bool} (hacc : ∀ i, L i → ∀ j, (acc.getD i 0).testBit j = true → L j) : ∀ (es : List Edge) (m : Nat), (∀ e, e ∈ es → B e = true → L e.on) → (∀ j, m.testBit j = true → L j) →
    ∀ j, (es.foldl (fun m e => if B e then (m ||| 2 ^ e.on) ||| acc.getD e.on 0 else m) m).testBit j = true → L j := by
  intro es
  induction es with
  | nil => intro m _ hm j h; exact hm j h
  | cons e r ih =>
    intro m he hm j h
    simp only [List.foldl_cons] at h
    refine ih _ (fun e' h' => he e' (by simp [h'])) (fun k hk => ?_) j h
    split at hk
    · rename_i hb
      simp only [Nat.testBit_or, Bool.or_eq_true] at hk
      rcases hk with (hk | hk) | hk
      · exact hm k hk
      · rw [Nat.testBit_two_pow] at hk
        have : e.on = k := by simpa using hk
        exact this ▸ he e (by simp) hb
      · exact hacc e.on (he e (by simp) hb) k hk
    · exact hm k hk
theorem masks_good {L : Nat → Prop} : ∀ (l pre : List Oper) (acc : List Nat), acc.length = pre.length → Closed (pre ++ l).toArray L →
    (∀ i, (L i ∨ ∃ o, (pre ++ l)[i]? = some o ∧ ∀ e, e ∈ o.after.toList → Region.binds .any e = true → L e.on) → ∀ j, (acc.getD i 0).testBit j = true → L j) →
    ∀ i, (L i ∨ ∃ o, (pre ++ l)[i]? = some o ∧ ∀ e, e ∈ o.after.toList → Region.binds .any e = true → L e.on) → ∀ j, ((masks l acc).getD i 0).testBit j = true → L j := by
  intro l
  induction l with
  | nil => intro pre acc _ _ h; exact h
  | cons o r ih =>
    intro pre acc hl hc h
    have e1 : pre ++ o :: r = (pre ++ [o]) ++ r := by simp
    simp only [masks]
    rw [e1] at hc h ⊢
    refine ih (pre ++ [o]) _ (by simp [hl]) hc (fun i hi j hj => ?_)
    rcases Nat.lt_trichotomy i acc.length with q | q | q
    · refine h i hi j ?_
      simpa [List.getD, List.getElem?_append_left q] using hj
    · have ho : ((pre ++ [o]) ++ r)[i]? = some o := by
        rw [q, hl]; simp
      have hpre : ∀ e, e ∈ o.after.toList → Region.binds .any e = true → L e.on := by
        rcases hi with hi | ⟨o', h1, h2⟩
        · exact hc i o (by simpa using ho) hi
        · rw [ho] at h1; cases h1; exact h2
      rw [q] at hj
      simp only [List.getD, List.getElem?_append_right (Nat.le_refl _), Nat.sub_self, List.getElem?_cons_zero, Option.getD_some] at hj
      exact fold_bit (B := Region.binds .any) (fun k hk => h k (.inl hk)) o.after.toList 0 hpre (fun j hj => by simp at hj) j hj
    · have : (acc ++ [o.after.toList.foldl (fun m e => if Region.binds .any e then (m ||| 2 ^ e.on) ||| acc.getD e.on 0 else m) 0])[i]? = none := by
        rw [List.getElem?_eq_none]; simp; omega
      rw [List.getD, this] at hj
      simp at hj
/-- What is to come. -/
def left (listed : Array Bool) (n : Nat) : List Nat := (List.range n).filter fun i => !listed.getD i true
theorem left_set {listed : Array Bool} {n i : Nat} (hs : listed.size = n) : left (listed.setIfInBounds i true) n = (left listed n).filter fun j => j != i := by
  unfold left
  rw [List.filter_filter]
  refine List.filter_congr fun j hj => ?_
  have hj : j < n := by simpa using hj
  by_cases h : j = i
  · subst h; simp [hs, hj]
  · have : (i : Nat) ≠ j := fun e => h e.symm
    simp [h, Array.getElem?_setIfInBounds_ne this]
theorem left_split {listed : Array Bool} {n i : Nat} (h : i ∈ left listed n) : ∃ l1 l2, left listed n = l1 ++ i :: l2 ∧ (∀ j, j ∈ l1 → j < i) ∧ (left listed n).filter (fun j => j != i) = l1 ++ l2 := by
  obtain ⟨l1, l2, he⟩ := List.append_of_mem h
  have hp : (left listed n).Pairwise (· < ·) := List.Pairwise.filter _ List.pairwise_lt_range
  rw [he] at hp
  obtain ⟨h1, h2, h3⟩ := List.pairwise_append.1 hp
  have h4 := (List.pairwise_cons.1 h2).1
  refine ⟨l1, l2, he, fun j hj => h3 j hj i (by simp), ?_⟩
  rw [he]
  simp only [List.filter_append, List.filter_cons, bne_self_eq_false, Bool.false_eq_true, if_false]
  congr 1
  · exact List.filter_eq_self.2 fun j hj => by have := h3 j hj i (by simp); simp; omega
  · exact List.filter_eq_self.2 fun j hj => by have := h4 j hj; simp; omega
def opsOf (ops : Array Oper) (is : List Nat) : List Oper := is.filterMap fun i => ops[i]?
theorem mem_left {listed : Array Bool} {n i : Nat} : i ∈ left listed n ↔ i < n ∧ listed.getD i true = false := by simp [left]
theorem any_sound {X : RX} {loc : Nat → Nat} (hC : CalOk X loc C) (hchk : chkD X ops = true) {F : Fence} (hF : F = Fence.wide ∨ ∃ l0, F = Fence.wide.inRound l0 ∧ ∀ o, o ∈ ops.toList → ∀ c, o.op ≠ .defer c) {Q : MQ} {Φ0 : Phi} {σ0 : St} {w0 : World} : ∀ (fuel : Nat) (listed : Array Bool) (f : FR) (σ : St) (Φ : Phi) (w : World) (a : Act), listed.size = ops.size → (left listed ops.size).length = fuel →
    Closed ops (fun i => listed.getD i false = true) → Inv Φ w σ → FRel Φ a.tmps f → DRel Φ w a.defers f.d → DOk X loc f → Step Φ0 σ0 w0 Φ σ w →
    gl P C ops (fun f' _ σ' => ∃ f'', FEq f' f'' ∧ Q .normal f'' σ') (opsOf ops (left listed ops.size)) f (fun l => Φ.obj l ≠ none) σ → wpAnyIn F 0 P .any ops (lift Φ0 σ0 w0 Q) fuel listed a w := by
  have hKok : KOk (fun f' (_ : Nat → Prop) σ' => ∃ f'', FEq f' f'' ∧ Q .normal f'' σ') := fun f f' U U' σ hf _ ⟨f'', h1, h2⟩ => ⟨f'', hf.symm.trans h1, h2⟩
  have fin : ∀ (listed : Array Bool) (f : FR) (σ : St) (Φ : Phi) (w : World) (a : Act), left listed ops.size = [] → Inv Φ w σ → FRel Φ a.tmps f → DRel Φ w a.defers f.d → Step Φ0 σ0 w0 Φ σ w →
      gl P C ops (fun f' _ σ' => ∃ f'', FEq f' f'' ∧ Q .normal f'' σ') (opsOf ops (left listed ops.size)) f (fun l => Φ.obj l ≠ none) σ → lift Φ0 σ0 w0 Q .normal a w := by
    intro listed f σ Φ w a hl hi hr hd hs h
    rw [hl] at h
    obtain ⟨f'', h1, h2⟩ := h
    exact ⟨f'', σ, Φ, h1.2.1 ▸ hd, ⟨hr.1.trans h1.1, fun t => by rw [← h1.2.2 t]; exact hr.2 t⟩, hi, hs, h2⟩
  have ready_left : ∀ (listed : Array Bool) i, i ∈ Region.ready .any ops listed → i ∈ left listed ops.size := fun listed i hi => by
    obtain ⟨h0, o, ho, -⟩ := mem_ready.1 hi
    exact mem_left.2 ⟨(Array.getElem?_eq_some_iff.1 ho).1, h0⟩
  have chk1 : ∀ i oi, ops[i]? = some oi → (∀ e, e ∈ oi.after.toList → Region.binds .any e = true → e.on < i) ∧ ∀ j oj, j < i → ops[j]? = some oj → ((masks ops.toList []).getD i 0).testBit j = true ∨ swapD X ops oj oi = true := by
    intro i oi hoi
    have hlt := (Array.getElem?_eq_some_iff.1 hoi).1
    have h := hchk
    simp only [chkD, Bool.and_eq_true] at h
    replace h := h.2
    simp only [List.all_eq_true, List.mem_range] at h
    have h1 := h i hlt
    rw [hoi] at h1
    simp only [Bool.and_eq_true, List.all_eq_true, Bool.or_eq_true, Bool.not_eq_true', decide_eq_true_eq, List.mem_range] at h1
    refine ⟨fun e he hb => ?_, fun j oj hj hoj => ?_⟩
    · rcases h1.1 e he with q | q
      · rw [hb] at q; cases q
      · exact q
    · have := h1.2 j hj
      rw [hoj] at this
      simpa using this
  intro fuel
  induction fuel with
  | zero =>
    intro listed f σ Φ w a hsz hl hc hi hr hd hD hs h
    have hnil : left listed ops.size = [] := List.eq_nil_of_length_eq_zero hl
    refine ⟨?_, fin listed f σ Φ w a hnil hi hr hd hs h⟩
    rw [List.eq_nil_iff_forall_not_mem]
    intro i hi
    have := ready_left listed i hi
    rw [hnil] at this; cases this
  | succ fuel ih =>
    intro listed f σ Φ w a hsz hl hc hi hr hd hD hs h
    refine ⟨fun hnone => ?_, fun i hrd => ?_⟩
    · -- the first that is left is ready
      exfalso
      cases hleft : left listed ops.size with
      | nil => rw [hleft] at hl; cases hl
      | cons i0 r =>
        have h0 : i0 ∈ left listed ops.size := by rw [hleft]; simp
        obtain ⟨hlt, h0'⟩ := mem_left.1 h0
        have hoi : ops[i0]? = some ops[i0] := Array.getElem?_eq_getElem hlt
        have : i0 ∈ Region.ready .any ops listed := mem_ready.2 ⟨h0', _, hoi, fun e he hb => by
          have hlt' := (chk1 i0 _ hoi).1 e (by simpa using he) hb
          cases hq : listed.getD e.on false with
          | true => rfl
          | false =>
            exfalso
            have hm : e.on ∈ left listed ops.size := mem_left.2 ⟨by omega, by
              have hb2 : e.on < listed.size := by omega
              simpa [hb2] using hq⟩
            have hp : (left listed ops.size).Pairwise (· < ·) := List.Pairwise.filter _ List.pairwise_lt_range
            rw [hleft] at hp hm
            have := (List.pairwise_cons.1 hp).1
            rcases List.mem_cons.1 hm with q | q
            · omega
            · have := this e.on q; omega⟩
        rw [hnone] at this; cases this
    · have hmem := ready_left listed i hrd
      obtain ⟨l1, l2, he, hlt, hflt⟩ := left_split hmem
      obtain ⟨h0, o, ho, hpre⟩ := mem_ready.1 hrd
      have hsw : ∀ x, x ∈ opsOf ops l1 → swapD X ops x o = true := by
        intro x hx
        obtain ⟨j, hj, hx⟩ := List.mem_filterMap.1 hx
        rcases (chk1 i o ho).2 j x (hlt j hj) hx with q | q
        · exfalso
          have := masks_good (L := fun i => listed.getD i false = true) ops.toList [] [] rfl (by simpa using hc) (fun i hi j hj => by simp at hj) i (.inr ⟨o, by simpa using ho, fun e he hb => hpre e (by simpa using he) hb⟩) j q
          have hjl : j ∈ left listed ops.size := by rw [he]; simp [hj]
          have hj2 := (mem_left.1 hjl)
          have hb2 : j < listed.size := by omega
          simp [hb2] at this hj2
          simp [this] at hj2
        · exact q
      have e2 : opsOf ops (left listed ops.size) = opsOf ops l1 ++ o :: opsOf ops l2 := by rw [he]; simp [opsOf, List.filterMap_append, ho]
      rw [e2] at h
      have hdom : Dom (fun l => Φ.obj l ≠ none) σ := fun l hl q => hl (hi.obj_none q)
      have hfin : Fin (fun l => Φ.obj l ≠ none) := by
        obtain ⟨n, hn⟩ := hi.fresh.1
        exact ⟨n, fun l hl q => q (hn l hl)⟩
      have hkall : ∀ (j : Nat) x, ops[j]? = some x → keepsD X x = true := fun j x hx => by
        have h := hchk
        simp only [chkD, Bool.and_eq_true, List.all_eq_true] at h
        exact h.1 x (by rw [← Array.getElem?_toList] at hx; exact List.mem_of_getElem? hx)
      have hp := gs_val (pull hKok hC (opsOf ops l2) o (opsOf ops l1) f _ σ hdom hfin hD hsw (fun x hx => by
        obtain ⟨j, hj, hx⟩ := List.mem_filterMap.1 hx
        exact hkall j x hx) h)
      have e3 : opsOf ops (left (listed.setIfInBounds i true) ops.size) = opsOf ops l1 ++ opsOf ops l2 := by rw [left_set hsz, hflt]; simp [opsOf, List.filterMap_append]
      have hlen : (left (listed.setIfInBounds i true) ops.size).length = fuel := by
        rw [left_set hsz, hflt]
        rw [he] at hl
        simp at hl ⊢; omega
      have hcl : Closed ops (fun k => (listed.setIfInBounds i true).getD k false = true) := by
        intro k ok hk hlk e hek hb
        by_cases hki : k = i
        · subst hki
          rw [ho] at hk; cases hk
          exact getD_set_true (hpre e (by simpa using hek) hb)
        · have : listed.getD k false = true := by rw [← hlk, getD_set_ne _ (Ne.symm hki)]
          exact getD_set_true (hc k ok hk this e hek hb)
      -- what comes then
      have next : ∀ v mv σ' Φ' w' , Rel Φ' v mv → Inv Φ' w' σ' → Step Φ σ w Φ' σ' w' →
          (∃ U' : Nat → Prop, (∀ l, U' l → Φ.obj l ≠ none ∨ σ' l ≠ none) ∧ GV (gfo P C ops f o) mv ∧ ∀ U1', (∀ l, U' l → U1' l) → gl P C ops (fun f' _ σ' => ∃ f'', FEq f' f'' ∧ Q .normal f'' σ') (opsOf ops l1 ++ opsOf ops l2) (mput f o.dst mv) U1' σ') →
          wpAnyIn F 0 P .any ops (lift Φ0 σ0 w0 Q) fuel (listed.setIfInBounds i true) (a.put o.dst v) w' := by
        rintro v mv σ' Φ' w' r1 i1 s1 ⟨U', hu, hgv, hk⟩
        refine ih _ (mput f o.dst mv) σ' Φ' w' (a.put o.dst v) (by simpa using hsz) hlen hcl i1 (rels_put (hr.mono s1.le) o.dst r1) (by rw [put_defers', mput_d]; exact hd.step hi s1) (hD.put (hkall i o ho) hgv) (hs.trans s1) ?_
        rw [e3]
        refine hk _ fun l hl => ?_
        rcases hu l hl with q | q
        · intro hn
          cases hp : Φ.obj l with
          | none => exact q hp
          | some p => rw [s1.le.obj l p hp] at hn; cases hn
        · intro hn; exact q (i1.obj_none hn)
      unfold wpOpIn
      rw [ho]
      simp only
      have hFo : F = Fence.wide ∨ ∃ l0, F = Fence.wide.inRound l0 ∧ ∀ c, o.op ≠ .defer c := hF.imp id fun ⟨l0, e, q⟩ => ⟨l0, e, q o (by rw [← Array.getElem?_toList] at ho; exact List.mem_of_getElem? ho)⟩
      have hfn : ∀ g, F.fn g := fun g => by rcases hF with rfl | ⟨l, rfl, _⟩ <;> trivial
      have run : gs (fun l => Φ.obj l ≠ none) σ (gop P C f o.op) (fun v U1 σ1 => GV (gfo P C ops f o) v ∧ ∀ U1', (∀ l, U1 l → U1' l) → gl P C ops (fun f' _ σ' => ∃ f'', FEq f' f'' ∧ Q .normal f'' σ') (opsOf ops l1 ++ opsOf ops l2) (mput f o.dst v) U1' σ1) →
          o.wpIn F 0 P a w (wpAnyIn F 0 P .any ops (lift Φ0 σ0 w0 Q) fuel (listed.setIfInBounds i true)) (lift Φ0 σ0 w0 Q) := by
        intro hg
        refine wpIn_of_wp hFo ?_
        refine mop_sound (op_gs hg) Φ w a _ _ hi hr fun v mv σ' Φ' w' r1 i1 s1 hk => next v mv σ' Φ' w' r1 i1 s1 (hk fun l h1 h2 q => ?_)
        rcases s1.locs l _ (Option.ne_none_iff_exists'.1 h1).choose_spec with ⟨o', ho'⟩ | ho'
        · rw [h2] at ho'; cases ho'
        · exact q ho'
      obtain ⟨G, hG⟩ : ∃ G, GV (gfo P C ops f o) = G := ⟨_, rfl⟩
      rw [hG] at hp run next
      unfold gfo at hp
      split at hp
      · rename_i hg
        have hw : Region.wanted o (yielded ops a.tmps) = true := by unfold Region.wanted; rw [hg]
        rw [if_pos hw]
        exact run hp
      · rename_i j want hg
        split at hp
        · rename_i t ht
          split at hp
          · rename_i b hb
            have hmg : ∀ {A B : Prop}, (b = want → A) ∧ (b = (!want) → B) → (Region.wanted o (yielded ops a.tmps) = true ∧ A) ∨ (Region.wanted o (yielded ops a.tmps) = false ∧ B) := fun {A B} h =>
              mguard_sound (ops := ops) (o := o) (f := f) (by unfold mguard; rw [hg]; simp only [ht, hb]; exact h) hr
            split at hp
            · rename_i hbw
              rcases hmg (A := True) (B := False) ⟨fun _ => trivial, fun e => by rw [hbw] at e; cases want <;> cases e⟩ with ⟨hw, -⟩ | ⟨-, hw⟩
              · rw [if_pos hw]; exact run hp
              · exact hw.elim
            · rename_i hbw
              rcases hmg (A := False) (B := True) ⟨fun e => hbw e, fun _ => trivial⟩ with ⟨-, hw⟩ | ⟨hw, -⟩
              · exact hw.elim
              · rw [if_neg (by simp [hw])]
                obtain ⟨-, U', hu, hgv, hk⟩ := pure_gs hp
                exact ⟨fun f _ => hfn f, next undef (.tup []) σ Φ w rel_undef hi (.refl _ _ _) ⟨U', hu, hgv, hk⟩⟩
          · rename_i hb
            rcases mguard_sound (ops := ops) (o := o) (f := f) (yes := False) (no := True) (by unfold mguard; rw [hg]; simp only [ht, hb]) hr with ⟨-, hw⟩ | ⟨hw, -⟩
            · exact hw.elim
            · rw [if_neg (by simp [hw])]
              obtain ⟨-, U', hu, hgv, hk⟩ := pure_gs hp
              exact ⟨fun f _ => hfn f, next undef (.tup []) σ Φ w rel_undef hi (.refl _ _ _) ⟨U', hu, hgv, hk⟩⟩
          · exact (no_fail hp).elim
        · exact (no_fail hp).elim
/-- Operations one by one, calls by what is known of them. -/
def mopsX (P : Program) (MC : FuncId → List MV → St → (MV → St → Prop) → Prop) (ops : Array Oper) (K : FR → St → Prop) : List Oper → FR → St → Prop
  | [], f, σ => K f σ
  | o :: rest, f, σ => mguard ops f o (mopX P MC f σ (fun v σ' => mopsX P MC ops K rest (mput f o.dst v) σ') o.op) (mopsX P MC ops K rest (mput f o.dst (.tup [])) σ)
abbrev mopsC (P : Program) (C : Know) := mopsX P (mcallC P C)
theorem gl_of {MC : FuncId → List MV → St → (MV → St → Prop) → Prop} (hMC : ∀ U σ, Dom U σ → ∀ g ms k, MC g ms σ k → gs U σ (gcall P C g ms) fun v _ σ' => k v σ') {u : Bool} (hu : u = true ∨ Pl C) {K : FR → St → Prop} : ∀ (l : List Oper) (f : FR) (U : Nat → Prop) (σ : St), Dom U σ → Fin U → mopsX P MC ops K l f σ → gl P C ops (fun f' _ σ' => ∃ f'', FEq f' f'' ∧ K f'' σ') l f U σ := by
  intro l
  induction l with
  | nil => intro f U σ _ _ h; exact ⟨f, .refl f, h⟩
  | cons o r ih =>
    intro f U σ hd hf h
    simp only [mopsX] at h
    simp only [gl]
    have run : mopX P MC f σ (fun v σ' => mopsX P MC ops K r (mput f o.dst v) σ') o.op → gs U σ (gop P C f o.op) fun v U' σ' => gl P C ops (fun f' _ σ' => ∃ f'', FEq f' f'' ∧ K f'' σ') r (mput f o.dst v) U' σ' := fun h =>
      gs_mono (gs_opX (hMC U σ hd) hd h) hd hf (fun v U' σ' hd' hf' _ hh => ih _ U' σ' hd' hf' hh) (wf_gop P C hu f o.op).1
    unfold mguard at h
    unfold gfo
    split at h
    · rename_i hg; simp only [hg]; exact run h
    · rename_i j want hg
      simp only [hg]
      split at h
      · rename_i t ht
        simp only [ht]
        split at h
        · rename_i b hb
          simp only [hb]
          split
          · rename_i hbw; exact run (h.1 hbw)
          · rename_i hbw
            have hb' : b = !want := by cases b <;> cases want <;> simp at hbw ⊢
            refine gs_imp (gs_mono (gs_pure (U := U) (pv := some (True, .tup [])) (k := fun v σ' => v = .tup [] ∧ σ' = σ) ⟨trivial, rfl, rfl⟩) hd hf (k' := fun v U' σ' => v = .tup [] ∧ σ' = σ ∧ Dom U' σ' ∧ Fin U') (fun v U' σ' h1 h2 _ h3 => ⟨h3.1, h3.2, h1, h2⟩) (wf_pure _).1) ?_
            rintro v U' σ' ⟨rfl, rfl, h1, h2⟩
            exact ih _ U' _ h1 h2 (h.2 hb')
        · rename_i hb
          simp only [hb]
          refine gs_imp (gs_mono (gs_pure (U := U) (pv := some (True, .tup [])) (k := fun v σ' => v = .tup [] ∧ σ' = σ) ⟨trivial, rfl, rfl⟩) hd hf (k' := fun v U' σ' => v = .tup [] ∧ σ' = σ ∧ Dom U' σ' ∧ Fin U') (fun v U' σ' h1 h2 _ h3 => ⟨h3.1, h3.2, h1, h2⟩) (wf_pure _).1) ?_
          rintro v U' σ' ⟨rfl, rfl, h1, h2⟩
          exact ih _ U' _ h1 h2 h
        · exact h.elim
      · exact h.elim
/-- A region whose order is drawn. -/
theorem mwp_drawX (hm : P.follows .mixedOrders = true) {X : RX} {loc : Nat → Nat} (hC : CalOk X loc C) (hchk : chkD X ops = true) {MC : FuncId → List MV → St → (MV → St → Prop) → Prop} (hMC : ∀ U σ, Dom U σ → ∀ g ms k, MC g ms σ k → gs U σ (gcall P C g ms) fun v _ σ' => k v σ') {id : Nat} {f : FR} {σ : St} {Q : MQ} (hD : DOk X loc f) (h : mopsX P MC ops (Q .normal) ops.toList f σ) : mwp P (.region id ops true) f σ Q := by
  intro F hF Φ w a hi hr hd
  have hi' : Inv Φ { w with drawn := w.drawn + 1 } σ := ⟨fun l o hl => by
    have := hi.own l o hl
    cases o <;> exact this, hi.inj, hi.snap, hi.apart, hi.fresh⟩
  have hst : Step Φ σ w Φ σ { w with drawn := w.drawn + 1 } := ⟨.refl Φ, rfl, rfl, rfl, Nat.le_succ _, Nat.le_refl _, fun _ _ _ => rfl, fun _ _ h => .inl h, fun l o h => .inl ⟨o, h⟩, fun _ h => .inl h⟩
  have hall : left (Array.replicate ops.size false) ops.size = List.range ops.size := by
    unfold left
    refine List.filter_eq_self.2 fun j hj => ?_
    have hj : j < ops.size := by simpa using hj
    simp [hj]
  have hops : opsOf ops (List.range ops.size) = ops.toList := by
    unfold opsOf
    apply List.ext_getElem?
    intro i
    have : ∀ (l : List Oper), (List.range l.length).filterMap (fun i => l[i]?) = l := by
      intro l
      induction l with
      | nil => rfl
      | cons a r ih =>
        rw [List.length_cons, List.range_succ_eq_map, List.filterMap_cons]
        simp only [List.getElem?_cons_zero, List.filterMap_map]
        congr 1
    have := this ops.toList
    simp only [Array.length_toList, Array.getElem?_toList] at this
    rw [this]
  refine wpIn_region_any hm (any_sound (C := C) hC hchk hF.ops ops.size _ f σ Φ _ a (by simp) (by rw [hall]; simp) ?_ hi' hr (hd.step hi hst) hD hst ?_)
  · intro i o ho hl
    simp only [Array.getD_eq_getD_getElem?, Array.getElem?_replicate] at hl
    split at hl <;> simp at hl
  · rw [hall, hops]
    refine gl_of hMC hC.u ops.toList f _ σ (fun l hl q => hl (hi.obj_none q)) ?_ h
    obtain ⟨n, hn⟩ := hi.fresh.1
    exact ⟨n, fun l hl q => q (hn l hl)⟩
theorem mwp_drawD (hm : P.follows .mixedOrders = true) {Ds : List Nat} {loc : Nat → Nat} (hchk : chkD ⟨Ds, [], none⟩ ops = true) (C : Know) {id : Nat} {f : FR} {σ : St} {Q : MQ} (hD : DOk ⟨Ds, [], none⟩ loc f) (h : mopsC P C ops (Q .normal) ops.toList f σ) : mwp P (.region id ops true) f σ Q :=
  mwp_drawX (C := C.pl) (X := ⟨Ds, [], none⟩) (loc := loc) hm (show CalOk ⟨Ds, [], none⟩ loc C.pl from C.pl_pl) hchk (fun _ _ hd _ _ _ h => gs_call hd h) hD h
theorem mwp_draw (hm : P.follows .mixedOrders = true) (hchk : chk ops = true) (C : Know) {id : Nat} {f : FR} {σ : St} {Q : MQ} (h : mopsC P C ops (Q .normal) ops.toList f σ) : mwp P (.region id ops true) f σ Q :=
  mwp_drawD (loc := fun _ => 0) hm hchk C ⟨fun t ht => (by cases ht), fun t t' ht => (by cases ht), fun p hp => (by cases hp)⟩ h
end
end Go.Proofs.YtfbodefnblpflaaGreatDoor
end

section
/- Regions whose order is drawn, with calls that answer a new place (6): for simp. -/
set_option linter.unusedVariables false
set_option linter.unusedSimpArgs false
namespace Go.Proofs.YtfbodefnblpflaaGreatDoor
def plainOp : Op → Bool
  | .call ⟨.value _, _, _⟩ | .defer _ => false
  | _ => true
section
variable {P : Program} {C : Know} {MC : FuncId → List MV → St → (MV → St → Prop) → Prop} {f : FR} {σ : St} {Q : MQ} {k : MV → St → Prop} {K : FR → St → Prop} {ops : Array Oper} {rest : List Oper}
theorem mopX_plain {op : Op} (h : plainOp op = true) : mopX P MC f σ k op = mop P f σ k op := by
  cases op <;> first | rfl | (simp [plainOp] at h; done) | skip
  rename_i c
  obtain ⟨callee, args, ts⟩ := c
  cases callee <;> first | rfl | (simp [plainOp] at h; done)
theorem mdraw_plain {id : Nat} {l : List Oper} (hm : P.follows .mixedOrders = true) (hchk : (chk l.toArray && l.all fun o => plainOp o.op) = true) (h : R (mopsC P (fun _ _ => none) (@OfNat.ofNat (Array Oper) (nat_lit 0) (@_root_.id (OfNat (Array Oper) (nat_lit 0)) (OfNat.mk (l.toArray)))) (Q .normal) (@OfNat.ofNat (List Oper) (nat_lit 0) (@_root_.id (OfNat (List Oper) (nat_lit 0)) (OfNat.mk l))) f σ)) : R (mdraw P id (@OfNat.ofNat (List Oper) (nat_lit 0) (@_root_.id (OfNat (List Oper) (nat_lit 0)) (OfNat.mk l))) f σ Q) := by
  simp only [Bool.and_eq_true] at hchk
  exact mwp_draw hm hchk.1 (fun _ _ => none) h
theorem mdraw_know {id : Nat} {l : List Oper} (hm : P.follows .mixedOrders = true) (hchk : chk l.toArray = true) (C : Know) (h : R (mopsC P C (@OfNat.ofNat (Array Oper) (nat_lit 0) (@_root_.id (OfNat (Array Oper) (nat_lit 0)) (OfNat.mk (l.toArray)))) (Q .normal) (@OfNat.ofNat (List Oper) (nat_lit 0) (@_root_.id (OfNat (List Oper) (nat_lit 0)) (OfNat.mk l))) f σ)) : R (mdraw P id (@OfNat.ofNat (List Oper) (nat_lit 0) (@_root_.id (OfNat (List Oper) (nat_lit 0)) (OfNat.mk l))) f σ Q) :=
  mwp_draw hm hchk C h
/-- Pointers of slots, each to a place of its own: told in a list. -/
def locD (ds : List (Nat × Nat)) (t : Nat) : Nat := ((ds.find? fun p => p.1 == t).map (·.2)).getD 0
theorem DOk.of {ds : List (Nat × Nat)} {Rs : List (Nat × Nat)} {dr : Option Nat} {f : FR} (h1 : ∀ p, p ∈ ds → ∃ i o, f.get p.1 = .ptr p.2 i o) (h2 : (ds.map (·.2)).Pairwise (· ≠ ·)) (h3 : (ds.map (·.1)).Pairwise (· ≠ ·)) (h4 : ∀ p, p ∈ Rs → p.2 ∈ ds.map (·.1) ∧ ∀ l i o, f.get p.1 = .ptr l i o → l = locD ds p.2) : DOk ⟨ds.map (·.1), Rs, dr⟩ (locD ds) f := by
  unfold locD at h4 ⊢
  have hloc : ∀ p, p ∈ ds → ((ds.find? fun q => q.1 == p.1).map (·.2)).getD 0 = p.2 := fun p hp => by
    clear h4
    induction ds with
    | nil => cases hp
    | cons q r ih =>
      simp only [List.map_cons] at h2 h3
      obtain ⟨a1, a2⟩ := List.pairwise_cons.1 h2
      obtain ⟨b1, b2⟩ := List.pairwise_cons.1 h3
      rcases List.mem_cons.1 hp with rfl | hp'
      · simp
      · have : (q.1 == p.1) = false := by simpa using b1 p.1 (List.mem_map.2 ⟨p, hp', rfl⟩)
        rw [List.find?_cons, this]
        exact ih (fun p hp => h1 p (List.mem_cons_of_mem _ hp)) a2 b2 hp'
  refine ⟨fun t ht => ?_, fun t t' ht ht' hne => ?_, h4⟩
  · obtain ⟨p, hp, rfl⟩ := List.mem_map.1 ht
    simp only [hloc p hp]
    exact h1 p hp
  · obtain ⟨p, hp, rfl⟩ := List.mem_map.1 ht
    obtain ⟨q, hq, rfl⟩ := List.mem_map.1 ht'
    simp only [hloc p hp, hloc q hq]
    intro e
    obtain ⟨i, hi, e1⟩ := List.mem_iff_getElem.1 hp
    obtain ⟨j, hj, e2⟩ := List.mem_iff_getElem.1 hq
    have hij : i ≠ j := fun e => by subst e; exact hne (by rw [← e1, ← e2])
    rw [List.pairwise_iff_getElem] at h2
    rcases Nat.lt_or_gt_of_ne hij with hlt | hgt
    · have := h2 i j (by simpa using hi) (by simpa using hj) hlt
      simp only [List.getElem_map, e1, e2] at this
      exact this e
    · have := h2 j i (by simpa using hj) (by simpa using hi) hgt
      simp only [List.getElem_map, e1, e2] at this
      exact this e.symm
theorem mopsC_nil : R (mopsX P MC ops K [] f σ) = R (K f σ) := rfl
theorem mopsC_cons {dst : Option Tmp} {op : Op} {ty : TypeId} {pos : String} {after : Array Edge} : R (mopsX P MC ops K (⟨dst, op, ty, pos, after, none⟩ :: rest) f σ) = R (mopX P MC f σ (fun v σ' => mopsX P MC ops K (@OfNat.ofNat (List Oper) (nat_lit 0) (@_root_.id (OfNat (List Oper) (nat_lit 0)) (OfNat.mk rest))) (mput f dst v) σ') op) := congrArg R rfl
theorem mopsC_show {l : List Oper} : R (mopsX P MC ops K (@OfNat.ofNat (List Oper) (nat_lit 0) (@_root_.id (OfNat (List Oper) (nat_lit 0)) (OfNat.mk l))) f σ) = R (mopsX P MC ops K l f σ) := congrArg R rfl
theorem mopsC_guard {l : List Oper} {dst : Option Tmp} {op : Op} {ty : TypeId} {pos : String} {after : Array Edge} {j : Nat} {want : Bool} : R (mopsX P MC (@OfNat.ofNat (Array Oper) (nat_lit 0) (@_root_.id (OfNat (Array Oper) (nat_lit 0)) (OfNat.mk (l.toArray)))) K (⟨dst, op, ty, pos, after, some (j, want)⟩ :: rest) f σ) = R (mgfork (E (gval f (gdst (@OfNat.ofNat (List Oper) (nat_lit 0) (@_root_.id (OfNat (List Oper) (nat_lit 0)) (OfNat.mk l))) j))) want (mopX P MC f σ (fun v σ' => mopsX P MC (@OfNat.ofNat (Array Oper) (nat_lit 0) (@_root_.id (OfNat (Array Oper) (nat_lit 0)) (OfNat.mk (l.toArray)))) K (@OfNat.ofNat (List Oper) (nat_lit 0) (@_root_.id (OfNat (List Oper) (nat_lit 0)) (OfNat.mk rest))) (mput f dst v) σ') op) (mopsX P MC (@OfNat.ofNat (Array Oper) (nat_lit 0) (@_root_.id (OfNat (Array Oper) (nat_lit 0)) (OfNat.mk (l.toArray)))) K (@OfNat.ofNat (List Oper) (nat_lit 0) (@_root_.id (OfNat (List Oper) (nat_lit 0)) (OfNat.mk rest))) (mput f dst (.tup [])) σ)) := congrArg R (by
  show mopsX P MC l.toArray K (⟨dst, op, ty, pos, after, some (j, want)⟩ :: rest) f σ = mgfork (gval f (gdst l j)) want (mopX P MC f σ (fun v σ' => mopsX P MC l.toArray K rest (mput f dst v) σ') op) (mopsX P MC l.toArray K rest (mput f dst (.tup [])) σ)
  simp only [mopsX, mguard, gdst_eq]
  cases gdst l j <;> rfl)
theorem mopC_go {op : Op} (h : plainOp op = true) : R (mopX P MC f σ k op) = R (mop P f σ k op) := by rw [mopX_plain h]
def mcallCv (MC : FuncId → List MV → St → (MV → St → Prop) → Prop) (x : MV) (args : List MV) (σ : St) (k : MV → St → Prop) : Prop := match x with
  | .fn (.func g) ms ns => MC g (ms ++ args ++ ns) σ k
  | _ => False
theorem mopC_call {x : Operand} {args : Array Operand} {ts : Array TypeId} : R (mopX P MC f σ k (.call ⟨.value x, args, ts⟩)) = R (mcallCv MC (E (mval f x)) (E (args.toList.map (mval f))) σ k) := congrArg R rfl
theorem mcallCv_fn {g : FuncId} {ms ns args : List MV} : R (mcallCv MC (.fn (.func g) ms ns) args σ k) = R (MC g (E (ms ++ args ++ ns)) σ k) := congrArg R rfl
/-- A call of which is known what it answers. -/
theorem know_pure {g : FuncId} {ms : List MV} {r : MV} (hC : C g ms = some ⟨[], fun v => v = r, none⟩) (h : MCalls P g ms St.none fun v _ => v = r) (hk : R (mlet r σ k)) : R (mcallC P C g ms σ k) :=
  .inl ⟨[], _, [], hC, rfl, h.mono_pure, ⟨r, rfl⟩, fun v hv => hv ▸ hk⟩
theorem know_at {g : FuncId} {ms : List MV} (rd : List Nat) (os : List MObj) {q : MV → Prop} (hC : C g ms = some ⟨rd, q, none⟩) (hos : rd.map σ = os.map some) (h : MCalls P g ms (St.ofList rd os) fun v σ' => q v ∧ σ' = St.ofList rd os) (hq : ∃ v, q v) (hk : ∀ v, q v → R (mlet v σ k)) : R (mcallC P C g ms σ k) :=
  .inl ⟨rd, q, os, hC, hos, h, hq, hk⟩
/-- A call that answers a new place. -/
theorem know_new {g : FuncId} {ms : List MV} {rd : List Nat} {q : MV → Prop} {o : MObj} {u : Nat → MV} (hC : C g ms = some ⟨rd, q, some (o, u)⟩) (h : MCalls P g ms St.none fun v σ' => ∃ l, v = u l ∧ σ' = St.none.set l o) (hk : ∀ l, σ l = none → R (mlet (u l) (σ.set l o) k)) : R (mcallC P C g ms σ k) :=
  .inr ⟨rd, q, o, u, hC, h, hk⟩
end
attribute [go_sem ↓] mopsC_show mopsC_nil mopsC_cons mopsC_guard mopC_call mopC_go
attribute [go_sem] mcallCv_fn
/-- What is known of some calls. -/
noncomputable def kn (L : List (FuncId × List MV × Fact)) : Know := fun g ms => by
  classical exact (L.find? fun p => decide (p.1 = g ∧ p.2.1 = ms)).map (·.2.2)
theorem kn_hit {g : FuncId} {ms : List MV} {F : Fact} {L : List (FuncId × List MV × Fact)} : kn ((g, ms, F) :: L) g ms = some F := by
  simp [kn]
theorem kn_skip {g g' : FuncId} {ms ms' : List MV} {F F' : Fact} {L : List (FuncId × List MV × Fact)} (h : g' = g ∧ ms' = ms → F' = F) (k : kn L g ms = some F) : kn ((g', ms', F') :: L) g ms = some F := by
  by_cases e : g' = g ∧ ms' = ms
  · obtain ⟨rfl, rfl⟩ := e
    rw [kn_hit, h ⟨rfl, rfl⟩]
  · unfold kn at k ⊢
    rw [List.find?_cons_of_neg (by simpa using e)]
    exact k
end Go.Proofs.YtfbodefnblpflaaGreatDoor
end
