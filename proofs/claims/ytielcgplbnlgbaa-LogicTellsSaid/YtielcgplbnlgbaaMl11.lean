/- The logic as a program for simp: what an operation, a region, a body comes to. -/
import Derived.Test.YtielcgplbnlgbaaMl10
set_option linter.unusedVariables false
set_option linter.unusedSimpArgs false
namespace Go.Proofs.Ytielcgplbnlgbaa

/-- To be looked at: simp strikes the sign off, and so sees that something has turned. -/
def E {α : Sort _} (x : α) : α := x
theorem E_eq {α : Sort _} (x : α) : E x = x := rfl

/-- Where the walk stands: the rules work under this sign alone, not in what is to come. -/
def R (p : Prop) : Prop := p
theorem R_true : R True = True := rfl
theorem R_false : R False = False := rfl
theorem R_eq {α : Sort _} {a b : α} : R (a = b) = (a = b) := rfl
theorem R_and {a b : Prop} : R (a ∧ b) = (R a ∧ R b) := rfl
theorem R_ex {α : Sort _} {p : α → Prop} : R (∃ x, p x) = ∃ x, R (p x) := rfl
theorem R_not {p : Prop} : R (¬ p) = ¬ p := rfl
theorem R_or {a b : Prop} : R (a ∨ b) = (R a ∨ R b) := rfl
theorem R_of {p : Prop} (h : p) : R p := h


/-! ## Places where simp stands still -/

/-- A new place. -/
def mnew (σ : St) (K : Nat → Prop) : Prop := ∀ l, σ l = none → K l
/-- Two ways. -/
def mfork (x : MV) (A B : Prop) : Prop := match x with
  | .bool b => (b = true → A) ∧ (b = false → B)
  | _ => False
/-- A condition that is owed. -/
def owes (C : Prop) (A : Prop) : Prop := C ∧ A

theorem mfork_true (A B : Prop) : R (mfork (.bool true) A B) = R A := by simp [mfork]
theorem mfork_false (A B : Prop) : R (mfork (.bool false) A B) = R B := by simp [mfork]
theorem mfork_yes {p : Prop} [Decidable p] {A B : Prop} (h : p) : R (mfork (.bool (decide p)) A B) = R A := by simp [mfork, h]
theorem mfork_no {p : Prop} [Decidable p] {A B : Prop} (h : ¬ p) : R (mfork (.bool (decide p)) A B) = R B := by simp [mfork, h]
theorem mfork_dec {p : Prop} [Decidable p] {A B : Prop} (h1 : p → R A) (h2 : ¬ p → R B) : R (mfork (.bool (decide p)) A B) := by
  simp only [R, mfork, decide_eq_true_eq, decide_eq_false_iff_not]; exact ⟨h1, h2⟩
theorem mfork_bool {b : Bool} {A B : Prop} (h1 : b = true → R A) (h2 : b = false → R B) : R (mfork (.bool b) A B) := ⟨h1, h2⟩
theorem owes_intro {C A : Prop} (h : C) (a : R A) : R (owes C A) := ⟨h, a⟩
theorem mnew_test {σ : St} {K : Nat → Prop} (h : R (mnew σ K)) : R (mnew σ K) := h
theorem mnew_intro {σ : St} {K : Nat → Prop} (h : ∀ l, σ l = none → R (K l)) : R (mnew σ K) := h

/-! ## Bodies -/

/-- A region whose order is drawn. -/
def mdraw (P : Program) (id : Nat) (ops : List Oper) (f : FR) (σ : St) (Q : MQ) : Prop := mwp P (.region id ops.toArray true) f σ Q
def mloop (P : Program) (c : Code) (f : FR) (σ : St) (Q : MQ) : Prop := mwp P (.loop c) f σ Q
def mrest (P : Program) (c : Code) (f : FR) (σ : St) (Q : MQ) : Prop := mwp P c f σ Q

def mcode (P : Program) : Code → FR → St → MQ → Prop
  | .skip, f, σ, Q => Q .normal f σ
  | .seq a b, f, σ, Q => mcode P a f σ (thenQ (fun f' σ' => mcode P b f' σ' Q) Q)
  | .cond c a b, f, σ, Q => mfork (mval f c) (mcode P a f σ Q) (mcode P b f σ Q)
  | .block id b, f, σ, Q => mcode P b f σ (blockQ id Q)
  | .ret, f, σ, Q => Q .ret f σ
  | .exit id, f, σ, Q => Q (.exit id) f σ
  | .region id ops true, f, σ, Q => mdraw P id ops.toList f σ Q
  | .region _ ops false, f, σ, Q => mops P ops (Q .normal) ops.toList f σ
  | .loop b, f, σ, Q => mloop P b f σ Q
  | c, f, σ, Q => mrest P c f σ Q

theorem mcode_sound {P : Program} : ∀ (c : Code) (f : FR) (σ : St) (Q : MQ), mcode P c f σ Q → mwp P c f σ Q := by
  intro c
  induction c with
  | skip => intro f σ Q h; exact mwp_skip h
  | region id ops draw => intro f σ Q h; cases draw with
    | true => exact h
    | false => exact mwp_region h
  | seq a b iha ihb =>
    intro f σ Q h
    refine mwp_seq (mwp_mono (iha f σ _ h) fun e f' σ' hq => ?_)
    cases e with
    | normal => exact ihb f' σ' Q hq
    | _ => exact hq
  | cond c a b iha ihb =>
    intro f σ Q h
    simp only [mcode, mfork] at h
    split at h
    · rename_i t ht
      exact mwp_cond ht (fun hh => iha f σ Q (h.1 hh)) (fun hh => ihb f σ Q (h.2 hh))
    · exact h.elim
  | block id b ih => intro f σ Q h; exact mwp_block (ih f σ _ h)
  | loop b _ => intro f σ Q h; exact h
  | ret => intro f σ Q h; exact mwp_ret h
  | exit id => intro f σ Q h; exact mwp_exit h
  | _ => intro f σ Q h; exact h

/-- A function, by its body, for simp. -/
theorem MCalls.body {P : Program} {g : FuncId} {fn : Func} {c : Code} {ms : List MV} {σ : St} {Q : MV → St → Prop} (n : Nat) (rs : List ResultVar) (hf : P.funcs[g]? = some fn) (hb : fn.body = some c) (hn : (fn.name == "runtime.NumGoroutine") = false)
    (hn' : max fn.ntmps ms.length = n) (hrs : fn.results.toList = rs) (h : R (mcode P (@OfNat.ofNat Code (nat_lit 0) (@_root_.id (OfNat Code (nat_lit 0)) (OfNat.mk c))) ⟨n, args0 0 ms, []⟩ σ (retQ P rs Q))) : MCalls P g ms σ Q :=
  MCalls.of_body n rs hf hb hn hn' hrs (mcode_sound c _ σ _ h)

/-- A loop, for simp. -/
theorem mloop_intro {P : Program} {c : Code} {f : FR} {σ : St} {Q : MQ} {α : Type} (F : α → FR) (S : α → St) (p : α → Prop) (μ : α → Nat) (h0 : Gh f σ fun f1 σ1 => ∃ a, f1 = F a ∧ σ1 = S a ∧ p a)
    (round : ∀ a, p a → R (mcode P c (F a) (S a) (thenQ (fun f' σ' => Gh f' σ' fun f1 σ1 => ∃ b, f1 = F b ∧ σ1 = S b ∧ p b ∧ μ b < μ a) Q))) : R (mloop P c f σ Q) :=
  mwp_loop F S p μ h0 fun a ha => mcode_sound c _ _ _ (round a ha)

/-! ## Equations -/
section
variable {P : Program} {f : FR} {σ : St} {Q : MQ} {k : MV → St → Prop} {K : FR → St → Prop} {ops : Array Oper} {rest : List Oper}

theorem mcode_skip : R (mcode P .skip f σ Q) = R (Q .normal f σ) := rfl
theorem mcode_show {c : Code} : R (mcode P (@OfNat.ofNat Code (nat_lit 0) (@_root_.id (OfNat Code (nat_lit 0)) (OfNat.mk c))) f σ Q) = R (mcode P c f σ Q) := rfl
theorem mcode_seq {a b : Code} : R (mcode P (.seq a b) f σ Q) = R (mcode P (@OfNat.ofNat Code (nat_lit 0) (@_root_.id (OfNat Code (nat_lit 0)) (OfNat.mk a))) f σ (thenQ (fun f' σ' => mcode P (@OfNat.ofNat Code (nat_lit 0) (@_root_.id (OfNat Code (nat_lit 0)) (OfNat.mk b))) f' σ' Q) Q)) := rfl
theorem mcode_cond {c : Operand} {a b : Code} : R (mcode P (.cond c a b) f σ Q) = R (mfork (E (mval f c)) (mcode P (@OfNat.ofNat Code (nat_lit 0) (@_root_.id (OfNat Code (nat_lit 0)) (OfNat.mk a))) f σ Q) (mcode P (@OfNat.ofNat Code (nat_lit 0) (@_root_.id (OfNat Code (nat_lit 0)) (OfNat.mk b))) f σ Q)) := rfl
theorem mcode_block {id : Nat} {b : Code} : R (mcode P (.block id b) f σ Q) = R (mcode P (@OfNat.ofNat Code (nat_lit 0) (@_root_.id (OfNat Code (nat_lit 0)) (OfNat.mk b))) f σ (blockQ id Q)) := rfl
theorem mcode_ret : R (mcode P .ret f σ Q) = R (Q .ret f σ) := rfl
theorem mcode_exit {id : Nat} : R (mcode P (.exit id) f σ Q) = R (Q (.exit id) f σ) := rfl
theorem mcode_draw {id : Nat} {l : List Oper} : R (mcode P (.region id l.toArray true) f σ Q) = R (mdraw P id (@OfNat.ofNat (List Oper) (nat_lit 0) (@_root_.id (OfNat (List Oper) (nat_lit 0)) (OfNat.mk l))) (E f) σ Q) := rfl
theorem mcode_region {id : Nat} {l : List Oper} : R (mcode P (.region id l.toArray false) f σ Q) = R (mops P (@OfNat.ofNat (Array Oper) (nat_lit 0) (@_root_.id (OfNat (Array Oper) (nat_lit 0)) (OfNat.mk (l.toArray)))) (Q .normal) (@OfNat.ofNat (List Oper) (nat_lit 0) (@_root_.id (OfNat (List Oper) (nat_lit 0)) (OfNat.mk l))) f σ) := rfl
theorem mops_show {l : List Oper} : R (mops P ops K (@OfNat.ofNat (List Oper) (nat_lit 0) (@_root_.id (OfNat (List Oper) (nat_lit 0)) (OfNat.mk l))) f σ) = R (mops P ops K l f σ) := rfl
theorem mcode_loop {b : Code} : R (mcode P (.loop b) f σ Q) = R (mloop P (@OfNat.ofNat Code (nat_lit 0) (@_root_.id (OfNat Code (nat_lit 0)) (OfNat.mk b))) (E f) σ Q) := rfl

theorem thenQ_normal {next : FR → St → Prop} : R (thenQ next Q .normal f σ) = R (next f σ) := rfl
theorem thenQ_ret {next : FR → St → Prop} : R (thenQ next Q .ret f σ) = R (Q .ret f σ) := rfl
theorem thenQ_exit {next : FR → St → Prop} {id : Nat} : R (thenQ next Q (.exit id) f σ) = R (Q (.exit id) f σ) := rfl
theorem blockQ_normal {id : Nat} : R (blockQ id Q .normal f σ) = R (Q .normal f σ) := rfl
theorem blockQ_ret {id : Nat} : R (blockQ id Q .ret f σ) = R (Q .ret f σ) := rfl
theorem blockQ_hit {id : Nat} : R (blockQ id Q (.exit id) f σ) = R (Q .normal f σ) := by simp [blockQ]
theorem blockQ_miss {id id' : Nat} (h : id' ≠ id) : R (blockQ id Q (.exit id') f σ) = R (Q (.exit id') f σ) := by simp [blockQ, h]

theorem mops_nil : R (mops P ops K [] f σ) = R (K f σ) := rfl
theorem mops_cons {dst : Option Tmp} {op : Op} {ty : TypeId} {pos : String} {after : Array Edge} : R (mops P ops K (⟨dst, op, ty, pos, after, none⟩ :: rest) f σ) = R (mstep P f σ dst (mops P ops K (@OfNat.ofNat (List Oper) (nat_lit 0) (@_root_.id (OfNat (List Oper) (nat_lit 0)) (OfNat.mk rest)))) op) := rfl
theorem mstep_go {dst : Option Tmp} {op : Op} (h : opPlain op = true) : R (mstep P f σ dst K op) = R (mop P f σ (fun v σ' => K (mput f dst v) σ') op) := by
  rw [mstep_of h]
def mdefv (f : FR) (x : MV) (args : List MV) (K : FR → Prop) : Prop := match x with
  | .fn (.func g) ms ns => K ⟨f.n, f.l, (g, ms ++ args ++ ns) :: f.d⟩
  | _ => False
theorem mstep_defer {dst : Option Tmp} {x : Operand} {args : Array Operand} {ts : Array TypeId} : R (mstep P f σ dst K (.defer ⟨.value x, args, ts⟩)) = R (mdefv f (E (mval f x)) (E (args.toList.map (mval f))) fun f' => K (mput f' dst .junk) σ) := rfl
theorem mdefv_fn {n : Nat} {l : List (Nat × MV)} {d : List (FuncId × List MV)} {g : FuncId} {ms ns args : List MV} {H : FR → Prop} : R (mdefv ⟨n, l, d⟩ (.fn (.func g) ms ns) args H) = R (H ⟨n, l, (g, ms ++ args ++ ns) :: d⟩) := rfl

def gdst : List Oper → Nat → Option Tmp
  | [], _ => none
  | o :: _, 0 => o.dst
  | _ :: r, n + 1 => gdst r n

theorem gdst_eq : ∀ (l : List Oper) (j : Nat), (l.toArray[j]?).bind (·.dst) = gdst l j := by
  intro l
  induction l with
  | nil => intro j; simp [gdst]
  | cons o r ih =>
    intro j
    cases j with
    | zero => simp [gdst]
    | succ j => simpa [gdst] using ih j

/-- A guarded operation. -/
def mguarded (d : Option Tmp) (f : FR) (want : Bool) (yes no : Prop) : Prop := match d with
  | some t => match f.get t with
    | .bool b => (b = want → yes) ∧ (b = (!want) → no)
    | _ => False
  | none => False

/-- The guard as it is known. -/
def mgfork (x : MV) (want : Bool) (yes no : Prop) : Prop := match x with
  | .bool b => (b = want → yes) ∧ (b = (!want) → no)
  | _ => False

theorem mgfork_tt (A B : Prop) : R (mgfork (.bool true) true A B) = R (A) := congrArg R (by simp [mgfork])
theorem mgfork_tf (A B : Prop) : R (mgfork (.bool true) false A B) = R (B) := congrArg R (by simp [mgfork])
theorem mgfork_ft (A B : Prop) : R (mgfork (.bool false) true A B) = R (B) := congrArg R (by simp [mgfork])
theorem mgfork_ff (A B : Prop) : R (mgfork (.bool false) false A B) = R (A) := congrArg R (by simp [mgfork])
theorem mgfork_bool {b want : Bool} {A B : Prop} (h1 : b = want → R A) (h2 : b = (!want) → R B) : R (mgfork (.bool b) want A B) := ⟨h1, h2⟩
theorem mgfork_yes {b want : Bool} {A B : Prop} (h : b = want) : R (mgfork (.bool b) want A B) = R A := by simp [mgfork, h]
theorem mgfork_no {b want : Bool} {A B : Prop} (h : b = !want) : R (mgfork (.bool b) want A B) = R B := by subst h; cases want <;> simp [mgfork]
theorem mgfork_dec {p : Prop} [Decidable p] {A B : Prop} (h1 : p → R A) (h2 : ¬ p → R B) : R (mgfork (.bool (decide p)) true A B) := by
  simp only [R, mgfork, decide_eq_true_eq, Bool.not_true, decide_eq_false_iff_not]; exact ⟨h1, h2⟩
theorem mgfork_dec' {p : Prop} [Decidable p] {A B : Prop} (h1 : ¬ p → R A) (h2 : p → R B) : R (mgfork (.bool (decide p)) false A B) := by
  simp only [R, mgfork, decide_eq_true_eq, Bool.not_false, decide_eq_false_iff_not]; exact ⟨h1, h2⟩
theorem mgfork_dy {p : Prop} [Decidable p] {A B : Prop} (h : p) : R (mgfork (.bool (decide p)) true A B) = R A := by simp [mgfork, h]
theorem mgfork_dn {p : Prop} [Decidable p] {A B : Prop} (h : ¬ p) : R (mgfork (.bool (decide p)) true A B) = R B := by simp [mgfork, h]
theorem mgfork_ey {p : Prop} [Decidable p] {A B : Prop} (h : ¬ p) : R (mgfork (.bool (decide p)) false A B) = R A := by simp [mgfork, h]
theorem mgfork_en {p : Prop} [Decidable p] {A B : Prop} (h : p) : R (mgfork (.bool (decide p)) false A B) = R B := by simp [mgfork, h]

def gval (f : FR) : Option Tmp → MV
  | some t => f.get t
  | none => .junk

theorem mops_guard {l : List Oper} {dst : Option Tmp} {op : Op} {ty : TypeId} {pos : String} {after : Array Edge} {j : Nat} {want : Bool} : R (mops P (@OfNat.ofNat (Array Oper) (nat_lit 0) (@_root_.id (OfNat (Array Oper) (nat_lit 0)) (OfNat.mk (l.toArray)))) K (⟨dst, op, ty, pos, after, some (j, want)⟩ :: rest) f σ) = R (mgfork (E (gval f (gdst (@OfNat.ofNat (List Oper) (nat_lit 0) (@_root_.id (OfNat (List Oper) (nat_lit 0)) (OfNat.mk l))) j))) want (mstep P f σ dst (mops P (@OfNat.ofNat (Array Oper) (nat_lit 0) (@_root_.id (OfNat (Array Oper) (nat_lit 0)) (OfNat.mk (l.toArray)))) K (@OfNat.ofNat (List Oper) (nat_lit 0) (@_root_.id (OfNat (List Oper) (nat_lit 0)) (OfNat.mk rest)))) op) (mops P (@OfNat.ofNat (Array Oper) (nat_lit 0) (@_root_.id (OfNat (Array Oper) (nat_lit 0)) (OfNat.mk (l.toArray)))) K (@OfNat.ofNat (List Oper) (nat_lit 0) (@_root_.id (OfNat (List Oper) (nat_lit 0)) (OfNat.mk rest))) (mput f dst .junk) σ)) := congrArg R (by
  show mops P l.toArray K (⟨dst, op, ty, pos, after, some (j, want)⟩ :: rest) f σ = mgfork (gval f (gdst l j)) want (mstep P f σ dst (mops P l.toArray K rest) op) (mops P l.toArray K rest (mput f dst .junk) σ)
  simp only [mops, mguard, gdst_eq]
  cases gdst l j <;> rfl)

theorem gval_some {t : Tmp} : gval f (some t) = f.get t := rfl
theorem gdst_show {l : List Oper} {j : Nat} : gdst (@OfNat.ofNat (List Oper) (nat_lit 0) (@_root_.id (OfNat (List Oper) (nat_lit 0)) (OfNat.mk l))) j = gdst l j := rfl
theorem gdst_zero {o : Oper} {r : List Oper} : gdst (o :: r) 0 = o.dst := rfl
theorem gdst_succ {o : Oper} {r : List Oper} {n : Nat} : gdst (o :: r) (n + 1) = gdst r n := rfl

theorem mput_some {n : Nat} {l : List (Nat × MV)} {d : Nat} {v : MV} {ds : List (FuncId × List MV)} (h : d < n) : mput ⟨n, l, ds⟩ (some d) v = ⟨n, (d, v) :: l, ds⟩ := by simp [mput, h]
theorem mput_none {v : MV} : mput f none v = f := rfl
theorem get_mk {n : Nat} {l : List (Nat × MV)} {t : Nat} {ds : List (FuncId × List MV)} : FR.get ⟨n, l, ds⟩ t = lget l t := rfl
theorem lget_nil {t : Nat} : lget [] t = .junk := rfl
theorem lget_hit {k : Nat} {v : MV} {r : List (Nat × MV)} : lget ((k, v) :: r) k = v := by simp [lget]
theorem lget_miss {k : Nat} {v : MV} {r : List (Nat × MV)} {t : Nat} (h : t ≠ k) : lget ((k, v) :: r) t = lget r t := by simp [lget, h]

theorem mval_tmp {n : Nat} {l : List (Nat × MV)} {t : Nat} {ds : List (FuncId × List MV)} : mval ⟨n, l, ds⟩ (.tmp t) = lget l t := rfl
theorem mval_const {v : Value} : mval f (.const v) = ofV v := rfl
theorem mval_func {g : FuncId} : mval f (.func g) = .fn (.func g) [] [] := rfl

theorem ofV_bool {b : Bool} : ofV (.bool b) = .bool b := rfl
theorem ofV_int {i : IntKind} {n : Int} : ofV (.int i n) = .int i n := rfl
theorem ofV_str {s : ByteArray} : ofV (.string s) = .str s := rfl
theorem ofV_nilp : ofV (.pointer none) = .nilp := rfl
theorem ofV_nils : ofV (.slice none 0 0) = .nils := rfl
theorem ofV_nilm : ofV (.map none) = .nilm := rfl
theorem ofV_nilfn : ofV .nilFunc = .nilfn := rfl
theorem ofV_nili : ofV .nilIface = .nili := rfl


/-- A value that is looked at before the walk goes on. -/
def mcallE (P : Program) (g : FuncId) (ms : List MV) (σ : St) (Q : MV → St → Prop) : Prop := MCalls P g ms σ Q

def mcallv (P : Program) (x : MV) (args : List MV) (σ : St) (k : MV → St → Prop) : Prop :=
  match x with
  | .fn (.func g) ms ns => MCalls P g (ms ++ args ++ ns) σ k
  | _ => False
theorem mcallv_fn {g : FuncId} {ms ns args : List MV} : R (mcallv P (.fn (.func g) ms ns) args σ k) = R (mcallE P g (E (ms ++ args ++ ns)) σ k) := rfl

def mlet (v : MV) (σ : St) (k : MV → St → Prop) : Prop := k v σ
theorem mlet_go {v : MV} : R (mlet v σ k) = R (k v σ) := rfl

theorem owes_true {A : Prop} : R (owes True A) = R (A) := congrArg R (by simp [owes])
theorem owes_go {C A : Prop} (h : C) : R (owes C A) = R A := by simp [owes, h]

theorem mpure_some {C : Prop} {v : MV} : R (mpure σ k (some (C, v))) = R (owes (E C) (mlet (E v) σ k)) := rfl


/-! ### Reads and writes -/
def mloadAt (P : Program) (t : TypeId) (o : Option MObj) (i of : Nat) (σ : St) (k : MV → St → Prop) : Prop :=
  match o with
  | some (.row _ _ xs) => owes ((td P t).ok = true ∧ i < xs.length ∧ of + (td P t).size ≤ (xs.getD i []).length ∧ 0 < (td P t).size) (mlet (mpart (td P t) (xs.getD i []) of) σ k)
  | _ => False
theorem mload_ptr {t : TypeId} {l i o : Nat} : R (mload P t (.ptr l i o) σ k) = R (mloadAt P t (E (σ l)) i o σ k) := rfl
theorem mload_cptr {t : TypeId} {cs : List MV} : R (mload P t (.cptr cs) σ k) = R (owes (E ((td P t).ok = true ∧ (td P t).size ≤ cs.length ∧ 0 < (td P t).size)) (mlet (E (mpart (td P t) cs 0)) σ k)) := rfl
theorem mloadAt_row {t tt : TypeId} {e i o : Nat} {xs : List (List MV)} : R (mloadAt P t (some (.row tt e xs)) i o σ k) = R (owes (E ((td P t).ok = true ∧ i < xs.length ∧ o + (td P t).size ≤ (xs.getD i []).length ∧ 0 < (td P t).size)) (mlet (E (mpart (td P t) (xs.getD i []) o)) σ k)) := rfl

def mstoreAt (P : Program) (t : TypeId) (o : Option MObj) (l i of : Nat) (y : MV) (σ : St) (k : MV → St → Prop) : Prop :=
  match o with
  | some (.row tt e xs) => owes ((td P t).ok = true ∧ i < xs.length ∧ y.cells.all MV.isCell = true ∧ y.cells.length = (td P t).size ∧ of + y.cells.length ≤ (xs.getD i []).length) (mlet .junk (σ.set l (.row tt e (xs.set i (laid (xs.getD i []) of y.cells)))) k)
  | _ => False
theorem mstore_ptr {t : TypeId} {l i o : Nat} {y : MV} : R (mstore P t (.ptr l i o) y σ k) = R (mstoreAt P t (E (σ l)) l i o y σ k) := rfl
theorem mstoreAt_row {t tt : TypeId} {e l i o : Nat} {y : MV} {xs : List (List MV)} : R (mstoreAt P t (some (.row tt e xs)) l i o y σ k) = R (owes (E ((td P t).ok = true ∧ i < xs.length ∧ y.cells.all MV.isCell = true ∧ y.cells.length = (td P t).size ∧ o + y.cells.length ≤ (xs.getD i []).length)) (mlet (E .junk) (σ.set l (.row tt e (xs.set i (laid (xs.getD i []) o y.cells)))) k)) := rfl

theorem set_apply (σ : St) (l k : Nat) (o : MObj) : (σ.set l o) k = if k = l then some o else σ k := rfl
theorem del_apply (σ : St) (l k : Nat) : (σ.del l) k = if k = l then none else σ k := rfl
theorem none_apply (k : Nat) : St.none k = Option.none := rfl
theorem set_set (σ : St) (l : Nat) (o o' : MObj) : (σ.set l o).set l o' = σ.set l o' := by
  funext k; simp only [St.set]; split <;> rfl
theorem set_comm (σ : St) {l k : Nat} (o o' : MObj) (h : l ≠ k) : (σ.set l o).set k o' = (σ.set k o').set l o := by
  funext j; simp only [St.set]
  by_cases h1 : j = k
  · subst h1; simp [Ne.symm h]
  · simp [h1]
theorem del_set (σ : St) (l : Nat) (o : MObj) (h : σ l = none) : (σ.set l o).del l = σ := by
  funext k; simp only [St.set, St.del]; split
  · rename_i hk; rw [hk, h]
  · rfl
theorem del_set_other (σ : St) {l k : Nat} (o : MObj) (h : k ≠ l) : (σ.set k o).del l = (σ.del l).set k o := by
  funext j; simp only [St.set, St.del]
  by_cases h1 : j = l
  · subst h1; simp [Ne.symm h]
  · simp [h1]
theorem set_hit (σ : St) (l : Nat) (o : MObj) : (σ.set l o) l = some o := by simp [St.set]
theorem set_miss (σ : St) (l k : Nat) (o : MObj) (h : k ≠ l) : (σ.set l o) k = σ k := by simp [St.set, h]
theorem del_miss (σ : St) (l k : Nat) (h : k ≠ l) : (σ.del l) k = σ k := by simp [St.del, h]
theorem set_none (σ : St) (l k : Nat) (o : MObj) : (σ.set l o) k = none ↔ k ≠ l ∧ σ k = none := by
  simp only [St.set]; split <;> simp_all

/-! ### Operations -/
theorem mop_move {x : Operand} : R (mop P f σ k (.move x)) = R (mlet (E (mval f x)) σ k) := congrArg R (by simp [mop, qop, mpure, mlet, E])
theorem mop_assign {x : Operand} : R (mop P f σ k (.assign x)) = R (mlet (E (mval f x)) σ k) := congrArg R (by simp [mop, qop, mpure, mlet, E])

def qpick (c a b : MV) : PV := match c with
  | .bool t => some (True, if t = true then a else b)
  | _ => none
theorem mop_pick {c a b : Operand} : R (mop P f σ k (.pick c a b)) = R (mpure σ k (E (qpick (mval f c) (mval f a) (mval f b)))) := rfl
theorem qpick_bool {t : Bool} {a b : MV} : qpick (.bool t) a b = some (True, if t = true then a else b) := rfl
theorem qpick_y {p : Prop} [Decidable p] {a b : MV} (h : p) : qpick (.bool (decide p)) a b = some (True, a) := by simp [qpick, h]
theorem qpick_n {p : Prop} [Decidable p] {a b : MV} (h : ¬ p) : qpick (.bool (decide p)) a b = some (True, b) := by simp [qpick, h]
theorem qpick_t {a b : MV} : qpick (.bool true) a b = some (True, a) := rfl
theorem qpick_f {a b : MV} : qpick (.bool false) a b = some (True, b) := rfl
theorem not_dec {p : Prop} [Decidable p] : (!decide p) = decide (¬ p) := by simp
theorem mfork_nn {p : Prop} [Decidable p] {A B : Prop} (h : p) : R (mfork (.bool (decide (¬ p))) A B) = R B := by simp [mfork, h]
theorem ite_mbool (c : Prop) [Decidable c] (x y : Bool) : (if c then MV.bool x else MV.bool y) = MV.bool (if c then x else y) := by split <;> rfl

def qnil (x : MV) : PV := match x with
  | .ptr l i o => some (True, .ptr l i o)
  | .cptr cs => some (True, .cptr cs)
  | _ => none
theorem mop_nilCheck {x : Operand} : R (mop P f σ k (.nilCheck x)) = R (mpure σ k (E (qnil (mval f x)))) := rfl
theorem qnil_ptr {l i o : Nat} : qnil (.ptr l i o) = some (True, .ptr l i o) := rfl
theorem qnil_cptr {cs : List MV} : qnil (.cptr cs) = some (True, .cptr cs) := rfl

theorem mop_binOp {op : BinOp} {t yt : TypeId} {x y : Operand} : R (mop P f σ k (.binOp op t x y yt)) = R (mpure σ k (E (mbin P t op (mval f x) (mval f y)))) := rfl
theorem mop_unOp {op : UnOp} {t : TypeId} {x : Operand} : R (mop P f σ k (.unOp op t x)) = R (mpure σ k (E (mun op (mval f x)))) := rfl
theorem mop_convert {s d : TypeId} {x : Operand} : R (mop P f σ k (.convert s d x)) = R (mconvert P s d (E (mval f x)) σ k) := rfl
theorem mop_makeFunc {fn : Fn} {a b : Array Operand} : R (mop P f σ k (.makeFunc fn a b)) = R (mlet (E (.fn fn (a.toList.map (mval f)) (b.toList.map (mval f)))) σ k) := congrArg R (by simp [mop, qop, mpure, mlet, E])
theorem mop_slice {t : TypeId} {x : Operand} {lo hi mx : Option Operand} : R (mop P f σ k (.slice t x lo hi mx)) = R (mpure σ k (E (mslice P t (mval f x) (lo.map (mval f)) (hi.map (mval f)) (mx.map (mval f))))) := rfl
theorem mop_fieldAddr {t : TypeId} {x : Operand} {i : Nat} : R (mop P f σ k (.fieldAddr t x i)) = R (mpure σ k (E (mfieldAddr P t (mval f x) i))) := rfl
theorem mop_field {t : TypeId} {x : Operand} {i : Nat} : R (mop P f σ k (.field t x i)) = R (mpure σ k (E (mfield P t (mval f x) i))) := rfl
theorem mop_indexAddr {t : TypeId} {x i : Operand} : R (mop P f σ k (.indexAddr t x i)) = R (mpure σ k (E (mindexAddr P t (mval f x) (mval f i)))) := rfl
theorem mop_index {t : TypeId} {x i : Operand} : R (mop P f σ k (.index t x i)) = R (mpure σ k (E (mindex P t (mval f x) (mval f i)))) := rfl
def qextract (x : MV) (i : Nat) : PV := match x with
  | .tup vs => match vs[i]? with | some v => some (True, v) | none => none
  | _ => none
theorem mop_extract {x : Operand} {i : Nat} : R (mop P f σ k (.extract x i)) = R (mpure σ k (E (qextract (mval f x) i))) := rfl
theorem qextract_tup {vs : List MV} {i : Nat} : qextract (.tup vs) i = (vs[i]?).map fun v => (True, v) := by simp only [qextract]; cases vs[i]? <;> rfl
theorem mop_build {t : TypeId} {parts : Array (Nat × Operand)} : R (mop P f σ k (.build t parts)) = R (mpure σ k (E (mbuild P f t parts))) := rfl
theorem mop_load {t : TypeId} {x : Operand} : R (mop P f σ k (.load t x)) = R (mload P t (E (mval f x)) σ k) := rfl
theorem mop_store {t : TypeId} {x y : Operand} : R (mop P f σ k (.store t x y)) = R (mstore P t (E (mval f x)) (E (mval f y)) σ k) := rfl
theorem mop_alloc {t : TypeId} : R (mop P f σ k (.alloc t)) = R (owes (E ((td P t).zok = true)) (mnew (E σ) (fun l => mlet (E (.ptr l 0 0)) (σ.set l (.row t (td P t).size [(td P t).zero])) k))) := rfl
def mbox (t : TypeId) (x : MV) (σ : St) (k : MV → St → Prop) : Prop := x.cells.all MV.isCell = true ∧ ∀ l, σ l = none → k (.ptr l 0 0) (σ.set l (.row t x.cells.length [x.cells]))
theorem mop_box {t : TypeId} {x : Operand} : R (mop P f σ k (.box t x)) = R (mbox t (E (mval f x)) σ k) := rfl
theorem mbox_go {t : TypeId} {x : MV} : R (mbox t x σ k) = R (owes (E (x.cells.all MV.isCell = true)) (mnew (E σ) (fun l => mlet (E (.ptr l 0 0)) (σ.set l (.row t x.cells.length [x.cells])) k))) := rfl
theorem mop_buildSlice {t : TypeId} {n : Nat} {parts : Array (Nat × Operand)} : R (mop P f σ k (.buildSlice t n parts)) = R (mbuildSlice P f t n parts σ k) := rfl
def mbs (P : Program) (d : TK) (len : Nat) (parts : List (Nat × MV)) (σ : St) (k : MV → St → Prop) : Prop :=
  match d with
  | .slice el => owes ((td P el).zok = true ∧ parts.map (·.1) = List.range len ∧ (parts.all fun p => p.2.cells.all MV.isCell && p.2.cells.length == (td P el).size) = true ∧ len * (td P el).size ≤ 16777216 ∧ len ≤ 16777216)
      (mnew σ fun l => mlet (.vec (td P el).size l 0 len) (σ.set l (.row el (td P el).size (parts.map fun p => p.2.cells))) k)
  | _ => False
theorem mbuildSlice_eq {t : TypeId} {n : Nat} {parts : Array (Nat × Operand)} : R (mbuildSlice P f t n parts σ k) = R (mbs P (E (td P t).k) n (E (parts.toList.map fun p => (p.1, mval f p.2))) σ k) := congrArg R (by
  unfold mbuildSlice mbs owes mnew mlet E
  cases (td P t).k <;> first | rfl | (simp only [List.map_map, List.all_map]; rfl))
theorem mbs_slice {el : TypeId} {len : Nat} {parts : List (Nat × MV)} : R (mbs P (.slice el) len parts σ k) = R (owes (E ((td P el).zok = true ∧ parts.map (·.1) = List.range len ∧ (parts.all fun p => p.2.cells.all MV.isCell && p.2.cells.length == (td P el).size) = true ∧ len * (td P el).size ≤ 16777216 ∧ len ≤ 16777216))
      (mnew (E σ) (fun l => mlet (E (.vec (td P el).size l 0 len)) (σ.set l (.row el (td P el).size (parts.map fun p => p.2.cells))) k))) := rfl
theorem mop_makeSlice {t : TypeId} {x y : Operand} : R (mop P f σ k (.makeSlice t x y)) = R (mmakeSlice P t (E (mval f x)) (E (mval f y)) σ k) := rfl
theorem mmakeSlice_go {t el : TypeId} {n c : Int} (h : (td P t).k = .slice el) : R (mmakeSlice P t (.int .i64 n) (.int .i64 c) σ k) = R (owes (E ((td P el).zok = true ∧ 0 ≤ n ∧ n ≤ c ∧ Fits c.toNat (td P el).bytes)) (mnew (E σ) (fun l => mlet (E (.vec (td P el).size l 0 n.toNat)) (σ.set l (.row el (td P el).size (List.replicate n.toNat (td P el).zero))) k))) := congrArg R (by
  simp only [mmakeSlice, h]; rfl)

theorem mop_call {x : Operand} {args : Array Operand} {ts : Array TypeId} : R (mop P f σ k (.call ⟨.value x, args, ts⟩)) = R (mcallv P (E (mval f x)) (E (args.toList.map (mval f))) σ k) := rfl
theorem mop_builtin {b : Builtin} {args : Array Operand} {ts : Array TypeId} : R (mop P f σ k (.call ⟨.builtin b, args, ts⟩)) = R (mbcall P f b args.toList ts.toList σ k) := rfl

def mvs (P : Program) (t : TypeId) (x lo hi : MV) (σ : St) (k : MV → St → Prop) : Prop := if beyond x hi then mvslice P t x lo hi (locOf σ x) σ k else mpure σ k (mslice P t x (some lo) (some hi) none)
theorem mstep_slice {dst : Option Tmp} {t : TypeId} {x y z : Operand} : R (mstep P f σ dst K (.slice t x (some y) (some z) none)) = R (mvs P t (E (mval f x)) (E (mval f y)) (E (mval f z)) σ (fun v σ' => K (mput f dst v) σ')) := rfl
theorem mvs_beyond {t : TypeId} {e l l0 n : Nat} {lo : MV} {i : IntKind} {h : Int} (hb : (n : Int) < h) : R (mvs P t (.vec e l l0 n) lo (.int i h) σ k) = R (mvslice P t (.vec e l l0 n) lo (.int i h) (E (σ l)) σ k) := by
  apply congrArg R; unfold mvs; rw [if_pos (show beyond (.vec e l l0 n) (.int i h) from hb)]; rfl
theorem mvs_within {t : TypeId} {e l l0 n : Nat} {lo : MV} {i : IntKind} {h : Int} (hb : h ≤ (n : Int)) : R (mvs P t (.vec e l l0 n) lo (.int i h) σ k) = R (mpure σ k (E (mslice P t (.vec e l l0 n) (some lo) (some (.int i h)) none))) := by
  apply congrArg R; unfold mvs; rw [if_neg (show ¬ beyond (.vec e l l0 n) (.int i h) by simp only [beyond]; omega)]; rfl
theorem mvs_lst {t : TypeId} {e : Nat} {xs : List (List MV)} {tt : Bool} {lo hi : MV} : R (mvs P t (.lst e xs tt) lo hi σ k) = R (mpure σ k (E (mslice P t (.lst e xs tt) (some lo) (some hi) none))) := by
  apply congrArg R; unfold mvs; rw [if_neg (show ¬ beyond (.lst e xs tt) hi by simp [beyond])]; rfl
theorem mvs_str {t : TypeId} {s : ByteArray} {lo hi : MV} : R (mvs P t (.str s) lo hi σ k) = R (mpure σ k (E (mslice P t (.str s) (some lo) (some hi) none))) := by
  apply congrArg R; unfold mvs; rw [if_neg (show ¬ beyond (.str s) hi by simp [beyond])]; rfl
def mvsl (P : Program) (d : TK) (e l l0 : Nat) (a h : Int) (e' : Nat) (xs : List (List MV)) (σ : St) (k : MV → St → Prop) : Prop := match d with
  | .slice el => owes ((td P el).ok = true ∧ e = (td P el).size ∧ e' = (td P el).size ∧ 0 ≤ a ∧ a ≤ h ∧ l0 + h.toNat ≤ xs.length) (mlet (.vec e l (l0 + a.toNat) (h.toNat - a.toNat)) σ k)
  | _ => False
theorem mvslice_row {t tt : TypeId} {e l l0 n : Nat} {i j : IntKind} {a h : Int} {e' : Nat} {xs : List (List MV)} : R (mvslice P t (.vec e l l0 n) (.int i a) (.int j h) (some (.row tt e' xs)) σ k) = R (mvsl P (E (td P t).k) e l l0 a h e' xs σ k) := by
  apply congrArg R; unfold mvslice mvsl E; cases (td P t).k <;> rfl
theorem mvsl_slice {el : TypeId} {e l l0 : Nat} {a h : Int} {e' : Nat} {xs : List (List MV)} : R (mvsl P (.slice el) e l l0 a h e' xs σ k) = R (owes (E ((td P el).ok = true ∧ e = (td P el).size ∧ e' = (td P el).size ∧ 0 ≤ a ∧ a ≤ h ∧ l0 + h.toNat ≤ xs.length)) (mlet (E (.vec e l (l0 + a.toNat) (h.toNat - a.toNat))) σ k)) := rfl
def mclr (P : Program) (t : TypeId) (x : MV) (σ : St) (k : MV → St → Prop) : Prop := mclear P t x (locOf σ x) σ k
theorem mstep_clear {dst : Option Tmp} {x : Operand} {t : TypeId} : R (mstep P f σ dst K (.call ⟨.builtin .clear, #[x], #[t]⟩)) = R (mclr P t (E (mval f x)) σ (fun v σ' => K (mput f dst v) σ')) := rfl
theorem mstep_append {dst : Option Tmp} {s x : Operand} {t xt : TypeId} : R (mstep P f σ dst K (.call ⟨.builtin .append, #[s, x], #[t, xt]⟩)) = R (mone (E (td P xt).k.isInt) (mzapp P t (mval f s) (mval f x) σ (fun v σ' => K (mput f dst v) σ')) (mop P f σ (fun v σ' => K (mput f dst v) σ') (.call ⟨.builtin .append, #[s, x], #[t, xt]⟩))) := rfl
theorem mone_t {A B : Prop} : R (mone true A B) = R A := rfl
theorem mone_f {A B : Prop} : R (mone false A B) = R B := rfl
def mzap (P : Program) (d : TK) (s x : MV) (σ : St) (k : MV → St → Prop) : Prop :=
  match d, s, x with
  | .slice el, .nils, .int .i64 n => ((td P el).zok = true ∧ 0 < (td P el).size ∧ 0 < n ∧ Fits n.toNat (td P el).bytes) ∧ ∀ l, σ l = none → k (.vec (td P el).size l 0 n.toNat) (σ.set l (.row el (td P el).size (List.replicate n.toNat (td P el).zero)))
  | _, _, _ => False
theorem mzapp_go {t : TypeId} {s x : MV} : R (mzapp P t s x σ k) = R (mzap P (E (td P t).k) (E s) (E x) σ k) := rfl
theorem mzap_nil {el : TypeId} {n : Int} : R (mzap P (.slice el) .nils (.int .i64 n) σ k) = R (owes (E ((td P el).zok = true ∧ 0 < (td P el).size ∧ 0 < n ∧ Fits n.toNat (td P el).bytes)) (mnew (E σ) (fun l => mlet (E (.vec (td P el).size l 0 n.toNat)) (σ.set l (.row el (td P el).size (List.replicate n.toNat (td P el).zero))) k))) := rfl
theorem mclr_vec {t : TypeId} {e l l0 n : Nat} : R (mclr P t (.vec e l l0 n) σ k) = R (mclear P t (.vec e l l0 n) (E (σ l)) σ k) := rfl
def mclearK (P : Program) (d : TK) (e l l0 n : Nat) (tt : TypeId) (e' : Nat) (xs : List (List MV)) (σ : St) (k : MV → St → Prop) : Prop := match d with
  | .slice el => owes ((td P el).zok = true ∧ 0 < (td P el).size ∧ e = (td P el).size ∧ e' = (td P el).size ∧ l0 + n ≤ xs.length) (mlet .junk (σ.set l (.row tt e' (rowLaid xs l0 (List.replicate n (td P el).zero)))) k)
  | _ => False
theorem mclear_row {t tt : TypeId} {e l l0 n e' : Nat} {xs : List (List MV)} : R (mclear P t (.vec e l l0 n) (some (.row tt e' xs)) σ k) = R (mclearK P (E (td P t).k) e l l0 n tt e' xs σ k) := by
  apply congrArg R; unfold mclear mclearK E; cases (td P t).k <;> rfl
theorem mclearK_slice {el tt : TypeId} {e l l0 n e' : Nat} {xs : List (List MV)} : R (mclearK P (.slice el) e l l0 n tt e' xs σ k) = R (owes (E ((td P el).zok = true ∧ 0 < (td P el).size ∧ e = (td P el).size ∧ e' = (td P el).size ∧ l0 + n ≤ xs.length)) (mlet (E .junk) (σ.set l (.row tt e' (rowLaid xs l0 (List.replicate n (td P el).zero)))) k)) := rfl

end
end Go.Proofs.Ytielcgplbnlgbaa
