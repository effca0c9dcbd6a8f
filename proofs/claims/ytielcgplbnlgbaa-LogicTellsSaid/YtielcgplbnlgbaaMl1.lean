/- The values, the store and the triples of a small program logic over the kit's Calls and Code.wp. -/
import Derived.WalkKit
import Derived.Orders
import Derived.Deep.Quiet
import Derived.ChangeKeysEq
set_option linter.unusedVariables false
set_option linter.unusedSimpArgs false
namespace Go.Proofs.Ytielcgplbnlgbaa

/-- Values of the logic. -/
inductive MV where
  | junk
  | bool (b : Bool)
  | int (k : IntKind) (n : Int)
  | str (s : ByteArray)
  | nilp
  | ptr (l i o : Nat)
  | cptr (cs : List MV)
  | nils
  | lst (e : Nat) (xs : List (List MV)) (t : Bool)
  | vec (e l lo n : Nat)
  | nilm
  | mapv (l : Nat)
  | nilfn
  | fn (f : Fn) (first cap : List MV)
  | nili
  | iface (t : TypeId) (v : MV)
  | agg (cs : List MV)
  | tup (vs : List MV)
  deriving Inhabited

def MV.isCell : MV → Bool
  | .junk | .agg _ | .tup _ => false
  | _ => true

def MV.cells : MV → List MV
  | .agg cs => cs
  | v => [v]

inductive MObj where
  | row (t : TypeId) (e : Nat) (xs : List (List MV))
  | mp (es : List (MV × MV))

/-- Where an object of the store lies: block, first cell, cells of an element, room in elements. -/
structure Place where
  blk : Option Nat
  bo : Nat
  e : Nat
  C : Nat

structure Phi where
  snap : Addr → Option Value
  obj : Nat → Option Place

structure Phi.le (Φ Φ' : Phi) : Prop where
  snap : ∀ a v, Φ.snap a = some v → Φ'.snap a = some v
  obj : ∀ l p, Φ.obj l = some p → Φ'.obj l = some p

theorem Phi.le.refl (Φ : Phi) : Φ.le Φ := ⟨fun _ _ h => h, fun _ _ h => h⟩
theorem Phi.le.trans {a b c : Phi} (h : a.le b) (k : b.le c) : a.le c := ⟨fun x v q => k.snap x v (h.snap x v q), fun x v q => k.obj x v (h.obj x v q)⟩

/-- A value of the model is this one of the logic. -/
inductive Rel (Φ : Phi) : Value → MV → Prop where
  | junk (v : Value) : Rel Φ v .junk
  | bool (b : Bool) : Rel Φ (.bool b) (.bool b)
  | int (k : IntKind) (n : Int) : Rel Φ (.int k n) (.int k n)
  | str (s : ByteArray) : Rel Φ (.string s) (.str s)
  | nilp : Rel Φ (.pointer none) .nilp
  | ptr {l i o R : Nat} {p : Place} (ho : Φ.obj l = some p) (hb : p.blk = some R) : Rel Φ (.pointer (some ⟨R, p.bo + i * p.e + o, none⟩)) (.ptr l i o)
  | cptr {b off : Nat} {cs : List MV} (vs : Nat → Value) (hc : ∀ (j : Nat) (m : MV), cs[j]? = some m → m.isCell = true ∧ Φ.snap ⟨b, off + j, none⟩ = some (vs j))
      (hr : ∀ (j : Nat) (m : MV), cs[j]? = some m → Rel Φ (vs j) m) : Rel Φ (.pointer (some ⟨b, off, none⟩)) (.cptr cs)
  | nils : Rel Φ (.slice none 0 0) .nils
  | lstn (e : Nat) (t : Bool) : Rel Φ (.slice none 0 0) (.lst e [] t)
  | lst0 (a : Addr) (e cap : Nat) (t : Bool) (ht : t = true → cap = 0) (hm : cap ≤ maxLen) : Rel Φ (.slice (some a) 0 cap) (.lst e [] t)
  | lst {b off e len cap : Nat} {xs : List (List MV)} {t : Bool} (hl : xs.length = len) (h0 : 0 < len) (hcap : len ≤ cap) (hm : cap ≤ maxLen) (ht : t = true → cap = len)
      (hx : ∀ (i : Nat) (x : List MV), xs[i]? = some x → x.length = e) (vs : Nat → Nat → Value)
      (hc : ∀ (i : Nat) (x : List MV) (j : Nat) (m : MV), xs[i]? = some x → x[j]? = some m → m.isCell = true ∧ Φ.snap ⟨b, off + (i * e + j), none⟩ = some (vs i j))
      (hr : ∀ (i : Nat) (x : List MV) (j : Nat) (m : MV), xs[i]? = some x → x[j]? = some m → Rel Φ (vs i j) m) : Rel Φ (.slice (some ⟨b, off, none⟩) len cap) (.lst e xs t)
  | vec {l lo n cap R : Nat} {p : Place} (ho : Φ.obj l = some p) (hb : p.blk = some R) (hcap : lo + cap = p.C) (hn : n ≤ cap) : Rel Φ (.slice (some ⟨R, p.bo + lo * p.e, none⟩) n cap) (.vec p.e l lo n)
  | vec0 {l lo : Nat} {p : Place} (a : Addr) (ho : Φ.obj l = some p) (hC : lo = p.C) : Rel Φ (.slice (some a) 0 0) (.vec p.e l lo 0)
  | vecn {l : Nat} {p : Place} (ho : Φ.obj l = some p) (hb : p.blk = none) (hC : p.C = 0) : Rel Φ (.slice none 0 0) (.vec p.e l 0 0)
  | nilm : Rel Φ (.map none) .nilm
  | mapv {l R : Nat} {p : Place} (ho : Φ.obj l = some p) (hb : p.blk = some R) : Rel Φ (.map (some R)) (.mapv l)
  | nilfn : Rel Φ .nilFunc .nilfn
  | fn (f : Fn) {first cap : Array Value} {ms ns : List MV} (h1 : first.size = ms.length) (h2 : cap.size = ns.length)
      (r1 : ∀ (i : Nat) m, ms[i]? = some m → Rel Φ (first.getD i undef) m) (r2 : ∀ (i : Nat) m, ns[i]? = some m → Rel Φ (cap.getD i undef) m) : Rel Φ (.func f first cap) (.fn f ms ns)
  | nili : Rel Φ .nilIface .nili
  | iface (t : TypeId) {v : Value} {m : MV} (h : Rel Φ v m) : Rel Φ (.iface t v) (.iface t m)
  | agg {cs : Array Value} {ms : List MV} (h : cs.size = ms.length) (hc : ∀ (i : Nat) m, ms[i]? = some m → m.isCell = true) (r : ∀ (i : Nat) m, ms[i]? = some m → Rel Φ (cs.getD i undef) m) : Rel Φ (.agg cs) (.agg ms)
  | tup {cs : Array Value} {ms : List MV} (h : cs.size = ms.length) (r : ∀ (i : Nat) m, ms[i]? = some m → Rel Φ (cs.getD i undef) m) : Rel Φ (.tuple cs) (.tup ms)

theorem Rel.mono {Φ Φ' : Phi} (hle : Φ.le Φ') {v : Value} {m : MV} (h : Rel Φ v m) : Rel Φ' v m := by
  induction h with
  | junk v => exact .junk v
  | bool b => exact .bool b
  | int k n => exact .int k n
  | str s => exact .str s
  | nilp => exact .nilp
  | ptr ho hb => exact .ptr (hle.obj _ _ ho) hb
  | cptr vs hc hr ih => exact .cptr vs (fun j m hm => ⟨(hc j m hm).1, hle.snap _ _ (hc j m hm).2⟩) ih
  | nils => exact .nils
  | lstn e t => exact .lstn e t
  | lst0 a e cap t ht hm => exact .lst0 a e cap t ht hm
  | lst hl h0 hcap hm ht hx vs hc hr ih => exact .lst hl h0 hcap hm ht hx vs (fun i x j m a b => ⟨(hc i x j m a b).1, hle.snap _ _ (hc i x j m a b).2⟩) ih
  | vec ho hb hcap hn => exact .vec (hle.obj _ _ ho) hb hcap hn
  | vec0 a ho hC => exact .vec0 a (hle.obj _ _ ho) hC
  | vecn ho hb hC => exact .vecn (hle.obj _ _ ho) hb hC
  | nilm => exact .nilm
  | mapv ho hb => exact .mapv (hle.obj _ _ ho) hb
  | nilfn => exact .nilfn
  | fn f h1 h2 _ _ r1 r2 => exact .fn f h1 h2 r1 r2
  | nili => exact .nili
  | iface t _ ih => exact .iface t ih
  | agg h hc _ ih => exact .agg h hc ih
  | tup h _ ih => exact .tup h ih

theorem Rel.oneCell {Φ : Phi} {v : Value} {m : MV} (h : Rel Φ v m) (hm : m.isCell = true) : v.oneCell' = true := by
  cases h <;> first | rfl | (simp [MV.isCell] at hm)

/-- Many values at once. -/
def Rels (Φ : Phi) (vs : Array Value) (ms : List MV) : Prop := vs.size = ms.length ∧ ∀ (i : Nat) m, ms[i]? = some m → Rel Φ (vs.getD i undef) m

theorem Rels.mono {Φ Φ' : Phi} (hle : Φ.le Φ') {vs : Array Value} {ms : List MV} (h : Rels Φ vs ms) : Rels Φ' vs ms := ⟨h.1, fun i m hm => (h.2 i m hm).mono hle⟩

/-- The slots of a function that are known: how many there are, and what the known ones hold, the newest first; the calls that wait for its end. -/
structure FR where
  n : Nat
  l : List (Nat × MV)
  d : List (FuncId × List MV)

def lget : List (Nat × MV) → Nat → MV
  | [], _ => .junk
  | (k, v) :: r, t => if t = k then v else lget r t

def FR.get (f : FR) (t : Nat) : MV := lget f.l t

def FRel (Φ : Phi) (tmps : Array Value) (f : FR) : Prop := tmps.size = f.n ∧ ∀ t, Rel Φ (tmps.getD t undef) (f.get t)

theorem FRel.mono {Φ Φ' : Phi} (hle : Φ.le Φ') {vs : Array Value} {f : FR} (h : FRel Φ vs f) : FRel Φ' vs f := ⟨h.1, fun t => (h.2 t).mono hle⟩

/-- The calls that wait for a function's end. -/
def DRel (Φ : Phi) : List Deferred → List (FuncId × List MV) → Prop
  | [], [] => True
  | x :: xs, (g, ms) :: r => (∃ cap, x.target = .fn (.func g) cap ∧ Rels Φ (x.args ++ cap) ms) ∧ DRel Φ xs r
  | _, _ => False

theorem DRel.mono {Φ Φ' : Phi} (hle : Φ.le Φ') : ∀ {ds : List Deferred} {d : List (FuncId × List MV)}, DRel Φ ds d → DRel Φ' ds d
  | [], [], _ => trivial
  | _ :: _, _ :: _, ⟨⟨cap, h1, h2⟩, h3⟩ => ⟨⟨cap, h1, h2.mono hle⟩, h3.mono hle⟩
  | [], _ :: _, h => h.elim
  | _ :: _, [], h => h.elim

abbrev St := Nat → Option MObj

def St.set (σ : St) (l : Nat) (o : MObj) : St := fun k => if k = l then some o else σ k
def St.del (σ : St) (l : Nat) : St := fun k => if k = l then none else σ k
def St.none : St := fun _ => Option.none

theorem St.set_same (σ : St) (l : Nat) (o : MObj) : (σ.set l o) l = some o := by simp [St.set]
theorem St.set_other (σ : St) (l k : Nat) (o : MObj) (h : k ≠ l) : (σ.set l o) k = σ k := by simp [St.set, h]

/-- An object of the store lies in the model's memory. -/
def OwnOk (Φ : Phi) (w : World) (l : Nat) : MObj → Prop
  | .row t e xs => ∃ p, Φ.obj l = some p ∧ p.e = e ∧ xs.length ≤ p.C ∧ p.C ≤ maxLen ∧ (∀ (i : Nat) (x : List MV), xs[i]? = some x → x.length = e) ∧
      match p.blk with
      | Option.none => p.C = 0
      | some R => ∃ (c : Array Value) (fz : Nat × Nat), w.heap[R]? = some (.cells c t fz) ∧ (fz.2 ≤ fz.1 ∨ c.size ≤ fz.1) ∧ p.bo + p.C * e ≤ c.size ∧
          ∀ (i : Nat) (x : List MV) (j : Nat) (m : MV), xs[i]? = some x → x[j]? = some m → m.isCell = true ∧ ∃ v, c[p.bo + (i * e + j)]? = some v ∧ Rel Φ v m
  | .mp es => ∃ p R, Φ.obj l = some p ∧ p.blk = some R ∧ ∃ (c : Array MapEntry) (clock : Nat), w.heap[R]? = some (.map c clock) ∧ c.size = es.length ∧
      ∀ (i : Nat) (x : MV × MV), es[i]? = some x → Rel Φ (c.getD i default).key x.1 ∧ Rel Φ (c.getD i default).val x.2

structure Inv (Φ : Phi) (w : World) (σ : St) : Prop where
  own : ∀ l o, σ l = some o → OwnOk Φ w l o
  inj : ∀ l l' o o' p p' R, σ l = some o → σ l' = some o' → Φ.obj l = some p → Φ.obj l' = some p' → p.blk = some R → p'.blk = some R → l = l'
  snap : ∀ a v, Φ.snap a = some v → w.cell? a = some v
  apart : ∀ l o p R a v, σ l = some o → Φ.obj l = some p → p.blk = some R → Φ.snap a = some v → a.block ≠ R
  fresh : ∃ n, ∀ l, n ≤ l → Φ.obj l = Option.none

def Owned (Φ : Phi) (σ : St) (R : Nat) : Prop := ∃ l o p, σ l = some o ∧ Φ.obj l = some p ∧ p.blk = some R

structure Step (Φ : Phi) (σ : St) (w : World) (Φ' : Phi) (σ' : St) (w' : World) : Prop where
  le : Φ.le Φ'
  os : w'.os = w.os
  tape : w'.tape = w.tape
  output : w'.output = w.output
  drawn : w.drawn ≤ w'.drawn
  size : w.heap.size ≤ w'.heap.size
  block : ∀ k, k < w.heap.size → ¬ Owned Φ σ k → w'.heap[k]? = w.heap[k]?
  snapn : ∀ a v, Φ'.snap a = some v → Φ.snap a = some v ∨ w.heap.size ≤ a.block ∨ Owned Φ σ a.block
  locs : ∀ l o, σ' l = some o → (∃ o', σ l = some o') ∨ Φ.obj l = Option.none
  ownd : ∀ R, Owned Φ' σ' R → Owned Φ σ R ∨ w.heap.size ≤ R

theorem Step.refl (Φ : Phi) (σ : St) (w : World) : Step Φ σ w Φ σ w :=
  ⟨.refl Φ, rfl, rfl, rfl, Nat.le_refl _, Nat.le_refl _, fun _ _ _ => rfl, fun _ _ h => .inl h, fun l o h => .inl ⟨o, h⟩, fun _ h => .inl h⟩

theorem Step.trans {Φ Φ1 Φ2 : Phi} {σ σ1 σ2 : St} {w w1 w2 : World} (h : Step Φ σ w Φ1 σ1 w1) (k : Step Φ1 σ1 w1 Φ2 σ2 w2) : Step Φ σ w Φ2 σ2 w2 where
  le := h.le.trans k.le
  os := k.os.trans h.os
  tape := k.tape.trans h.tape
  output := k.output.trans h.output
  drawn := Nat.le_trans h.drawn k.drawn
  size := Nat.le_trans h.size k.size
  block := fun i hi hn => (k.block i (Nat.lt_of_lt_of_le hi h.size) (fun ho => (h.ownd i ho).elim hn (fun q => by omega))).trans (h.block i hi hn)
  snapn := fun a v hv => by
    rcases k.snapn a v hv with q | q | q
    · exact h.snapn a v q
    · exact .inr (.inl (Nat.le_trans h.size q))
    · rcases h.ownd _ q with q | q
      · exact .inr (.inr q)
      · exact .inr (.inl q)
  locs := fun l o hl => by
    rcases k.locs l o hl with ⟨o', q⟩ | q
    · exact h.locs l o' q
    · right
      cases hl : Φ.obj l with
      | none => rfl
      | some p => have := h.le.obj l p hl; simp [this] at q
  ownd := fun R hR => by
    rcases k.ownd R hR with q | q
    · exact h.ownd R q
    · exact .inr (Nat.le_trans h.size q)

/-- A function can be entered: it has a body. -/
def Enters (P : Program) (f : FuncId) : Prop := ∃ fn, P.funcs[f]? = some fn ∧ fn.body.isNone = false ∧ (fn.name == "runtime.NumGoroutine") = false

/-- A call, as the logic says it. -/
def MCalls (P : Program) (f : FuncId) (ms : List MV) (σ : St) (Q : MV → St → Prop) : Prop :=
  Enters P f ∧ ∀ Φ w vs, Inv Φ w σ → Rels Φ vs ms → Calls P f vs w fun e w' => ∃ v mv σ' Φ', e = .returned v ∧ Rel Φ' v mv ∧ Inv Φ' w' σ' ∧ Step Φ σ w Φ' σ' w' ∧ Q mv σ'

theorem MCalls.mono {P : Program} {f : FuncId} {ms : List MV} {σ : St} {Q Q' : MV → St → Prop} (h : MCalls P f ms σ Q) (hq : ∀ v σ', Q v σ' → Q' v σ') : MCalls P f ms σ Q' :=
  ⟨h.1, fun Φ w vs hi hr => (h.2 Φ w vs hi hr).mono fun _ _ ⟨v, mv, σ', Φ', a, b, c, d, q⟩ => ⟨v, mv, σ', Φ', a, b, c, d, hq _ _ q⟩⟩

abbrev MQ := Exit → FR → St → Prop

def lift (Φ : Phi) (σ : St) (w : World) (Q : MQ) : Exit → Act → World → Prop := fun e a' w' =>
  ∃ f' σ' Φ', DRel Φ' a'.defers f'.d ∧ FRel Φ' a'.tmps f' ∧ Inv Φ' w' σ' ∧ Step Φ σ w Φ' σ' w' ∧ Q e f' σ'

def mwp (P : Program) (c : Code) (f : FR) (σ : St) (Q : MQ) : Prop :=
  ∀ Φ w a, Inv Φ w σ → FRel Φ a.tmps f → DRel Φ a.defers f.d → c.wp P (lift Φ σ w Q) a w

section rules
variable {P : Program} {f : FR} {σ : St} {Q : MQ}

theorem mwp_mono {c : Code} {Q' : MQ} (h : mwp P c f σ Q) (hq : ∀ e f σ, Q e f σ → Q' e f σ) : mwp P c f σ Q' :=
  fun Φ w a hi hr hd => wp_mono (h Φ w a hi hr hd) fun _ _ _ ⟨f', σ', Φ', x1, x2, x3, x4, q⟩ => ⟨f', σ', Φ', x1, x2, x3, x4, hq _ _ _ q⟩

theorem lift_step {Φ Φ1 : Phi} {σ1 : St} {w w1 : World} {Q : MQ} (hs : Step Φ σ w Φ1 σ1 w1) {e : Exit} {a : Act} {w' : World} (h : lift Φ1 σ1 w1 Q e a w') : lift Φ σ w Q e a w' :=
  let ⟨f', σ', Φ', x1, x2, x3, x4, q⟩ := h
  ⟨f', σ', Φ', x1, x2, x3, hs.trans x4, q⟩

theorem mwp_skip (h : Q .normal f σ) : mwp P .skip f σ Q := fun Φ w a hi hr hd => wp_skip ⟨f, σ, Φ, hd, hr, hi, .refl _ _ _, h⟩
theorem mwp_ret (h : Q .ret f σ) : mwp P .ret f σ Q := fun Φ w a hi hr hd => wp_ret ⟨f, σ, Φ, hd, hr, hi, .refl _ _ _, h⟩
theorem mwp_exit {id : Nat} (h : Q (.exit id) f σ) : mwp P (.exit id) f σ Q := fun Φ w a hi hr hd => wp_exit ⟨f, σ, Φ, hd, hr, hi, .refl _ _ _, h⟩

/-- What holds behind a part of code, the next part in view. -/
def thenQ (next : FR → St → Prop) (Q : MQ) : MQ
  | .normal, f, σ => next f σ
  | e, f, σ => Q e f σ

theorem mwp_seq {x y : Code} (h : mwp P x f σ (thenQ (fun f' σ' => mwp P y f' σ' Q) Q)) : mwp P (.seq x y) f σ Q := by
  intro Φ w a hi hr hd
  refine wp_seq (wp_mono (h Φ w a hi hr hd) fun e a' w' ⟨f', σ', Φ', x1, x2, x3, x4, q⟩ => ?_)
  cases e with
  | normal => exact wp_mono (q Φ' w' a' x3 x2 x1) fun _ _ _ hq => lift_step x4 hq
  | _ => exact ⟨f', σ', Φ', x1, x2, x3, x4, q⟩

def blockQ (id : Nat) (Q : MQ) : MQ
  | .exit id', f, σ => if id' = id then Q .normal f σ else Q (.exit id') f σ
  | e, f, σ => Q e f σ

theorem mwp_block {id : Nat} {c : Code} (h : mwp P c f σ (blockQ id Q)) : mwp P (.block id c) f σ Q := by
  intro Φ w a hi hr hd
  refine wp_block (wp_mono (h Φ w a hi hr hd) fun e a' w' ⟨f', σ', Φ', x1, x2, x3, x4, q⟩ => ?_)
  cases e with
  | exit id' =>
    simp only [Exit.inBlock]
    simp only [blockQ] at q
    split
    · rw [if_pos (by assumption)] at q; exact ⟨f', σ', Φ', x1, x2, x3, x4, q⟩
    · rw [if_neg (by assumption)] at q; exact ⟨f', σ', Φ', x1, x2, x3, x4, q⟩
  | _ => exact ⟨f', σ', Φ', x1, x2, x3, x4, q⟩

/-- A value of the model as one of the logic: constants. -/
def ofV : Value → MV
  | .bool b => .bool b
  | .int k n => .int k n
  | .string s => .str s
  | .pointer Option.none => .nilp
  | .slice Option.none 0 0 => .nils
  | .map Option.none => .nilm
  | .nilFunc => .nilfn
  | .func f ⟨[]⟩ ⟨[]⟩ => .fn f [] []
  | .nilIface => .nili
  | _ => .junk

theorem rel_ofV (Φ : Phi) (v : Value) : Rel Φ v (ofV v) := by
  unfold ofV
  split <;> first
    | exact .junk _ | exact .bool _ | exact .int _ _ | exact .str _ | exact .nilp | exact .nils | exact .nilm | exact .nilfn | exact .nili
    | exact .fn _ (by simp) (by simp) (by simp) (by simp)

def mval (f : FR) : Operand → MV
  | .tmp t => f.get t
  | .const v => ofV v
  | .global _ => .junk
  | .func g => .fn (.func g) [] []

theorem rel_mval {Φ : Phi} {a : Act} (hr : FRel Φ a.tmps f) (x : Operand) : Rel Φ (a.eval x) (mval f x) := by
  cases x with
  | tmp t => exact hr.2 t
  | const v => exact rel_ofV Φ v
  | global g => exact .junk _
  | func g => exact .fn _ (by simp) (by simp) (by simp) (by simp)

theorem mwp_cond {c : Operand} {x y : Code} {t : Bool} (hc : mval f c = .bool t) (h1 : t = true → mwp P x f σ Q) (h2 : t = false → mwp P y f σ Q) : mwp P (.cond c x y) f σ Q := by
  intro Φ w a hi hr hd
  have he : a.eval c = .bool t := by
    have := rel_mval hr c
    rw [hc] at this
    generalize a.eval c = v at this
    cases this
    rfl
  exact wp_cond_split he (fun ht => h1 ht Φ w a hi hr hd) (fun hf => h2 hf Φ w a hi hr hd)

/-- The store of a frame may be let go in part, values may be forgotten: whatever holds of the memory at less is enough. -/
def Ghost (f : FR) (σ : St) (f1 : FR) (σ1 : St) : Prop :=
  f1.d = f.d ∧ ∀ Φ w vs, Inv Φ w σ → FRel Φ vs f → ∃ Φ1, Inv Φ1 w σ1 ∧ FRel Φ1 vs f1 ∧ Step Φ σ w Φ1 σ1 w

theorem Ghost.refl (f : FR) (σ : St) : Ghost f σ f σ := ⟨rfl, fun Φ w vs hi hr => ⟨Φ, hi, hr, .refl _ _ _⟩⟩
theorem Ghost.trans {f f1 f2 : FR} {σ σ1 σ2 : St} (h : Ghost f σ f1 σ1) (k : Ghost f1 σ1 f2 σ2) : Ghost f σ f2 σ2 := ⟨k.1.trans h.1, fun Φ w vs hi hr => by
  obtain ⟨Φ1, i1, r1, s1⟩ := h.2 Φ w vs hi hr
  obtain ⟨Φ2, i2, r2, s2⟩ := k.2 Φ1 w vs i1 r1
  exact ⟨Φ2, i2, r2, s1.trans s2⟩⟩

theorem mwp_ghost {c : Code} {f1 : FR} {σ1 : St} (g : Ghost f σ f1 σ1) (h : mwp P c f1 σ1 Q) : mwp P c f σ Q := by
  intro Φ w a hi hr hd
  obtain ⟨hf, g⟩ := g
  obtain ⟨Φ1, i1, r1, s1⟩ := g Φ w a.tmps hi hr
  exact wp_mono (h Φ1 w a i1 r1 (hf ▸ hd.mono s1.le)) fun _ _ _ hq => lift_step s1 hq

/-- The like, where what is then seen is not told ahead. -/
def Gh (f : FR) (σ : St) (K : FR → St → Prop) : Prop :=
  ∀ Φ w vs, Inv Φ w σ → FRel Φ vs f → ∃ f1 σ1 Φ1, f1.d = f.d ∧ K f1 σ1 ∧ Inv Φ1 w σ1 ∧ FRel Φ1 vs f1 ∧ Step Φ σ w Φ1 σ1 w

theorem Gh.done {f : FR} {σ : St} {K : FR → St → Prop} (h : K f σ) : Gh f σ K := fun Φ w vs hi hr => ⟨f, σ, Φ, rfl, h, hi, hr, .refl _ _ _⟩
theorem Gh.step {f f1 : FR} {σ σ1 : St} {K : FR → St → Prop} (g : Ghost f σ f1 σ1) (h : Gh f1 σ1 K) : Gh f σ K := fun Φ w vs hi hr => by
  obtain ⟨Φ1, i1, r1, s1⟩ := g.2 Φ w vs hi hr
  obtain ⟨f2, σ2, Φ2, e2, k2, i2, r2, s2⟩ := h Φ1 w vs i1 r1
  exact ⟨f2, σ2, Φ2, e2.trans g.1, k2, i2, r2, s1.trans s2⟩
theorem Gh.of {f f1 : FR} {σ σ1 : St} {K : FR → St → Prop} (g : Ghost f σ f1 σ1) (h : K f1 σ1) : Gh f σ K := Gh.step g (Gh.done h)

theorem mwp_gh {c : Code} (h : Gh f σ fun f1 σ1 => mwp P c f1 σ1 Q) : mwp P c f σ Q := by
  intro Φ w a hi hr hd
  obtain ⟨f1, σ1, Φ1, hf, k1, i1, r1, s1⟩ := h Φ w a.tmps hi hr
  exact wp_mono (k1 Φ1 w a i1 r1 (hf ▸ hd.mono s1.le)) fun _ _ _ hq => lift_step s1 hq

/-- A loop: what holds at each round's head, and what falls. A round may end in more than is wanted: a ghost step takes it back. -/
theorem mwp_loop {α : Type} {c : Code} (F : α → FR) (S : α → St) (p : α → Prop) (μ : α → Nat) (h0 : Gh f σ fun f1 σ1 => ∃ a, f1 = F a ∧ σ1 = S a ∧ p a)
    (round : ∀ a, p a → mwp P c (F a) (S a) (thenQ (fun f' σ' => Gh f' σ' fun f1 σ1 => ∃ b, f1 = F b ∧ σ1 = S b ∧ p b ∧ μ b < μ a) Q)) : mwp P (.loop c) f σ Q := by
  refine mwp_gh (fun Φ w vs hi hr => ?_)
  obtain ⟨f1, σ1, Φ1, hf, ⟨a0, e1, e2, p0⟩, i1, r1, s1⟩ := h0 Φ w vs hi hr
  subst e1; subst e2
  refine ⟨_, _, Φ1, hf, ?_, i1, r1, s1⟩
  clear h0 hi hr s1 i1 r1 hf
  intro Φ w a hi hr hd b k cs
  have key : ∀ n x Φ w a, μ x = n → p x → Inv Φ w (S x) → FRel Φ a.tmps (F x) → DRel Φ a.defers (F x).d →
      ∃ e a' w', lift Φ (S x) w Q e a' w' ∧ Arrives P (lone (b.at a (.code c :: .inLoop c :: k)) cs w) b k cs e a' w' := by
    intro n
    induction n using Nat.strongRecOn with
    | _ n ih =>
      intro x Φ w a hn hI hi hr hd
      obtain ⟨e, a₁, w₁, hq, harr⟩ := round x hI Φ w a hi hr hd b (.inLoop c :: k) cs
      cases e with
      | normal =>
        obtain ⟨f', σ', Φ', y1, y2, y3, y4, g2⟩ := hq
        obtain ⟨f2, σ2, Φ2, g0, ⟨x2, e1, e2, hI2, hlt⟩, i2, r2, s2⟩ := g2 Φ' w₁ a₁.tmps y3 y2
        subst e1; subst e2
        obtain ⟨e₂, a₂, w₂, hq₂, harr₂⟩ := ih (μ x2) (hn ▸ hlt) x2 Φ2 w₁ a₁ rfl hI2 i2 r2 (g0 ▸ y1.mono s2.le)
        exact ⟨e₂, a₂, w₂, lift_step y4 (lift_step s2 hq₂), .of_steps (Steps.trans harr (.one step_inLoop)) harr₂⟩
      | exit id => exact ⟨_, a₁, w₁, hq, .pass (x := .inLoop c) rfl (fun _ _ => .inl (by simp)) harr⟩
      | goto l => exact ⟨_, a₁, w₁, hq, .pass (x := .inLoop c) rfl (fun _ _ => .inl (by simp)) harr⟩
      | ret => exact ⟨_, a₁, w₁, hq, .pass (x := .inLoop c) rfl (fun _ _ => .inl (by simp)) harr⟩
      | panic ch => exact ⟨_, a₁, w₁, hq, .pass (x := .inLoop c) rfl (fun _ _ => .inl (by simp)) harr⟩
      | outgrown => exact ⟨_, a₁, w₁, hq, .pass (x := .inLoop c) rfl (fun _ _ => .inl (by simp)) harr⟩
  obtain ⟨e, a', w', hq, harr⟩ := key _ a0 Φ w a rfl p0 hi hr hd
  exact ⟨e, a', w', hq, .of_steps (.one step_loop) harr⟩

end rules

/-! ## Ghost steps -/

/-- Less of the store. -/
theorem Inv.less {Φ : Phi} {w : World} {σ σ1 : St} (hi : Inv Φ w σ) (h : ∀ l o, σ1 l = some o → σ l = some o) : Inv Φ w σ1 :=
  ⟨fun l o q => hi.own l o (h l o q), fun l l' o o' p p' R a b => hi.inj l l' o o' p p' R (h l o a) (h l' o' b), hi.snap, fun l o p R a v q => hi.apart l o p R a v (h l o q), hi.fresh⟩

theorem Owned.less {Φ : Phi} {σ σ1 : St} (h : ∀ l o, σ1 l = some o → σ l = some o) {R : Nat} (q : Owned Φ σ1 R) : Owned Φ σ R :=
  let ⟨l, o, p, a, b, c⟩ := q; ⟨l, o, p, h l o a, b, c⟩

theorem Step.less {Φ : Phi} {σ σ1 : St} (w : World) (h : ∀ l o, σ1 l = some o → σ l = some o) : Step Φ σ w Φ σ1 w :=
  ⟨.refl Φ, rfl, rfl, rfl, Nat.le_refl _, Nat.le_refl _, fun _ _ _ => rfl, fun _ _ h => .inl h, fun l o q => .inl ⟨o, h l o q⟩, fun _ q => .inl (q.less h)⟩

theorem Ghost.drop {f : FR} {σ σ1 : St} (h : ∀ l o, σ1 l = some o → σ l = some o) : Ghost f σ f σ1 := ⟨rfl, fun Φ w vs hi hr => ⟨Φ, hi.less h, hr, .less w h⟩⟩

/-- Forget what slots hold, and a nil slice is an empty list. -/
inductive Weak : MV → MV → Prop where
  | same (m : MV) : Weak m m
  | junk (m : MV) : Weak m .junk
  | nil (e : Nat) (t : Bool) : Weak .nils (.lst e [] t)
  | tight (e : Nat) (xs : List (List MV)) : Weak (.lst e xs true) (.lst e xs false)

theorem Weak.rel {Φ : Phi} {v : Value} {m m' : MV} (h : Weak m m') (r : Rel Φ v m) : Rel Φ v m' := by
  cases h with
  | same => exact r
  | junk => exact .junk _
  | nil e t => cases r; exact .lstn e t
  | tight e xs =>
    cases r with
    | lstn => exact .lstn e _
    | lst0 a e cap t ht hm => exact .lst0 a e cap _ (by simp) hm
    | lst hl h0 hcap hm ht hx vs hc hr => exact .lst hl h0 hcap hm (by simp) hx vs hc hr

theorem Ghost.weak {f f1 : FR} {σ : St} (hl : f.n = f1.n) (hd : f1.d = f.d) (h : ∀ t, Weak (f.get t) (f1.get t)) : Ghost f σ f1 σ := ⟨hd, fun Φ w vs hi hr =>
  ⟨Φ, hi, ⟨hr.1.trans hl, fun t => (h t).rel (hr.2 t)⟩, .refl _ _ _⟩⟩

/-- Fewer slots known. -/
theorem Ghost.keep {n : Nat} {l l1 : List (Nat × MV)} {d : List (FuncId × List MV)} {σ : St} (h : ∀ p, p ∈ l1 → Weak (lget l p.1) p.2) : Ghost ⟨n, l, d⟩ σ ⟨n, l1, d⟩ σ :=
  Ghost.weak rfl rfl fun t => by
    show Weak (lget l t) (lget l1 t)
    induction l1 with
    | nil => exact .junk _
    | cons p r ih =>
      obtain ⟨k, v⟩ := p
      simp only [lget]
      split
      · rename_i ht; subst ht; exact h (t, v) (by simp)
      · exact ih fun q hq => h q (by simp [hq])

end Go.Proofs.Ytielcgplbnlgbaa
