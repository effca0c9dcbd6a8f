/- Parts of the proof, joined. Each part says what it proves, and under which conditions it does: those that its theorems name. -/
import Derived.WalkKit
import Derived.Orders
import Derived.OrdersIn
import Derived.TacticsIn
import Derived.RangeFuncCalls
import Derived.Deep.Quiet
import Derived.ChangeKeysEq
import Derived.MapKept
set_option linter.unusedVariables false
set_option linter.unusedSimpArgs false
set_option maxHeartbeats 4000000
section
namespace Go.Proofs.YtjljgahfkcdhfaaGreatDoor
inductive MV where
 | junk
 | bool (b : Bool)
 | int (k : IntKind) (n : Int)
 | str (s : ByteArray)
 | nilp
 | ptr (l i o : Nat)
 | cptr (cs : List MV)
 | nils
 | lst (e : Nat) (xs : List (List MV)) (t : Bool)
 | vec (e l lo n : Nat)
 | nilm
 | mapv (l : Nat)
 | nilfn
 | fn (f : Fn) (first cap : List MV)
 | nili
 | iface (t : TypeId) (v : MV)
 | agg (cs : List MV)
 | tup (vs : List MV)
 deriving Inhabited
def MV.isCell : MV → Bool
 | .junk | .agg _ | .tup _ => false
 | _ => true
def MV.cells : MV → List MV
 | .agg cs => cs
 | v => [v]
inductive MObj where
 | row (t : TypeId) (e : Nat) (xs : List (List MV))
 | mp (es : List (MV × MV))
structure Place where
 blk : Option Nat
 bo : Nat
 e : Nat
 C : Nat
structure Phi where
 snap : Addr → Option Value
 obj : Nat → Option Place
 base : Nat
structure Phi.le (Φ Φ' : Phi) : Prop where
 snap : ∀ a v, Φ.snap a = some v → Φ'.snap a = some v
 obj : ∀ l p, Φ.obj l = some p → Φ'.obj l = some p
 base : Φ'.base = Φ.base
theorem Phi.le.refl (Φ : Phi) : Φ.le Φ := ⟨fun _ _ h => h, fun _ _ h => h, rfl⟩
theorem Phi.le.trans {a b c : Phi} (h : a.le b) (k : b.le c) : a.le c := ⟨fun x v q => k.snap x v (h.snap x v q), fun x v q => k.obj x v (h.obj x v q), k.base.trans h.base⟩
inductive Rel (Φ : Phi) : Value → MV → Prop where
 | junk (v : Value) : Rel Φ v .junk
 | bool (b : Bool) : Rel Φ (.bool b) (.bool b)
 | int (k : IntKind) (n : Int) : Rel Φ (.int k n) (.int k n)
 | str (s : ByteArray) : Rel Φ (.string s) (.str s)
 | nilp : Rel Φ (.pointer none) .nilp
 | ptr {l i o R : Nat} {p : Place} (ho : Φ.obj l = some p) (hb : p.blk = some R) : Rel Φ (.pointer (some ⟨R, p.bo + i * p.e + o, none⟩)) (.ptr l i o)
 | cptr {b off : Nat} {cs : List MV} (vs : Nat → Value) (hc : ∀ (j : Nat) (m : MV), cs[j]? = some m → m.isCell = true ∧ Φ.snap ⟨b, off + j, none⟩ = some (vs j))
   (hr : ∀ (j : Nat) (m : MV), cs[j]? = some m → Rel Φ (vs j) m) : Rel Φ (.pointer (some ⟨b, off, none⟩)) (.cptr cs)
 | nils : Rel Φ (.slice none 0 0) .nils
 | lstn (e : Nat) (t : Bool) : Rel Φ (.slice none 0 0) (.lst e [] t)
 | lst0 (a : Addr) (e cap : Nat) (t : Bool) (ht : t = true → cap = 0) (hm : cap ≤ maxLen) : Rel Φ (.slice (some a) 0 cap) (.lst e [] t)
 | lst {b off e len cap : Nat} {xs : List (List MV)} {t : Bool} (hl : xs.length = len) (h0 : 0 < len) (hcap : len ≤ cap) (hm : cap ≤ maxLen) (ht : t = true → cap = len)
   (hx : ∀ (i : Nat) (x : List MV), xs[i]? = some x → x.length = e) (vs : Nat → Nat → Value)
   (hc : ∀ (i : Nat) (x : List MV) (j : Nat) (m : MV), xs[i]? = some x → x[j]? = some m → m.isCell = true ∧ Φ.snap ⟨b, off + (i * e + j), none⟩ = some (vs i j))
   (hr : ∀ (i : Nat) (x : List MV) (j : Nat) (m : MV), xs[i]? = some x → x[j]? = some m → Rel Φ (vs i j) m) : Rel Φ (.slice (some ⟨b, off, none⟩) len cap) (.lst e xs t)
 | vec {l lo n cap R : Nat} {p : Place} (ho : Φ.obj l = some p) (hb : p.blk = some R) (hcap : lo + cap = p.C) (hn : n ≤ cap) : Rel Φ (.slice (some ⟨R, p.bo + lo * p.e, none⟩) n cap) (.vec p.e l lo n)
 | vec0 {l lo : Nat} {p : Place} (a : Addr) (ho : Φ.obj l = some p) (hC : lo = p.C) : Rel Φ (.slice (some a) 0 0) (.vec p.e l lo 0)
 | vecn {l : Nat} {p : Place} (ho : Φ.obj l = some p) (hb : p.blk = none) (hC : p.C = 0) : Rel Φ (.slice none 0 0) (.vec p.e l 0 0)
 | nilm : Rel Φ (.map none) .nilm
 | mapv {l R : Nat} {p : Place} (ho : Φ.obj l = some p) (hb : p.blk = some R) : Rel Φ (.map (some R)) (.mapv l)
 | nilfn : Rel Φ .nilFunc .nilfn
 | fn (f : Fn) {first cap : Array Value} {ms ns : List MV} (h1 : first.size = ms.length) (h2 : cap.size = ns.length)
   (r1 : ∀ (i : Nat) m, ms[i]? = some m → Rel Φ (first.getD i undef) m) (r2 : ∀ (i : Nat) m, ns[i]? = some m → Rel Φ (cap.getD i undef) m) : Rel Φ (.func f first cap) (.fn f ms ns)
 | nili : Rel Φ .nilIface .nili
 | iface (t : TypeId) {v : Value} {m : MV} (h : Rel Φ v m) : Rel Φ (.iface t v) (.iface t m)
 | agg {cs : Array Value} {ms : List MV} (h : cs.size = ms.length) (hc : ∀ (i : Nat) m, ms[i]? = some m → m.isCell = true) (r : ∀ (i : Nat) m, ms[i]? = some m → Rel Φ (cs.getD i undef) m) : Rel Φ (.agg cs) (.agg ms)
 | tup {cs : Array Value} {ms : List MV} (h : cs.size = ms.length) (r : ∀ (i : Nat) m, ms[i]? = some m → Rel Φ (cs.getD i undef) m) : Rel Φ (.tuple cs) (.tup ms)
theorem Rel.mono2 {Φ Φ' : Phi} (h1 : ∀ a v, Φ.snap a = some v → Φ'.snap a = some v) (h2 : ∀ l p, Φ.obj l = some p → Φ'.obj l = some p) {v : Value} {m : MV} (h : Rel Φ v m) : Rel Φ' v m := by
 induction h with
 | junk v => exact .junk v
 | bool b => exact .bool b
 | int k n => exact .int k n
 | str s => exact .str s
 | nilp => exact .nilp
 | ptr ho hb => exact .ptr (h2 _ _ ho) hb
 | cptr vs hc hr ih => exact .cptr vs (fun j m hm => ⟨(hc j m hm).1, h1 _ _ (hc j m hm).2⟩) ih
 | nils => exact .nils
 | lstn e t => exact .lstn e t
 | lst0 a e cap t ht hm => exact .lst0 a e cap t ht hm
 | lst hl h0 hcap hm ht hx vs hc hr ih => exact .lst hl h0 hcap hm ht hx vs (fun i x j m a b => ⟨(hc i x j m a b).1, h1 _ _ (hc i x j m a b).2⟩) ih
 | vec ho hb hcap hn => exact .vec (h2 _ _ ho) hb hcap hn
 | vec0 a ho hC => exact .vec0 a (h2 _ _ ho) hC
 | vecn ho hb hC => exact .vecn (h2 _ _ ho) hb hC
 | nilm => exact .nilm
 | mapv ho hb => exact .mapv (h2 _ _ ho) hb
 | nilfn => exact .nilfn
 | fn f h1 h2 _ _ r1 r2 => exact .fn f h1 h2 r1 r2
 | nili => exact .nili
 | iface t _ ih => exact .iface t ih
 | agg h hc _ ih => exact .agg h hc ih
 | tup h _ ih => exact .tup h ih
theorem Rel.mono {Φ Φ' : Phi} (hle : Φ.le Φ') {v : Value} {m : MV} (h : Rel Φ v m) : Rel Φ' v m := h.mono2 hle.snap hle.obj
theorem Rel.oneCell {Φ : Phi} {v : Value} {m : MV} (h : Rel Φ v m) (hm : m.isCell = true) : v.oneCell' = true := by
 cases h <;> first | rfl | (simp [MV.isCell] at hm)
def Rels (Φ : Phi) (vs : Array Value) (ms : List MV) : Prop := vs.size = ms.length ∧ ∀ (i : Nat) m, ms[i]? = some m → Rel Φ (vs.getD i undef) m
theorem Rels.mono {Φ Φ' : Phi} (hle : Φ.le Φ') {vs : Array Value} {ms : List MV} (h : Rels Φ vs ms) : Rels Φ' vs ms := ⟨h.1, fun i m hm => (h.2 i m hm).mono hle⟩
structure FR where
 n : Nat
 l : List (Nat × MV)
 d : List (FuncId × List MV)
def lget : List (Nat × MV) → Nat → MV
 | [], _ => .junk
 | (k, v) :: r, t => if t = k then v else lget r t
def FR.get (f : FR) (t : Nat) : MV := lget f.l t
def FRel (Φ : Phi) (tmps : Array Value) (f : FR) : Prop := tmps.size = f.n ∧ ∀ t, Rel Φ (tmps.getD t undef) (f.get t)
theorem FRel.mono {Φ Φ' : Phi} (hle : Φ.le Φ') {vs : Array Value} {f : FR} (h : FRel Φ vs f) : FRel Φ' vs f := ⟨h.1, fun t => (h.2 t).mono hle⟩
def DRel (Φ : Phi) (w : World) : List Deferred → List (FuncId × List MV) → Prop
 | [], d => d = [] ∧ Φ.base ≤ w.heap.size
 | x :: xs, d => (∃ D, x.target = .collected D ∧ Φ.base ≤ D ∧ w.heap[D]? = some (Obj.deferred (some [])) ∧ (∀ y, y ∈ xs → y.target ≠ .collected D) ∧ DRel Φ w xs d) ∨
   (∃ g ms r cap, d = (g, ms) :: r ∧ x.target = .fn (.func g) cap ∧ Rels Φ (x.args ++ cap) ms ∧ DRel Φ w xs r)
theorem DRel.base {Φ : Phi} {w : World} : ∀ {ds : List Deferred} {d : List (FuncId × List MV)}, DRel Φ w ds d → Φ.base ≤ w.heap.size
 | [], _, h => h.2
 | _ :: _, _, .inl ⟨_, _, _, _, _, h⟩ => h.base
 | _ :: _, _, .inr ⟨_, _, _, _, _, _, _, h⟩ => h.base
theorem DRel.mono {Φ Φ' : Phi} {w w' : World} (hle : Φ.le Φ') (hsz : w.heap.size ≤ w'.heap.size) (hw : ∀ D : Nat, w.heap[D]? = some (Obj.deferred (some [])) → w'.heap[D]? = some (Obj.deferred (some []))) : ∀ {ds : List Deferred} {d : List (FuncId × List MV)}, DRel Φ w ds d → DRel Φ' w' ds d
 | [], _, h => ⟨h.1, by rw [hle.base]; exact Nat.le_trans h.2 hsz⟩
 | _ :: _, _, .inl ⟨D, h1, h2, h3, h4, h5⟩ => .inl ⟨D, h1, by rw [hle.base]; exact h2, hw D h3, h4, h5.mono hle hsz hw⟩
 | _ :: _, _, .inr ⟨g, ms, r, cap, h1, h2, h3, h4⟩ => .inr ⟨g, ms, r, cap, h1, h2, h3.mono hle, h4.mono hle hsz hw⟩
abbrev St := Nat → Option MObj
def St.set (σ : St) (l : Nat) (o : MObj) : St := fun k => if k = l then some o else σ k
def St.del (σ : St) (l : Nat) : St := fun k => if k = l then none else σ k
def St.none : St := fun _ => Option.none
def OwnOk (Φ : Phi) (w : World) (l : Nat) : MObj → Prop
 | .row t e xs => ∃ p, Φ.obj l = some p ∧ p.e = e ∧ xs.length ≤ p.C ∧ p.C ≤ maxLen ∧ (∀ (i : Nat) (x : List MV), xs[i]? = some x → x.length = e) ∧
   match p.blk with
   | Option.none => p.C = 0
   | some R => ∃ (c : Array Value) (fz : Nat × Nat), w.heap[R]? = some (.cells c t fz) ∧ (fz.2 ≤ fz.1 ∨ c.size ≤ fz.1) ∧ p.bo + p.C * e ≤ c.size ∧
     ∀ (i : Nat) (x : List MV) (j : Nat) (m : MV), xs[i]? = some x → x[j]? = some m → m.isCell = true ∧ ∃ v, c[p.bo + (i * e + j)]? = some v ∧ Rel Φ v m
 | .mp es => ∃ p R, Φ.obj l = some p ∧ p.blk = some R ∧ ∃ (c : Array MapEntry) (clock : Nat), w.heap[R]? = some (.map c clock) ∧ (c.size = es.length ∧ Go.MapKept.Stamped c clock) ∧
   ∀ (i : Nat) (x : MV × MV), es[i]? = some x → Rel Φ (c.getD i default).key x.1 ∧ Rel Φ (c.getD i default).val x.2
def GT : Nat → Nat → Option Value := fun g i => if g = 0 then ([0, 1, 28, 2, 29, 14, 24, 3, 30, 22, 20, 15, 25, 17, 4, 8, 31, 27, 13, 23, 21, 19, 16, 7, 26, 12, 18, 6, 11, 5, 10, 9].map fun n : Int => Value.int .u8 n)[i]? else none
def Phi.fin (Φ : Phi) : Prop := (∃ n, ∀ l, n ≤ l → Φ.obj l = Option.none) ∧ ∀ l p, Φ.obj l = some p → p.bo = 0
def Phi.good (Φ : Phi) : Prop := Φ.fin ∧ ∀ g i v, GT g i = some v → Φ.snap ⟨g, i, none⟩ = some v
structure Inv (Φ : Phi) (w : World) (σ : St) : Prop where
 own : ∀ l o, σ l = some o → OwnOk Φ w l o
 inj : ∀ l l' o o' p p' R, σ l = some o → σ l' = some o' → Φ.obj l = some p → Φ.obj l' = some p' → p.blk = some R → p'.blk = some R → l = l'
 snap : ∀ a v, Φ.snap a = some v → w.cell? a = some v
 apart : ∀ l o p R a v, σ l = some o → Φ.obj l = some p → p.blk = some R → Φ.snap a = some v → a.block ≠ R
 fresh : Φ.good
def Owned (Φ : Phi) (σ : St) (R : Nat) : Prop := ∃ l o p, σ l = some o ∧ Φ.obj l = some p ∧ p.blk = some R
def DR : Bool := false
def drw (w : World) : Nat := if DR = true then w.drawn else 0
theorem drw_le {w w' : World} (h : w.drawn ≤ w'.drawn) : drw w ≤ drw w' := by
 unfold drw; split
 ·exact h
 ·exact Nat.le_refl _
structure Step (Φ : Phi) (σ : St) (w : World) (Φ' : Phi) (σ' : St) (w' : World) : Prop where
 le : Φ.le Φ'
 os : w'.os = w.os
 tape : w'.tape = w.tape
 output : w'.output = w.output
 drawn : drw w ≤ drw w'
 size : w.heap.size ≤ w'.heap.size
 block : ∀ k, k < w.heap.size → ¬ Owned Φ σ k → w'.heap[k]? = w.heap[k]?
 snapn : ∀ a v, Φ'.snap a = some v → Φ.snap a = some v ∨ w.heap.size ≤ a.block ∨ Owned Φ σ a.block
 locs : ∀ l o, σ' l = some o → (∃ o', σ l = some o') ∨ Φ.obj l = Option.none
 ownd : ∀ R, Owned Φ' σ' R → Owned Φ σ R ∨ w.heap.size ≤ R
theorem Inv.notOwned {Φ : Phi} {w : World} {σ : St} (hi : Inv Φ w σ) {D : Nat} (h : ∀ c t fz, w.heap[D]? ≠ some (.cells c t fz)) (h' : ∀ c k, w.heap[D]? ≠ some (.map c k)) : ¬ Owned Φ σ D := by
 rintro ⟨l, o, p, h1, h2, h3⟩
 have := hi.own l o h1
 cases o with
 | row t e xs =>
  obtain ⟨p', e1, _, _, _, _, e2⟩ := this
  rw [e1] at h2; cases h2
  rw [h3] at e2
  obtain ⟨c, fz, e3, _⟩ := e2
  exact h _ _ _ e3
 | mp es =>
  obtain ⟨p', R, e1, e0, c, k, e3, _⟩ := this
  rw [e1] at h2; cases h2
  rw [h3] at e0; cases e0
  exact h' _ _ e3
theorem Inv.mark {Φ : Phi} {w : World} {σ : St} (hi : Inv Φ w σ) {D : Nat} {x : Option (List Deferred)} (h : w.heap[D]? = some (Obj.deferred x)) : ¬ Owned Φ σ D :=
 hi.notOwned (fun c t fz e => by rw [h] at e; cases e) (fun c k e => by rw [h] at e; cases e)
theorem Step.refl (Φ : Phi) (σ : St) (w : World) : Step Φ σ w Φ σ w :=
 ⟨.refl Φ, rfl, rfl, rfl, Nat.le_refl _, Nat.le_refl _, fun _ _ _ => rfl, fun _ _ h => .inl h, fun l o h => .inl ⟨o, h⟩, fun _ h => .inl h⟩
theorem Step.marks {Φ Φ' : Phi} {σ σ' : St} {w w' : World} (h : Step Φ σ w Φ' σ' w') (hi : Inv Φ w σ) (D : Nat) (hD : w.heap[D]? = some (Obj.deferred (some []))) : w'.heap[D]? = some (Obj.deferred (some [])) :=
 (h.block D (Array.getElem?_eq_some_iff.1 hD).1 (hi.mark hD)).trans hD
theorem DRel.step {Φ Φ' : Phi} {σ σ' : St} {w w' : World} {ds : List Deferred} {d : List (FuncId × List MV)} (h : DRel Φ w ds d) (hi : Inv Φ w σ) (hs : Step Φ σ w Φ' σ' w') : DRel Φ' w' ds d := h.mono hs.le hs.size (hs.marks hi)
theorem Step.trans {Φ Φ1 Φ2 : Phi} {σ σ1 σ2 : St} {w w1 w2 : World} (h : Step Φ σ w Φ1 σ1 w1) (k : Step Φ1 σ1 w1 Φ2 σ2 w2) : Step Φ σ w Φ2 σ2 w2 where
 le := h.le.trans k.le
 os := k.os.trans h.os
 tape := k.tape.trans h.tape
 output := k.output.trans h.output
 drawn := Nat.le_trans h.drawn k.drawn
 size := Nat.le_trans h.size k.size
 block := fun i hi hn => (k.block i (Nat.lt_of_lt_of_le hi h.size) (fun ho => (h.ownd i ho).elim hn (fun q => by omega))).trans (h.block i hi hn)
 snapn := fun a v hv => by
  rcases k.snapn a v hv with q | q | q
  ·exact h.snapn a v q
  ·exact .inr (.inl (Nat.le_trans h.size q))
  ·rcases h.ownd _ q with q | q
   ·exact .inr (.inr q)
   ·exact .inr (.inl q)
 locs := fun l o hl => by
  rcases k.locs l o hl with ⟨o', q⟩ | q
  ·exact h.locs l o' q
  ·right
   cases hl : Φ.obj l with
   | none => rfl
   | some p => have := h.le.obj l p hl; simp [this] at q
 ownd := fun R hR => by
  rcases k.ownd R hR with q | q
  ·exact h.ownd R q
  ·exact .inr (Nat.le_trans h.size q)
def Enters (P : Program) (f : FuncId) : Prop := ∃ fn, P.funcs[f]? = some fn ∧ fn.body.isNone = false ∧ (fn.name == "runtime.NumGoroutine") = false
def MCalls (P : Program) (f : FuncId) (ms : List MV) (σ : St) (Q : MV → St → Prop) : Prop :=
 Enters P f ∧ ∀ Φ w vs, Inv Φ w σ → Rels Φ vs ms → Calls P f vs w fun e w' => ∃ v mv σ' Φ', e = .returned v ∧ Rel Φ' v mv ∧ Inv Φ' w' σ' ∧ Step Φ σ w Φ' σ' w' ∧ Q mv σ'
theorem MCalls.mono {P : Program} {f : FuncId} {ms : List MV} {σ : St} {Q Q' : MV → St → Prop} (h : MCalls P f ms σ Q) (hq : ∀ v σ', Q v σ' → Q' v σ') : MCalls P f ms σ Q' :=
 ⟨h.1, fun Φ w vs hi hr => (h.2 Φ w vs hi hr).mono fun _ _ ⟨v, mv, σ', Φ', a, b, c, d, q⟩ => ⟨v, mv, σ', Φ', a, b, c, d, hq _ _ q⟩⟩
abbrev MQ := Exit → FR → St → Prop
def lift (Φ : Phi) (σ : St) (w : World) (Q : MQ) : Exit → Act → World → Prop := fun e a' w' =>
 ∃ f' σ' Φ', DRel Φ' w' a'.defers f'.d ∧ FRel Φ' a'.tmps f' ∧ Inv Φ' w' σ' ∧ Step Φ σ w Φ' σ' w' ∧ Q e f' σ'
def noDefer : Code → Bool
 | .seq a b | .cond _ a b => noDefer a && noDefer b
 | .block _ b | .loop b | .scope b => noDefer b
 | .region _ ops _ => ops.toList.all fun o => match o.op with | .defer _ => false | _ => true
 | .rangeFunc _ _ _ _ => false
 | _ => true
def FOk (F : Fence) (c : Code) : Prop := F = Fence.wide ∨ ∃ l, F = Fence.wide.inRound l ∧ noDefer c = true
section fok
variable {F : Fence} {x y : Code}
theorem FOk.fn (h : FOk F x) (g : FuncId) : F.fn g := by rcases h with rfl | ⟨l, rfl, _⟩ <;> trivial
theorem FOk.depth (h : FOk F x) : F.depth = none := by rcases h with rfl | ⟨l, rfl, _⟩ <;> rfl
theorem FOk.room (h : FOk F x) (n : Nat) : F.room n := fun d hd => by rw [h.depth] at hd; cases hd
theorem FOk.imp (h : FOk F x) (k : noDefer x = true → noDefer y = true) : FOk F y := h.elim .inl fun ⟨l, e, q⟩ => .inr ⟨l, e, k q⟩
theorem FOk.seq1 (h : FOk F (.seq x y)) : FOk F x := h.imp fun q => (Bool.and_eq_true_iff.1 q).1
theorem FOk.seq2 (h : FOk F (.seq x y)) : FOk F y := h.imp fun q => (Bool.and_eq_true_iff.1 q).2
theorem FOk.cond1 {c : Operand} (h : FOk F (.cond c x y)) : FOk F x := h.imp fun q => (Bool.and_eq_true_iff.1 q).1
theorem FOk.cond2 {c : Operand} (h : FOk F (.cond c x y)) : FOk F y := h.imp fun q => (Bool.and_eq_true_iff.1 q).2
theorem FOk.block {id : Nat} (h : FOk F (.block id x)) : FOk F x := h.imp fun q => q
theorem FOk.loop (h : FOk F (.loop x)) : FOk F x := h.imp fun q => q
theorem FOk.lone (h : FOk F x) {fr : Frame} {P : Program} {cs : List Frame} {w : World} (ha : fr.about P w = none) : (lone fr cs w).fenced P F := fenced_calm (n := 0) (h.fn _) (h.room _) ha
theorem FOk.wide {c : Code} : FOk Fence.wide c := .inl rfl
end fok
def mwp (P : Program) (c : Code) (f : FR) (σ : St) (Q : MQ) : Prop :=
 ∀ F, FOk F c → ∀ Φ w a, Inv Φ w σ → FRel Φ a.tmps f → DRel Φ w a.defers f.d → c.wpIn F 0 P (lift Φ σ w Q) a w
section rules
variable {P : Program} {f : FR} {σ : St} {Q : MQ}
theorem mwp_mono {c : Code} {Q' : MQ} (h : mwp P c f σ Q) (hq : ∀ e f σ, Q e f σ → Q' e f σ) : mwp P c f σ Q' :=
 fun F hF Φ w a hi hr hd => wpIn_mono (h F hF Φ w a hi hr hd) fun _ _ _ ⟨f', σ', Φ', x1, x2, x3, x4, q⟩ => ⟨f', σ', Φ', x1, x2, x3, x4, hq _ _ _ q⟩
theorem lift_step {Φ Φ1 : Phi} {σ1 : St} {w w1 : World} {Q : MQ} (hs : Step Φ σ w Φ1 σ1 w1) {e : Exit} {a : Act} {w' : World} (h : lift Φ1 σ1 w1 Q e a w') : lift Φ σ w Q e a w' :=
 let ⟨f', σ', Φ', x1, x2, x3, x4, q⟩ := h
 ⟨f', σ', Φ', x1, x2, x3, hs.trans x4, q⟩
theorem mwp_skip (h : Q .normal f σ) : mwp P .skip f σ Q := fun F hF Φ w a hi hr hd => wpIn_skip ⟨f, σ, Φ, hd, hr, hi, .refl _ _ _, h⟩
theorem mwp_ret (h : Q .ret f σ) : mwp P .ret f σ Q := fun F hF Φ w a hi hr hd => wpIn_ret ⟨f, σ, Φ, hd, hr, hi, .refl _ _ _, h⟩
theorem mwp_exit {id : Nat} (h : Q (.exit id) f σ) : mwp P (.exit id) f σ Q := fun F hF Φ w a hi hr hd => wpIn_exit ⟨f, σ, Φ, hd, hr, hi, .refl _ _ _, h⟩
def thenQ (next : FR → St → Prop) (Q : MQ) : MQ
 | .normal, f, σ => next f σ
 | e, f, σ => Q e f σ
theorem mwp_seq {x y : Code} (h : mwp P x f σ (thenQ (fun f' σ' => mwp P y f' σ' Q) Q)) : mwp P (.seq x y) f σ Q := by
 intro F hF Φ w a hi hr hd
 refine wpIn_seq (wpIn_mono (h F hF.seq1 Φ w a hi hr hd) fun e a' w' ⟨f', σ', Φ', x1, x2, x3, x4, q⟩ => ?_)
 cases e with
 | normal => exact wpIn_mono (q F hF.seq2 Φ' w' a' x3 x2 x1) fun _ _ _ hq => lift_step x4 hq
 | _ => exact ⟨f', σ', Φ', x1, x2, x3, x4, q⟩
def blockQ (id : Nat) (Q : MQ) : MQ
 | .exit id', f, σ => if id' = id then Q .normal f σ else Q (.exit id') f σ
 | e, f, σ => Q e f σ
theorem mwp_block {id : Nat} {c : Code} (h : mwp P c f σ (blockQ id Q)) : mwp P (.block id c) f σ Q := by
 intro F hF Φ w a hi hr hd
 refine wpIn_block (wpIn_mono (h F hF.block Φ w a hi hr hd) fun e a' w' ⟨f', σ', Φ', x1, x2, x3, x4, q⟩ => ?_)
 cases e with
 | exit id' =>
  simp only [Exit.inBlock]
  simp only [blockQ] at q
  split
  ·rw [if_pos (by assumption)] at q; exact ⟨f', σ', Φ', x1, x2, x3, x4, q⟩
  ·rw [if_neg (by assumption)] at q; exact ⟨f', σ', Φ', x1, x2, x3, x4, q⟩
 | _ => exact ⟨f', σ', Φ', x1, x2, x3, x4, q⟩
theorem stepR_scope' {b : Frame} {a : Act} {k : List Item} {cs : List Frame} {w : World} {c : Code} : step P (Go.lone (b.atR a (.code (.scope c) :: k)) cs w) = .next (Go.lone (b.atR a (.code c :: .inScope c :: k)) cs w) :=
 step_lone_go (by simp [stepG, stepG.exec, Frame.atR])
theorem stepR_inScope' {b : Frame} {a : Act} {k : List Item} {cs : List Frame} {w : World} {c : Code} : step P (Go.lone (b.atR a (.inScope c :: k)) cs w) = .next (Go.lone (b.atR a k) cs w) :=
 step_lone_go (by simp [stepG, stepG.exec, Frame.atR])
theorem wpIn_scope {F : Fence} {n : Nat} {Q : Exit → Act → World → Prop} {a : Act} {w : World} {c : Code} (h : c.wpIn F n P (Exit.noGoto Q) a w) : (Code.scope c).wpIn F n P Q a w := by
 intro b k cs hro hb hr
 have h0 : (Go.lone (b.atR a (.code (.scope c) :: k)) cs w).fenced P F := fenced_calm hb hr rfl
 obtain ⟨e, a₁, w₁, hq, harr⟩ := h b (.inScope c :: k) cs hro hb hr
 cases e with
 | normal => exact ⟨.normal, a₁, w₁, hq, .head h0 stepR_scope' (StepsIn.trans harr (.one (fenced_calm hb hr rfl) stepR_inScope'))⟩
 | exit id' =>
  have hx : exitTo id' (.inScope c :: k) = exitTo id' k := by simp [exitTo]
  exact ⟨.exit id', a₁, w₁, hq, fun k' hk => .head h0 stepR_scope' (harr.1 k' (by rw [hx]; exact hk)),
   fun hr' hk => let ⟨k₁, h1, h2⟩ := harr.2 hr' (by rw [hx]; exact hk); ⟨k₁, h1, .head h0 stepR_scope' h2⟩⟩
 | goto l => exact hq.elim
 | ret => exact ⟨_, a₁, w₁, hq, .of_steps (.one h0 stepR_scope') harr⟩
 | panic ch => exact ⟨_, a₁, w₁, hq, .of_steps (.one h0 stepR_scope') harr⟩
 | outgrown => exact ⟨_, a₁, w₁, hq, .of_steps (.one h0 stepR_scope') harr⟩
def scopeQ (Q : MQ) : MQ
 | .goto _, _, _ => False
 | e, f, σ => Q e f σ
theorem FOk.scope {F : Fence} {x : Code} (h : FOk F (.scope x)) : FOk F x := h.imp fun q => q
theorem mwp_scope {c : Code} (h : mwp P c f σ (scopeQ Q)) : mwp P (.scope c) f σ Q := by
 intro F hF Φ w a hi hr hd
 refine wpIn_scope (wpIn_mono (h F hF.scope Φ w a hi hr hd) fun e a' w' ⟨f', σ', Φ', x1, x2, x3, x4, q⟩ => ?_)
 cases e with
 | goto l => exact q.elim
 | _ => exact ⟨f', σ', Φ', x1, x2, x3, x4, q⟩
theorem mwp_label {l : Nat} (h : Q .normal f σ) : mwp P (.label l) f σ Q := fun F hF Φ w a hi hr hd => wpIn_label ⟨f, σ, Φ, hd, hr, hi, .refl _ _ _, h⟩
def ofV : Value → MV
 | .bool b => .bool b
 | .int k n => .int k n
 | .string s => .str s
 | .pointer Option.none => .nilp
 | .slice Option.none 0 0 => .nils
 | .map Option.none => .nilm
 | .nilFunc => .nilfn
 | .func f ⟨[]⟩ ⟨[]⟩ => .fn f [] []
 | .nilIface => .nili
 | _ => .junk
theorem rel_ofV (Φ : Phi) (v : Value) : Rel Φ v (ofV v) := by
 unfold ofV
 split <;> first
  | exact .junk _ | exact .bool _ | exact .int _ _ | exact .str _ | exact .nilp | exact .nils | exact .nilm | exact .nilfn | exact .nili
  | exact .fn _ (by simp) (by simp) (by simp) (by simp)
def mval (f : FR) : Operand → MV
 | .tmp t => f.get t
 | .const v => ofV v
 | .global _ => .junk
 | .func g => .fn (.func g) [] []
theorem rel_mval {Φ : Phi} {a : Act} (hr : FRel Φ a.tmps f) (x : Operand) : Rel Φ (a.eval x) (mval f x) := by
 cases x with
 | tmp t => exact hr.2 t
 | const v => exact rel_ofV Φ v
 | global g => exact .junk _
 | func g => exact .fn _ (by simp) (by simp) (by simp) (by simp)
theorem mwp_cond {c : Operand} {x y : Code} {t : Bool} (hc : mval f c = .bool t) (h1 : t = true → mwp P x f σ Q) (h2 : t = false → mwp P y f σ Q) : mwp P (.cond c x y) f σ Q := by
 intro F hF Φ w a hi hr hd
 have he : a.eval c = .bool t := by
  have := rel_mval hr c
  rw [hc] at this
  generalize a.eval c = v at this
  cases this
  rfl
 exact wpIn_cond_split he (fun ht => h1 ht F hF.cond1 Φ w a hi hr hd) (fun hf => h2 hf F hF.cond2 Φ w a hi hr hd)
def Ghost (f : FR) (σ : St) (f1 : FR) (σ1 : St) : Prop :=
 f1.d = f.d ∧ ∀ Φ w vs, Inv Φ w σ → FRel Φ vs f → ∃ Φ1, Inv Φ1 w σ1 ∧ FRel Φ1 vs f1 ∧ Step Φ σ w Φ1 σ1 w
theorem Ghost.refl (f : FR) (σ : St) : Ghost f σ f σ := ⟨rfl, fun Φ w vs hi hr => ⟨Φ, hi, hr, .refl _ _ _⟩⟩
theorem Ghost.trans {f f1 f2 : FR} {σ σ1 σ2 : St} (h : Ghost f σ f1 σ1) (k : Ghost f1 σ1 f2 σ2) : Ghost f σ f2 σ2 := ⟨k.1.trans h.1, fun Φ w vs hi hr => by
 obtain ⟨Φ1, i1, r1, s1⟩ := h.2 Φ w vs hi hr
 obtain ⟨Φ2, i2, r2, s2⟩ := k.2 Φ1 w vs i1 r1
 exact ⟨Φ2, i2, r2, s1.trans s2⟩⟩
def Gh (f : FR) (σ : St) (K : FR → St → Prop) : Prop :=
 ∀ Φ w vs, Inv Φ w σ → FRel Φ vs f → ∃ f1 σ1 Φ1, f1.d = f.d ∧ K f1 σ1 ∧ Inv Φ1 w σ1 ∧ FRel Φ1 vs f1 ∧ Step Φ σ w Φ1 σ1 w
theorem Gh.done {f : FR} {σ : St} {K : FR → St → Prop} (h : K f σ) : Gh f σ K := fun Φ w vs hi hr => ⟨f, σ, Φ, rfl, h, hi, hr, .refl _ _ _⟩
theorem Gh.step {f f1 : FR} {σ σ1 : St} {K : FR → St → Prop} (g : Ghost f σ f1 σ1) (h : Gh f1 σ1 K) : Gh f σ K := fun Φ w vs hi hr => by
 obtain ⟨Φ1, i1, r1, s1⟩ := g.2 Φ w vs hi hr
 obtain ⟨f2, σ2, Φ2, e2, k2, i2, r2, s2⟩ := h Φ1 w vs i1 r1
 exact ⟨f2, σ2, Φ2, e2.trans g.1, k2, i2, r2, s1.trans s2⟩
theorem Gh.of {f f1 : FR} {σ σ1 : St} {K : FR → St → Prop} (g : Ghost f σ f1 σ1) (h : K f1 σ1) : Gh f σ K := Gh.step g (Gh.done h)
theorem mwp_gh {c : Code} (h : Gh f σ fun f1 σ1 => mwp P c f1 σ1 Q) : mwp P c f σ Q := by
 intro F hF Φ w a hi hr hd
 obtain ⟨f1, σ1, Φ1, hf, k1, i1, r1, s1⟩ := h Φ w a.tmps hi hr
 exact wpIn_mono (k1 F hF Φ1 w a i1 r1 (hf ▸ hd.step hi s1)) fun _ _ _ hq => lift_step s1 hq
theorem mwp_loop {α : Type} {c : Code} (F : α → FR) (S : α → St) (p : α → Prop) (μ : α → Nat) (h0 : Gh f σ fun f1 σ1 => ∃ a, f1 = F a ∧ σ1 = S a ∧ p a)
  (round : ∀ a, p a → mwp P c (F a) (S a) (thenQ (fun f' σ' => Gh f' σ' fun f1 σ1 => ∃ b, f1 = F b ∧ σ1 = S b ∧ p b ∧ μ b < μ a) Q)) : mwp P (.loop c) f σ Q := by
 refine mwp_gh (fun Φ w vs hi hr => ?_)
 obtain ⟨f1, σ1, Φ1, hf, ⟨a0, e1, e2, p0⟩, i1, r1, s1⟩ := h0 Φ w vs hi hr
 subst e1; subst e2
 refine ⟨_, _, Φ1, hf, ?_, i1, r1, s1⟩
 clear h0 hi hr s1 i1 r1 hf
 intro Fe hF Φ w a hi hr hd b k cs hro hb hroom
 have key : ∀ n x Φ w a, μ x = n → p x → Inv Φ w (S x) → FRel Φ a.tmps (F x) → DRel Φ w a.defers (F x).d →
   ∃ e a' w', lift Φ (S x) w Q e a' w' ∧ ArrivesIn (Machine.fenced P Fe) P (lone (b.atR a (.code c :: .inLoop c :: k)) cs w) b k cs e a' w' := by
  intro n
  induction n using Nat.strongRecOn with
  | _ n ih =>
   intro x Φ w a hn hI hi hr hd
   obtain ⟨e, a₁, w₁, hq, harr⟩ := round x hI Fe hF.loop Φ w a hi hr hd b (.inLoop c :: k) cs hro hb hroom
   cases e with
   | normal =>
    obtain ⟨f', σ', Φ', y1, y2, y3, y4, g2⟩ := hq
    obtain ⟨f2, σ2, Φ2, g0, ⟨x2, e1, e2, hI2, hlt⟩, i2, r2, s2⟩ := g2 Φ' w₁ a₁.tmps y3 y2
    subst e1; subst e2
    obtain ⟨e₂, a₂, w₂, hq₂, harr₂⟩ := ih (μ x2) (hn ▸ hlt) x2 Φ2 w₁ a₁ rfl hI2 i2 r2 (g0 ▸ y1.step y3 s2)
    exact ⟨e₂, a₂, w₂, lift_step y4 (lift_step s2 hq₂), .of_steps (StepsIn.trans harr (.one (fenced_calm hb hroom rfl) stepR_inLoop)) harr₂⟩
   | exit id => exact ⟨_, a₁, w₁, hq, .pass (x := .inLoop c) rfl (fun _ _ => .inl (by simp)) harr⟩
   | goto l => exact ⟨_, a₁, w₁, hq, .pass (x := .inLoop c) rfl (fun _ _ => .inl (by simp)) harr⟩
   | ret => exact ⟨_, a₁, w₁, hq, .pass (x := .inLoop c) rfl (fun _ _ => .inl (by simp)) harr⟩
   | panic ch => exact ⟨_, a₁, w₁, hq, .pass (x := .inLoop c) rfl (fun _ _ => .inl (by simp)) harr⟩
   | outgrown => exact ⟨_, a₁, w₁, hq, .pass (x := .inLoop c) rfl (fun _ _ => .inl (by simp)) harr⟩
 obtain ⟨e, a', w', hq, harr⟩ := key _ a0 Φ w a rfl p0 hi hr hd
 exact ⟨e, a', w', hq, .of_steps (.one (fenced_calm hb hroom rfl) stepR_loop) harr⟩
end rules
theorem Inv.less {Φ : Phi} {w : World} {σ σ1 : St} (hi : Inv Φ w σ) (h : ∀ l o, σ1 l = some o → σ l = some o) : Inv Φ w σ1 :=
 ⟨fun l o q => hi.own l o (h l o q), fun l l' o o' p p' R a b => hi.inj l l' o o' p p' R (h l o a) (h l' o' b), hi.snap, fun l o p R a v q => hi.apart l o p R a v (h l o q), hi.fresh⟩
theorem Owned.less {Φ : Phi} {σ σ1 : St} (h : ∀ l o, σ1 l = some o → σ l = some o) {R : Nat} (q : Owned Φ σ1 R) : Owned Φ σ R :=
 let ⟨l, o, p, a, b, c⟩ := q; ⟨l, o, p, h l o a, b, c⟩
theorem Step.less {Φ : Phi} {σ σ1 : St} (w : World) (h : ∀ l o, σ1 l = some o → σ l = some o) : Step Φ σ w Φ σ1 w :=
 ⟨.refl Φ, rfl, rfl, rfl, Nat.le_refl _, Nat.le_refl _, fun _ _ _ => rfl, fun _ _ h => .inl h, fun l o q => .inl ⟨o, h l o q⟩, fun _ q => .inl (q.less h)⟩
theorem Ghost.drop {f : FR} {σ σ1 : St} (h : ∀ l o, σ1 l = some o → σ l = some o) : Ghost f σ f σ1 := ⟨rfl, fun Φ w vs hi hr => ⟨Φ, hi.less h, hr, .less w h⟩⟩
inductive Weak : MV → MV → Prop where
 | same (m : MV) : Weak m m
 | junk (m : MV) : Weak m .junk
 | nil (e : Nat) (t : Bool) : Weak .nils (.lst e [] t)
 | tight (e : Nat) (xs : List (List MV)) : Weak (.lst e xs true) (.lst e xs false)
theorem Weak.rel {Φ : Phi} {v : Value} {m m' : MV} (h : Weak m m') (r : Rel Φ v m) : Rel Φ v m' := by
 cases h with
 | same => exact r
 | junk => exact .junk _
 | nil e t => cases r; exact .lstn e t
 | tight e xs =>
  cases r with
  | lstn => exact .lstn e _
  | lst0 a e cap t ht hm => exact .lst0 a e cap _ (by simp) hm
  | lst hl h0 hcap hm ht hx vs hc hr => exact .lst hl h0 hcap hm (by simp) hx vs hc hr
theorem Ghost.weak {f f1 : FR} {σ : St} (hl : f.n = f1.n) (hd : f1.d = f.d) (h : ∀ t, Weak (f.get t) (f1.get t)) : Ghost f σ f1 σ := ⟨hd, fun Φ w vs hi hr =>
 ⟨Φ, hi, ⟨hr.1.trans hl, fun t => (h t).rel (hr.2 t)⟩, .refl _ _ _⟩⟩
theorem Ghost.keep {n : Nat} {l l1 : List (Nat × MV)} {d : List (FuncId × List MV)} {σ : St} (h : ∀ p, p ∈ l1 → Weak (lget l p.1) p.2) : Ghost ⟨n, l, d⟩ σ ⟨n, l1, d⟩ σ :=
 Ghost.weak rfl rfl fun t => by
  show Weak (lget l t) (lget l1 t)
  induction l1 with
  | nil => exact .junk _
  | cons p r ih =>
   obtain ⟨k, v⟩ := p
   simp only [lget]
   split
   ·rename_i ht; subst ht; exact h (t, v) (by simp)
   ·exact ih fun q hq => h q (by simp [hq])
end Go.Proofs.YtjljgahfkcdhfaaGreatDoor
end

section
namespace Go.Proofs.YtjljgahfkcdhfaaGreatDoor
inductive TK where
 | bool | int (k : IntKind) | str | ptr (e : TypeId) | slice (e : TypeId) | array (n : Nat) (e : TypeId) | struct (fs : List (Nat × TypeId)) | map (k e : TypeId) | func | iface | other
 deriving Inhabited
def TK.isAgg : TK → Bool
 | .array .. | .struct _ => true
 | _ => false
structure TD where
 ok : Bool := false
 size : Nat := 0
 bytes : Nat := 0
 zok : Bool := false
 zero : List MV := []
 k : TK := .other
 deriving Inhabited
def tkOf : TypeDesc → TK
 | .bool => .bool
 | .int k => .int k
 | .string => .str
 | .pointer e => .ptr e
 | .slice e => .slice e
 | .array n e => .array n e
 | .struct fs => .struct (fs.toList.map fun f => (f.offset, f.type))
 | .map k e => .map k e
 | .func _ _ _ => .func
 | .interface _ => .iface
 | _ => .other
def zIsAgg : Value → Bool
 | .agg _ => true
 | _ => false
def zOk (size : Nat) (agg : Bool) : Option Value → Bool
 | some z => z.cells.size == size && z.cells.toList.all (fun v => (ofV v).isCell) && (agg == zIsAgg z)
 | none => false
def zCells : Option Value → List MV
 | some z => z.cells.toList.map ofV
 | none => []
def tdOf (i : TypeInfo) (d : TypeDesc) : TD := { ok := true, size := i.size, bytes := i.bytes, zok := zOk i.size (tkOf d).isAgg i.zero, zero := zCells i.zero, k := tkOf d }
def td (P : Program) (t : TypeId) : TD :=
 match P.info? t with
 | none => {}
 | some i => match P.underlying t with
  | none => {}
  | some d => tdOf i d
section
variable {P : Program} {t : TypeId}
theorem td_cases (P : Program) (t : TypeId) : td P t = {} ∨ ∃ i d, P.info? t = some i ∧ P.underlying t = some d ∧ td P t = tdOf i d := by
 unfold td
 split
 ·exact .inl rfl
 ·split
  ·exact .inl rfl
  ·exact .inr ⟨_, _, by assumption, by assumption, rfl⟩
theorem td_info (h : (td P t).ok = true) : ∃ i d, P.info? t = some i ∧ P.underlying t = some d ∧ (td P t).size = i.size ∧ (td P t).bytes = i.bytes ∧ (td P t).k = tkOf d := by
 rcases td_cases P t with hn | ⟨i, d, hi, hd, he⟩
 ·rw [hn] at h; cases h
 ·exact ⟨i, d, hi, hd, by rw [he]; rfl, by rw [he]; rfl, by rw [he]; rfl⟩
theorem und_of {k : TK} (h : (td P t).k = k) (hne : k ≠ .other) : (td P t).ok = true := by
 rcases td_cases P t with hn | ⟨i, d, hi, hd, he⟩
 ·rw [hn] at h; exact absurd h.symm hne
 ·rw [he]; rfl
theorem run_sizeOf' (h : (td P t).ok = true) (w : World) : (sizeOf t).run P w = .ok (td P t).size w := by
 obtain ⟨i, d, hi, hd, hs, hb, hk⟩ := td_info h
 simp [sizeOf, typeInfo, hi, hs]
theorem run_und' {d : TypeDesc} (h : P.underlying t = some d) (w : World) : (underlying t).run P w = .ok d w := by
 simp [underlying, h]
theorem run_isAgg' (h : (td P t).ok = true) (w : World) : (isAgg t).run P w = .ok (td P t).k.isAgg w := by
 obtain ⟨i, d, hi, hd, hs, hb, hk⟩ := td_info h
 rw [hk]
 simp only [isAgg, Sem.run_bind, run_und' hd, Result.andThen_ok]
 cases d <;> rfl
theorem und_slice {e : TypeId} (h : (td P t).k = .slice e) : P.underlying t = some (.slice e) := by
 obtain ⟨i, d, hi, hd, hs, hb, hk⟩ := td_info (und_of h (by simp))
 rw [hk] at h
 cases d <;> simp [tkOf] at h
 rw [hd, h]
theorem und_array {n : Nat} {e : TypeId} (h : (td P t).k = .array n e) : P.underlying t = some (.array n e) := by
 obtain ⟨i, d, hi, hd, hs, hb, hk⟩ := td_info (und_of h (by simp))
 rw [hk] at h
 cases d <;> simp [tkOf] at h
 rw [hd, h.1, h.2]
theorem und_struct {fs : List (Nat × TypeId)} (h : (td P t).k = .struct fs) : ∃ fa : Array Field, P.underlying t = some (.struct fa) ∧ fs = fa.toList.map fun f => (f.offset, f.type) := by
 obtain ⟨i, d, hi, hd, hs, hb, hk⟩ := td_info (und_of h (by simp))
 rw [hk] at h
 cases d <;> simp [tkOf] at h
 exact ⟨_, hd, h.symm⟩
theorem und_str (h : (td P t).k = .str) : P.underlying t = some .string := by
 obtain ⟨i, d, hi, hd, hs, hb, hk⟩ := td_info (und_of h (by simp))
 rw [hk] at h
 cases d <;> simp [tkOf] at h
 exact hd
theorem und_int {k : IntKind} (h : (td P t).k = .int k) : P.underlying t = some (.int k) := by
 obtain ⟨i, d, hi, hd, hs, hb, hk⟩ := td_info (und_of h (by simp))
 rw [hk] at h
 cases d <;> simp [tkOf] at h
 rw [hd, h]
theorem und_bool (h : (td P t).k = .bool) : P.underlying t = some .bool := by
 obtain ⟨i, d, hi, hd, hs, hb, hk⟩ := td_info (und_of h (by simp))
 rw [hk] at h
 cases d <;> simp [tkOf] at h
 exact hd
theorem und_ptr {e : TypeId} (h : (td P t).k = .ptr e) : P.underlying t = some (.pointer e) := by
 obtain ⟨i, d, hi, hd, hs, hb, hk⟩ := td_info (und_of h (by simp))
 rw [hk] at h
 cases d <;> simp [tkOf] at h
 rw [hd, h]
theorem und_map {k e : TypeId} (h : (td P t).k = .map k e) : P.underlying t = some (.map k e) := by
 obtain ⟨i, d, hi, hd, hs, hb, hk⟩ := td_info (und_of h (by simp))
 rw [hk] at h
 cases d <;> simp [tkOf] at h
 rw [hd, h.1, h.2]
theorem run_zero' (h : (td P t).zok = true) (w : World) : ∃ z, (zeroValue t).run P w = .ok z w ∧ z.cells.toList.map ofV = (td P t).zero ∧ z.cells.size = (td P t).size ∧ (td P t).ok = true ∧
  (∀ v, v ∈ z.cells.toList → (ofV v).isCell = true) ∧ ((td P t).k.isAgg = true → ∃ cs, z = .agg cs) ∧ ((td P t).k.isAgg = false → z.cells = #[z]) := by
 rcases td_cases P t with hn | ⟨i, d, hi, hd, he⟩
 ·rw [hn] at h; cases h
 ·rw [he] at h ⊢
  simp only [tdOf] at h ⊢
  cases hz : i.zero with
  | none => simp [hz, zOk] at h
  | some z =>
   simp only [hz, zOk, Bool.and_eq_true, beq_iff_eq, List.all_eq_true] at h
   refine ⟨z, by simp [zeroValue, typeInfo, hi, hz], rfl, h.1.1, trivial, h.1.2, fun hk => ?_, fun hk => ?_⟩
   ·rw [hk] at h
    cases z <;> simp [zIsAgg] at h ⊢
   ·rw [hk] at h
    cases z <;> first | rfl | simp [zIsAgg] at h
end
theorem add_none (b off n : Nat) : (⟨b, off, none⟩ : Addr).add n = ⟨b, off + n, none⟩ := by
 unfold Addr.add; split <;> simp_all
section
variable {Φ : Phi} {v : Value}
theorem Rel.inv_bool {b : Bool} (h : Rel Φ v (.bool b)) : v = .bool b := by cases h; rfl
theorem Rel.inv_int {k : IntKind} {n : Int} (h : Rel Φ v (.int k n)) : v = .int k n := by cases h; rfl
theorem Rel.inv_str {s : ByteArray} (h : Rel Φ v (.str s)) : v = .string s := by cases h; rfl
theorem Rel.inv_nilp (h : Rel Φ v .nilp) : v = .pointer none := by cases h; rfl
theorem Rel.inv_nils (h : Rel Φ v .nils) : v = .slice none 0 0 := by cases h; rfl
theorem Rel.inv_nilm (h : Rel Φ v .nilm) : v = .map none := by cases h; rfl
theorem Rel.inv_nilfn (h : Rel Φ v .nilfn) : v = .nilFunc := by cases h; rfl
theorem Rel.inv_ptr {l i o : Nat} (h : Rel Φ v (.ptr l i o)) : ∃ p R, Φ.obj l = some p ∧ p.blk = some R ∧ v = .pointer (some ⟨R, p.bo + i * p.e + o, none⟩) := by cases h with | ptr ho hb => exact ⟨_, _, ho, hb, rfl⟩
theorem Rel.inv_cptr {cs : List MV} (h : Rel Φ v (.cptr cs)) : ∃ (b off : Nat) (vs : Nat → Value), v = .pointer (some ⟨b, off, none⟩) ∧ (∀ (j : Nat) (m : MV), cs[j]? = some m → m.isCell = true ∧ Φ.snap ⟨b, off + j, none⟩ = some (vs j)) ∧ ∀ (j : Nat) (m : MV), cs[j]? = some m → Rel Φ (vs j) m := by
 cases h with | cptr vs hc hr => exact ⟨_, _, vs, rfl, hc, hr⟩
theorem Rel.inv_tup {ms : List MV} (h : Rel Φ v (.tup ms)) : ∃ cs : Array Value, v = .tuple cs ∧ cs.size = ms.length ∧ ∀ (i : Nat) m, ms[i]? = some m → Rel Φ (cs.getD i undef) m := by
 cases h with | tup h r => exact ⟨_, rfl, h, r⟩
theorem Rel.inv_agg {ms : List MV} (h : Rel Φ v (.agg ms)) : ∃ cs : Array Value, v = .agg cs ∧ cs.size = ms.length ∧ (∀ (i : Nat) m, ms[i]? = some m → m.isCell = true) ∧ ∀ (i : Nat) m, ms[i]? = some m → Rel Φ (cs.getD i undef) m := by
 cases h with | agg h hc r => exact ⟨_, rfl, h, hc, r⟩
theorem Rel.inv_fn {f : Fn} {ms ns : List MV} (h : Rel Φ v (.fn f ms ns)) : ∃ first cap : Array Value, v = .func f first cap ∧ Rels Φ first ms ∧ Rels Φ cap ns := by
 cases h with | fn _ h1 h2 r1 r2 => exact ⟨_, _, rfl, ⟨h1, r1⟩, ⟨h2, r2⟩⟩
def CellsAt (Φ : Phi) (b off e : Nat) (xs : List (List MV)) : Prop :=
 (∀ (i : Nat) (x : List MV), xs[i]? = some x → x.length = e) ∧ ∃ vs : Nat → Nat → Value,
  ∀ (i : Nat) (x : List MV) (j : Nat) (m : MV), xs[i]? = some x → x[j]? = some m → m.isCell = true ∧ Φ.snap ⟨b, off + (i * e + j), none⟩ = some (vs i j) ∧ Rel Φ (vs i j) m
theorem Rel.inv_lst {e : Nat} {xs : List (List MV)} {t : Bool} (h : Rel Φ v (.lst e xs t)) : ∃ a cap, v = .slice a xs.length cap ∧ xs.length ≤ cap ∧ cap ≤ maxLen ∧ (t = true → cap = xs.length) ∧ (a = none → cap = 0) ∧
  (0 < xs.length → ∃ b off, a = some ⟨b, off, none⟩ ∧ CellsAt Φ b off e xs) := by
 cases h with
 | lstn => exact ⟨none, 0, rfl, Nat.le_refl _, by simp [maxLen], fun _ => rfl, fun _ => rfl, fun h => by simp at h⟩
 | lst0 a e cap t ht hm => exact ⟨some a, cap, rfl, Nat.zero_le _, hm, ht, by simp, fun h => by simp at h⟩
 | lst hl h0 hcap hm ht hx vs hc hr => exact ⟨_, _, by rw [hl], by omega, hm, fun q => by rw [ht q, hl], by simp, fun _ => ⟨_, _, rfl, hx, vs, fun i x j m a b => ⟨(hc i x j m a b).1, (hc i x j m a b).2, hr i x j m a b⟩⟩⟩
theorem Rel.mk_lst {e len cap : Nat} {xs : List (List MV)} {t : Bool} {a : Option Addr} (hl : xs.length = len) (hc : len ≤ cap) (hm : cap ≤ maxLen) (ht : t = true → cap = len) (ha : a = none → cap = 0)
  (h : 0 < len → ∃ b off, a = some ⟨b, off, none⟩ ∧ CellsAt Φ b off e xs) : Rel Φ (.slice a len cap) (.lst e xs t) := by
 rcases Nat.eq_zero_or_pos len with h0 | h0
 ·subst h0
  have hx : xs = [] := List.eq_nil_of_length_eq_zero hl
  subst hx
  cases a with
  | none => rw [ha rfl]; exact .lstn e t
  | some a => exact .lst0 a e cap t ht hm
 ·obtain ⟨b, off, rfl, hx, vs, hv⟩ := h h0
  exact .lst hl h0 hc hm ht hx vs (fun i x j m p q => ⟨(hv i x j m p q).1, (hv i x j m p q).2.1⟩) (fun i x j m p q => (hv i x j m p q).2.2)
theorem CellsAt.drop {b off e k : Nat} {xs : List (List MV)} (h : CellsAt Φ b off e xs) : CellsAt Φ b (off + k * e) e (xs.drop k) := by
 obtain ⟨hx, vs, hv⟩ := h
 refine ⟨fun i x q => hx (k + i) x (by simpa using q), fun i j => vs (k + i) j, fun i x j m q r => ?_⟩
 have := hv (k + i) x j m (by simpa using q) r
 refine ⟨this.1, ?_, this.2.2⟩
 rw [← this.2.1, Nat.add_mul, Nat.add_assoc off, Nat.add_assoc (k * e)]
theorem CellsAt.take {b off e k : Nat} {xs : List (List MV)} (h : CellsAt Φ b off e xs) : CellsAt Φ b off e (xs.take k) := by
 obtain ⟨hx, vs, hv⟩ := h
 have key : ∀ (i : Nat) (x : List MV), (xs.take k)[i]? = some x → xs[i]? = some x := fun i x q => by
  rw [List.getElem?_take] at q
  split at q
  ·exact q
  ·cases q
 exact ⟨fun i x q => hx i x (key i x q), vs, fun i x j m q r => hv i x j m (key i x q) r⟩
theorem Rel.inv_vec {e l lo n : Nat} (h : Rel Φ v (.vec e l lo n)) : ∃ a cap p, v = .slice a n cap ∧ Φ.obj l = some p ∧ p.e = e ∧ lo + cap = p.C ∧ n ≤ cap ∧
  ((∃ R, p.blk = some R ∧ a = some ⟨R, p.bo + lo * p.e, none⟩) ∨ cap = 0) := by
 cases h with
 | vec ho hb hcap hn => exact ⟨_, _, _, rfl, ho, rfl, hcap, hn, .inl ⟨_, hb, rfl⟩⟩
 | vec0 a ho hC => exact ⟨_, _, _, rfl, ho, rfl, by omega, Nat.le_refl _, .inr rfl⟩
 | vecn ho hb hC => exact ⟨_, _, _, rfl, ho, rfl, by omega, Nat.le_refl _, .inr rfl⟩
theorem Rel.inv_mapv {l : Nat} (h : Rel Φ v (.mapv l)) : ∃ p R, Φ.obj l = some p ∧ p.blk = some R ∧ v = .map (some R) := by cases h with | mapv ho hb => exact ⟨_, _, ho, hb, rfl⟩
end
end Go.Proofs.YtjljgahfkcdhfaaGreatDoor
end

section
namespace Go.Proofs.YtjljgahfkcdhfaaGreatDoor
abbrev PV := Option (Prop × MV)
def andK (k : IntKind) (a b : Int) : Int := k.wrap (BitVec.ofInt k.bits a &&& BitVec.ofInt k.bits b).toNat
def orK (k : IntKind) (a b : Int) : Int := k.wrap (BitVec.ofInt k.bits a ||| BitVec.ofInt k.bits b).toNat
def xorK (k : IntKind) (a b : Int) : Int := k.wrap (BitVec.ofInt k.bits a ^^^ BitVec.ofInt k.bits b).toNat
def andNotK (k : IntKind) (a b : Int) : Int := k.wrap (BitVec.ofInt k.bits a &&& ~~~BitVec.ofInt k.bits b).toNat
def notK (k : IntKind) (n : Int) : Int := k.wrap (BitVec.ofInt k.bits (if k.signed then -1 else k.max) ^^^ BitVec.ofInt k.bits n).toNat
def intBin (op : BinOp) (k : IntKind) (a b : Int) : PV :=
 match op with
 | .add => some (True, .int k (k.wrap (a + b)))
 | .sub => some (True, .int k (k.wrap (a - b)))
 | .mul => some (True, .int k (k.wrap (a * b)))
 | .quo => some (b ≠ 0, .int k (k.wrap (a.tdiv b)))
 | .rem => some (b ≠ 0, .int k (a.tmod b))
 | .and => some (True, .int k (andK k a b))
 | .or => some (True, .int k (orK k a b))
 | .xor => some (True, .int k (xorK k a b))
 | .andNot => some (True, .int k (andNotK k a b))
 | .eql => some (True, .bool (a == b))
 | .neq => some (True, .bool (a != b))
 | .lss => some (True, .bool (decide (a < b)))
 | .leq => some (True, .bool (decide (a ≤ b)))
 | .gtr => some (True, .bool (decide (a > b)))
 | .geq => some (True, .bool (decide (a ≥ b)))
 | _ => none
def intShift (op : BinOp) (k : IntKind) (a b : Int) : PV :=
 match op with
 | .shl => some (0 ≤ b, .int k (k.wrap (a * 2 ^ (min b.toNat k.bits))))
 | .shr => some (0 ≤ b, .int k (a.fdiv (2 ^ (min b.toNat k.bits))))
 | _ => none
def strBin (op : BinOp) (x y : ByteArray) : PV :=
 match op with
 | .add => some (((x.size + y.size : Nat) : Int) ≤ 9223372036854775807, .str (x ++ y))
 | .eql => some (True, .bool (x.toList == y.toList))
 | .neq => some (True, .bool (!(x.toList == y.toList)))
 | .lss => some (True, .bool (Op.bytesLess x.toList y.toList))
 | .leq => some (True, .bool (Op.bytesLess x.toList y.toList || x.toList == y.toList))
 | .gtr => some (True, .bool (!(Op.bytesLess x.toList y.toList || x.toList == y.toList)))
 | .geq => some (True, .bool (!(Op.bytesLess x.toList y.toList)))
 | _ => none
def eqV (op : BinOp) (c : Prop) (b : Bool) : PV :=
 match op with
 | .eql => some (c, .bool b)
 | .neq => some (c, .bool (!b))
 | _ => none
def TK.isPtr : TK → Bool
 | .ptr _ => true
 | _ => false
def TK.isSl : TK → Bool
 | .slice _ => true
 | _ => false
def TK.isFn : TK → Bool
 | .func => true
 | _ => false
def TK.isBool : TK → Bool
 | .bool => true
 | _ => false
def mpart (d : TD) (cs : List MV) (off : Nat) : MV := if d.k.isAgg = true then .agg ((cs.drop off).take d.size) else cs.getD off .junk
def eqPlain (P : Program) (t : TypeId) : Bool := !P.stoodInHeld t && (P.fieldsOf t).toList.all (fun f => f.name != "_") && !P.eqGuardType P.depth t
def meqFields (P : Program) (g : TypeId → MV → MV → Option Bool) (xs ys : List MV) : List (Nat × TypeId) → Option Bool
 | [] => some true
 | (off, ft) :: r => if (td P ft).ok = true ∧ off + (td P ft).size ≤ xs.length ∧ off + (td P ft).size ≤ ys.length ∧ 0 < (td P ft).size then
   (match g ft (mpart (td P ft) xs off) (mpart (td P ft) ys off) with
   | none => none
   | some b => (meqFields P g xs ys r).map fun c => b && c)
  else none
def meqs (P : Program) : Nat → TypeId → MV → MV → Option Bool
 | 0, _, _, _ => none
 | d + 1, t, x, y => match (td P t).k, x, y with
  | .int _, .int k a, .int k' b => if k = k' then some (decide (a = b)) else none
  | .bool, .bool a, .bool b => some (a == b)
  | .str, .str a, .str b => some (decide (a = b))
  | .struct fs, .agg xs, .agg ys => if eqPlain P t = true then meqFields P (meqs P d) xs ys fs else none
  | .array n e, .agg xs, .agg ys => if (td P e).ok = true then meqFields P (meqs P d) xs ys ((List.range n).map fun i => (i * (td P e).size, e)) else none
  | _, _, _ => none
def mbin (P : Program) (t : TypeId) (op : BinOp) (x y : MV) : PV :=
 match x, y with
 | .int k a, .int k' b => match op with
  | .shl | .shr => intShift op k a b
  | _ => if k = k' then intBin op k a b else none
 | .str a, .str b => strBin op a b
 | .bool a, .bool b => eqV op ((td P t).k.isBool = true) (a == b)
 | .nilp, .nilp => eqV op ((td P t).k.isPtr = true) true
 | .ptr _ _ _, .nilp | .nilp, .ptr _ _ _ | .cptr _, .nilp | .nilp, .cptr _ => eqV op ((td P t).k.isPtr = true) false
 | .agg xs, .agg ys => match meqs P 6 t (.agg xs) (.agg ys) with
  | some b => eqV op (eqPlain P t = true) b
  | none => none
 | .nils, .nils => eqV op ((td P t).k.isSl = true) true
 | .lst _ (_ :: _) _, .nils => eqV op ((td P t).k.isSl = true) false
 | .nilfn, .nilfn => eqV op ((td P t).k.isFn = true) true
 | .fn _ _ _, .nilfn => eqV op ((td P t).k.isFn = true) false
 | _, _ => none
def mun (op : UnOp) (x : MV) : PV :=
 match op, x with
 | .neg, .int k n => some (True, .int k (k.wrap (0 - n)))
 | .xor, .int k n => some (True, .int k (notK k n))
 | .not, .bool b => some (True, .bool (!b))
 | _, _ => none
def mconv (P : Program) (s d : TypeId) (x : MV) : PV :=
 match x, (td P d).k, (td P s).ok with
 | .int _ n, .int k, true => some (True, .int k (k.wrap n))
 | .str s, .str, true => some (True, .str s)
 | _, _, _ => none
def chunks (e : Nat) : Nat → List MV → List (List MV)
 | 0, _ => []
 | n + 1, cs => cs.take e :: chunks e n (cs.drop e)
def mslice (P : Program) (t : TypeId) (x : MV) (lo hi mx : Option MV) : PV :=
 match x, lo, hi, mx with
 | .str s, some (.int _ l), some (.int _ h), none => some ((td P t).k = .str ∧ 0 ≤ l ∧ l ≤ h ∧ h ≤ s.size, .str (s.extract l.toNat h.toNat))
 | .str s, none, some (.int _ h), none => some ((td P t).k = .str ∧ 0 ≤ h ∧ h ≤ s.size, .str (s.extract 0 h.toNat))
 | .str s, some (.int _ l), none, none => some ((td P t).k = .str ∧ 0 ≤ l ∧ l ≤ s.size, .str (s.extract l.toNat s.size))
 | .lst e xs tt, lo, hi, mx => match (td P t).k with
  | .slice el => match lo, hi, mx with
   | some (.int _ l), some (.int _ h), none => some ((td P el).ok = true ∧ (td P el).size = e ∧ 0 ≤ l ∧ l ≤ h ∧ h ≤ xs.length, .lst e ((xs.take h.toNat).drop l.toNat) (tt && decide (h.toNat = xs.length)))
   | none, some (.int _ h), none => some ((td P el).ok = true ∧ (td P el).size = e ∧ 0 ≤ h ∧ h ≤ xs.length, .lst e (xs.take h.toNat) (tt && decide (h.toNat = xs.length)))
   | some (.int _ l), none, none => some ((td P el).ok = true ∧ (td P el).size = e ∧ 0 ≤ l ∧ l ≤ xs.length, .lst e (xs.drop l.toNat) tt)
   | none, some (.int _ h), some (.int _ m) => some ((td P el).ok = true ∧ (td P el).size = e ∧ 0 ≤ h ∧ h ≤ m ∧ m ≤ xs.length, .lst e (xs.take h.toNat) (decide (h = m)))
   | some (.int _ l), some (.int _ h), some (.int _ m) => some ((td P el).ok = true ∧ (td P el).size = e ∧ 0 ≤ l ∧ l ≤ h ∧ h ≤ m ∧ m ≤ xs.length, .lst e ((xs.take h.toNat).drop l.toNat) (decide (h = m)))
   | _, _, _ => none
  | _ => none
 | .vec e l lo0 n, lo, hi, mx => match (td P t).k with
  | .slice el => match lo, hi, mx with
   | some (.int _ l'), some (.int _ h), none => some ((td P el).ok = true ∧ (td P el).size = e ∧ 0 ≤ l' ∧ l' ≤ h ∧ h ≤ n, .vec e l (lo0 + l'.toNat) (h.toNat - l'.toNat))
   | none, some (.int _ h), none => some ((td P el).ok = true ∧ (td P el).size = e ∧ 0 ≤ h ∧ h ≤ n, .vec e l lo0 h.toNat)
   | some (.int _ l'), none, none => some ((td P el).ok = true ∧ (td P el).size = e ∧ 0 ≤ l' ∧ l' ≤ n, .vec e l (lo0 + l'.toNat) (n - l'.toNat))
   | some (.int _ l'), some (.int _ h), some (.int _ m) => some ((td P el).ok = true ∧ (td P el).size = e ∧ 0 ≤ l' ∧ l' ≤ h ∧ h ≤ m ∧ m ≤ n, .junk)
   | _, _, _ => none
  | _ => none
 | .cptr cs, none, none, none => match (td P t).k with
  | .array n el => some ((td P el).ok = true ∧ 0 < n ∧ (td P el).size * n ≤ cs.length ∧ n ≤ 9223372036854775807, .lst (td P el).size (chunks (td P el).size n cs) true)
  | _ => none
 | .nils, none, some (.int _ h), none => match (td P t).k with
  | .slice el => some ((td P el).ok = true ∧ h = 0, .nils)
  | _ => none
 | _, _, _, _ => none
def mfieldAddr (P : Program) (t : TypeId) (x : MV) (i : Nat) : PV :=
 match (td P t).k with
 | .struct fs => match fs[i]?, x with
  | some (off, ft), .ptr l j o => some ((td P ft).ok = true ∧ (td P ft).size ≠ 0, .ptr l j (o + off))
  | some (off, ft), .cptr cs => some ((td P ft).ok = true ∧ (td P ft).size ≠ 0, .cptr (cs.drop off))
  | _, _ => none
 | _ => none
def mindexAddr (P : Program) (t : TypeId) (x i : MV) : PV :=
 match (td P t).k, x, i with
 | .slice el, .lst e xs _, .int _ n => some ((td P el).ok = true ∧ (td P el).size = e ∧ 0 ≤ n ∧ n < xs.length, .cptr (xs.getD n.toNat []))
 | .slice el, .vec e l lo k, .int _ n => some ((td P el).ok = true ∧ (td P el).size = e ∧ 0 ≤ n ∧ n < k, .ptr l (lo + n.toNat) 0)
 | .array len el, .ptr l j o, .int _ n => some ((td P el).ok = true ∧ 0 ≤ n ∧ n < len, .ptr l j (o + n.toNat * (td P el).size))
 | .array len el, .cptr cs, .int _ n => some ((td P el).ok = true ∧ 0 ≤ n ∧ n < len, .cptr (cs.drop (n.toNat * (td P el).size)))
 | _, _, _ => none
def mindex (P : Program) (t : TypeId) (x i : MV) : PV :=
 match (td P t).k, x, i with
 | .str, .str s, .int _ n => some (0 ≤ n ∧ n < s.size, .int .u8 ((s.toList.getD n.toNat 0).toNat : Int))
 | .array len el, .agg cs, .int _ n => some ((td P el).ok = true ∧ 0 ≤ n ∧ n < len ∧ (td P el).size * len ≤ cs.length ∧ 0 < (td P el).size, mpart (td P el) cs (n.toNat * (td P el).size))
 | _, _, _ => none
def mfield (P : Program) (t : TypeId) (x : MV) (i : Nat) : PV :=
 match (td P t).k with
 | .struct fs => match fs[i]?, x with
  | some (off, ft), .agg cs => some ((td P ft).ok = true ∧ off + (td P ft).size ≤ cs.length ∧ 0 < (td P ft).size, mpart (td P ft) cs off)
  | _, _ => none
 | _ => none
def laid (cs : List MV) (off : Nat) (new : List MV) : List MV := cs.take off ++ new ++ cs.drop (off + new.length)
def buildFrom (P : Program) (f : FR) (place : Nat → Option (Nat × TypeId)) : List (Nat × Operand) → List MV → Option (Prop × List MV)
 | [], cs => some (True, cs)
 | (i, x) :: rest, cs => match place i with
  | none => none
  | some (off, ft) => match buildFrom P f place rest (laid cs off (mval f x).cells) with
   | none => none
   | some (C, r) => some (((td P ft).ok = true ∧ (mval f x).cells.length = (td P ft).size ∧ (∀ c, c ∈ (mval f x).cells → c.isCell = true) ∧ off + (mval f x).cells.length ≤ cs.length) ∧ C, r)
def mbuild (P : Program) (f : FR) (t : TypeId) (parts : Array (Nat × Operand)) : PV :=
 match (td P t).k with
 | .struct fs => match buildFrom P f (fun i => fs[i]?) parts.toList (td P t).zero with
  | some (C, cs) => some ((td P t).zok = true ∧ (fs.all fun x => (td P x.2).ok) = true ∧ C, .agg cs)
  | none => none
 | .array n el => match buildFrom P f (fun i => some (i * (td P el).size, el)) parts.toList (td P t).zero with
  | some (C, cs) => some ((td P t).zok = true ∧ (td P el).ok = true ∧ C, .agg cs)
  | none => none
 | _ => none
def mlen (P : Program) (t : TypeId) (x : MV) : PV :=
 match x with
 | .str s => some ((td P t).k = .str, .int .i64 s.size)
 | .lst _ xs _ => match (td P t).k with | .slice _ => some (True, .int .i64 xs.length) | _ => none
 | .vec _ _ _ n => match (td P t).k with | .slice _ => some (True, .int .i64 n) | _ => none
 | .nils => match (td P t).k with | .slice _ => some (True, .int .i64 0) | _ => none
 | .nilm => match (td P t).k with | .map _ _ => some (True, .int .i64 0) | _ => none
 | _ => none
def mcap (P : Program) (t : TypeId) (x : MV) : PV :=
 match x with
 | .nils => match (td P t).k with | .slice _ => some (True, .int .i64 0) | _ => none
 | _ => none
def mmin2 (x y : MV) : PV :=
 match x, y with
 | .int k a, .int _ b => some (True, .int k (if b < a then b else a))
 | _, _ => none
def mmax2 (x y : MV) : PV :=
 match x, y with
 | .int k a, .int _ b => some (True, .int k (if b > a then b else a))
 | _, _ => none
def mbuiltin (P : Program) (b : Builtin) (ts : Array TypeId) (xs : List MV) : PV :=
 match b, xs with
 | .len, [x] => mlen P (ts.getD 0 0) x
 | .min, [x, y] => mmin2 x y
 | .max, [x, y] => mmax2 x y
 | .cap, [x] => mcap P (ts.getD 0 0) x
 | _, _ => none
def gidx (P : Program) (t : TypeId) (g : Nat) (i : MV) : PV :=
 match (td P t).k, i with
 | .array len el, .int _ n => (GT g n.toNat).bind fun v => some ((td P el).ok = true ∧ (td P el).size = 1 ∧ 0 ≤ n ∧ n < len ∧ (ofV v).isCell = true, .cptr [ofV v])
 | _, _ => none
def qop (P : Program) (f : FR) : Op → PV
 | .move x | .assign x => some (True, mval f x)
 | .pick c a b => match mval f c with
  | .bool t => some (True, if t = true then mval f a else mval f b)
  | _ => none
 | .nilCheck x => match mval f x with
  | .ptr l i o => some (True, .ptr l i o)
  | .cptr cs => some (True, .cptr cs)
  | _ => none
 | .binOp op t x y _ => mbin P t op (mval f x) (mval f y)
 | .unOp op _ x => mun op (mval f x)
 | .convert s d x => mconv P s d (mval f x)
 | .makeInterface t x => match (td P t).k, (td P t).ok with
  | .iface, _ => none
  | _, true => some (True, .iface t (mval f x))
  | _, _ => none
 | .makeFunc fn first cap => some (True, .fn fn (first.toList.map (mval f)) (cap.toList.map (mval f)))
 | .slice t x lo hi mx => mslice P t (mval f x) (lo.map (mval f)) (hi.map (mval f)) (mx.map (mval f))
 | .fieldAddr t x i => mfieldAddr P t (mval f x) i
 | .field t x i => mfield P t (mval f x) i
 | .indexAddr t (.global g) i => gidx P t g (mval f i)
 | .indexAddr t x i => mindexAddr P t (mval f x) (mval f i)
 | .index t x i => mindex P t (mval f x) (mval f i)
 | .extract x i => match mval f x with
  | .tup vs => match vs[i]? with | some v => some (True, v) | none => none
  | _ => none
 | .build t parts => mbuild P f t parts
 | .call { callee := .builtin b, args, argTypes } => mbuiltin P b argTypes (args.toList.map (mval f))
 | _ => none
end Go.Proofs.YtjljgahfkcdhfaaGreatDoor
end

section
namespace Go.Proofs.YtjljgahfkcdhfaaGreatDoor
section
variable {P : Program} {Φ : Phi}
theorem intBin_sound {op : BinOp} {k : IntKind} {a b : Int} {C : Prop} {mv : MV} (h : intBin op k a b = some (C, mv)) (hC : C) (t : TypeId) :
  ∃ v, (∀ w, (binOp op t (.int k a) (.int k b)).run P w = .ok v w) ∧ Rel Φ v mv := by
 cases op <;> simp only [intBin, Option.some.injEq, Prod.mk.injEq, reduceCtorEq] at h <;> obtain ⟨rfl, rfl⟩ := h
 case quo => exact ⟨_, fun w => by simp only [binOp, ne_eq, not_true_eq_false, if_false, Op.intDiv, if_neg hC, Sem.run_pure], .int _ _⟩
 case rem => exact ⟨_, fun w => by simp only [binOp, ne_eq, not_true_eq_false, if_false, Op.intDiv, if_neg hC, Sem.run_pure], .int _ _⟩
 all_goals refine ⟨_, fun w => by simp only [binOp, ne_eq, not_true_eq_false, if_false, Op.intArith, Op.intBits, Op.intCmp, Sem.run_pure]; rfl, ?_⟩
 all_goals first | exact .int _ _ | exact .bool _
theorem intShift_sound {op : BinOp} {k k' : IntKind} {a b : Int} {C : Prop} {mv : MV} (h : intShift op k a b = some (C, mv)) (hC : C) (t : TypeId) :
  ∃ v, (∀ w, (binOp op t (.int k a) (.int k' b)).run P w = .ok v w) ∧ Rel Φ v mv := by
 cases op <;> simp only [intShift, Option.some.injEq, Prod.mk.injEq, reduceCtorEq] at h <;> obtain ⟨rfl, rfl⟩ := h <;>
  exact ⟨_, fun w => by simp [binOp, Op.shift, show ¬ b < 0 by omega], .int _ _⟩
theorem strBin_sound {op : BinOp} {x y : ByteArray} {C : Prop} {mv : MV} (h : strBin op x y = some (C, mv)) (hC : C) (t : TypeId) :
  ∃ v, (∀ w, (binOp op t (.string x) (.string y)).run P w = .ok v w) ∧ Rel Φ v mv := by
 cases op <;> simp only [strBin, Option.some.injEq, Prod.mk.injEq, reduceCtorEq] at h <;> obtain ⟨rfl, rfl⟩ := h <;>
  first
  | exact ⟨_, fun w => by simp [binOp, Op.stringOp], .bool _⟩
  | exact ⟨.string (x ++ y), fun w => by
    have h2 : ¬ ((x.size + y.size : Nat) : Int) > IntKind.i64.max := by
     simp only [IntKind.max, IntKind.signed, IntKind.bits]
     have := hC
     simp
     omega
    unfold binOp
    simp only [Op.stringOp, if_neg h2, Sem.run_pure], .str _⟩
theorem eqGuard_int {op : BinOp} {t : TypeId} {x y : Operand} {k k' : IntKind} {a b : Int} (w : World) : (eqGuard op t x y (.int k a) (.int k' b)).run P w = .ok () w := by cases op <;> rfl
theorem eqGuard_str {op : BinOp} {t : TypeId} {x y : Operand} {a b : ByteArray} (w : World) : (eqGuard op t x y (.string a) (.string b)).run P w = .ok () w := by cases op <;> rfl
theorem eqGuard_bool {op : BinOp} {t : TypeId} {x y : Operand} {a b : Bool} (w : World) : (eqGuard op t x y (.bool a) (.bool b)).run P w = .ok () w := by cases op <;> rfl
theorem eqGuard_ptr {op : BinOp} {t : TypeId} {x y : Operand} {a b : Option Addr} (w : World) : (eqGuard op t x y (.pointer a) (.pointer b)).run P w = .ok () w := by cases op <;> rfl
theorem tk_bool {t : TypeId} (h : (td P t).k.isBool = true) : P.underlying t = some .bool := und_bool (by
 cases hk : (td P t).k <;> simp [hk, TK.isBool] at h; rfl)
theorem tk_ptr {t : TypeId} (h : (td P t).k.isPtr = true) : ∃ e, P.underlying t = some (.pointer e) := by
 cases hk : (td P t).k <;> simp [hk, TK.isPtr] at h
 exact ⟨_, und_ptr hk⟩
theorem eqGuard_sl {op : BinOp} {t : TypeId} {x y : Operand} {a b : Option Addr} {n c n' c' : Nat} (w : World) : (eqGuard op t x y (.slice a n c) (.slice b n' c')).run P w = .ok () w := by cases op <;> rfl
theorem tk_sl {t : TypeId} (h : (td P t).k.isSl = true) : ∃ e, P.underlying t = some (.slice e) := by
 cases hk : (td P t).k <;> simp [hk, TK.isSl] at h
 exact ⟨_, und_slice hk⟩
theorem run_equalIn_sl_nil {t e : TypeId} (h : P.underlying t = some (.slice e)) (a : Option Addr) (n c : Nat) (w : World) (d : Nat) : (Op.equalIn (d + 1) t (.slice a n c) (.slice none 0 0)).run P w = .ok a.isNone w := by
 cases a <;> simp only [Op.equalIn, Sem.run_bind, run_und' h, Result.andThen_ok, Sem.run_pure] <;> rfl
theorem run_equal_sl_nil {t e : TypeId} (h : P.underlying t = some (.slice e)) (a : Option Addr) (n c : Nat) (w : World) : (Op.equal t (.slice a n c) (.slice none 0 0)).run P w = .ok a.isNone w := run_equalIn_sl_nil h a n c w 9999
theorem run_equalIn_ptr_nil {t e : TypeId} (h : P.underlying t = some (.pointer e)) (a : Option Addr) (w : World) (d : Nat) : (Op.equalIn (d + 1) t (.pointer a) (.pointer none)).run P w = .ok a.isNone w := by
 cases a <;> simp only [Op.equalIn, Sem.run_bind, run_und' h, Result.andThen_ok, Sem.run_pure] <;> rfl
theorem run_equalIn_nil_ptr {t e : TypeId} (h : P.underlying t = some (.pointer e)) (a : Option Addr) (w : World) (d : Nat) : (Op.equalIn (d + 1) t (.pointer none) (.pointer a)).run P w = .ok a.isNone w := by
 cases a <;> simp only [Op.equalIn, Sem.run_bind, run_und' h, Result.andThen_ok, Sem.run_pure]
theorem run_equalIn_bool2 {t : TypeId} (h : P.underlying t = some .bool) (a b : Bool) (w : World) (d : Nat) : (Op.equalIn (d + 1) t (.bool a) (.bool b)).run P w = .ok (a == b) w := by
 simp only [Op.equalIn, Sem.run_bind, run_und' h, Result.andThen_ok, Sem.run_pure]
theorem run_equal_ptr_nil {t e : TypeId} (h : P.underlying t = some (.pointer e)) (a : Option Addr) (w : World) : (Op.equal t (.pointer a) (.pointer none)).run P w = .ok a.isNone w := run_equalIn_ptr_nil h a w 9999
theorem run_equal_nil_ptr {t e : TypeId} (h : P.underlying t = some (.pointer e)) (a : Option Addr) (w : World) : (Op.equal t (.pointer none) (.pointer a)).run P w = .ok a.isNone w := run_equalIn_nil_ptr h a w 9999
theorem run_equal_bool {t : TypeId} (h : P.underlying t = some .bool) (a b : Bool) (w : World) : (Op.equal t (.bool a) (.bool b)).run P w = .ok (a == b) w := run_equalIn_bool2 h a b w 9999
theorem eqGuard_fn {op : BinOp} {t : TypeId} {x y : Operand} {f : Fn} {a b : Array Value} (w : World) : (eqGuard op t x y (.func f a b) .nilFunc).run P w = .ok () w := by cases op <;> rfl
theorem eqGuard_nfn {op : BinOp} {t : TypeId} {x y : Operand} (w : World) : (eqGuard op t x y .nilFunc .nilFunc).run P w = .ok () w := by cases op <;> rfl
theorem tk_fn {t : TypeId} (h : (td P t).k.isFn = true) : ∃ a b c, P.underlying t = some (.func a b c) := by
 have h : (td P t).k = .func := by cases hk : (td P t).k <;> simp [hk, TK.isFn] at h; rfl
 obtain ⟨i, d, hi, hd, hs, hb, hk⟩ := td_info (und_of h (by simp))
 rw [hk] at h
 cases d <;> simp [tkOf] at h
 exact ⟨_, _, _, hd⟩
theorem run_equalIn_fn_nil {t : TypeId} {a b c} (h : P.underlying t = some (.func a b c)) (f : Fn) (x y : Array Value) (w : World) (d : Nat) : (Op.equalIn (d + 1) t (.func f x y) .nilFunc).run P w = .ok false w := by
 simp only [Op.equalIn, Sem.run_bind, run_und' h, Result.andThen_ok, Sem.run_pure]
theorem run_equalIn_nil_nil {t : TypeId} {a b c} (h : P.underlying t = some (.func a b c)) (w : World) (d : Nat) : (Op.equalIn (d + 1) t .nilFunc .nilFunc).run P w = .ok true w := by
 simp only [Op.equalIn, Sem.run_bind, run_und' h, Result.andThen_ok, Sem.run_pure]
theorem run_equal_fn_nil {t : TypeId} {a b c} (h : P.underlying t = some (.func a b c)) (f : Fn) (x y : Array Value) (w : World) : (Op.equal t (.func f x y) .nilFunc).run P w = .ok false w := run_equalIn_fn_nil h f x y w 9999
theorem run_equal_nil_nil {t : TypeId} {a b c} (h : P.underlying t = some (.func a b c)) (w : World) : (Op.equal t .nilFunc .nilFunc).run P w = .ok true w := run_equalIn_nil_nil h w 9999
theorem Rel.ptr_shape {v : Value} {l i o : Nat} (h : Rel Φ v (.ptr l i o)) : ∃ a, v = .pointer (some a) := by obtain ⟨p, R, _, _, rfl⟩ := h.inv_ptr; exact ⟨_, rfl⟩
theorem Rel.cptr_shape {v : Value} {cs : List MV} (h : Rel Φ v (.cptr cs)) : ∃ a, v = .pointer (some a) := by obtain ⟨b, off, vs, rfl, _, _⟩ := h.inv_cptr; exact ⟨_, rfl⟩
theorem eqV_sound {op : BinOp} {t : TypeId} {c : Prop} {b : Bool} {C : Prop} {mv : MV} {v1 v2 : Value} (h : eqV op c b = some (C, mv)) (hC : C)
  (hb : binOp .eql t v1 v2 = (do pure (.bool (← Op.equal t v1 v2)))) (hb' : binOp .neq t v1 v2 = (do pure (.bool (!(← Op.equal t v1 v2))))) (he : c → ∀ w, (Op.equal t v1 v2).run P w = .ok b w) :
  ∃ v, (∀ w, (binOp op t v1 v2).run P w = .ok v w) ∧ Rel Φ v mv := by
 cases op <;> simp only [eqV, Option.some.injEq, Prod.mk.injEq, reduceCtorEq] at h <;> obtain ⟨rfl, rfl⟩ := h
 ·exact ⟨_, fun w => by rw [hb]; simp [he hC w], .bool _⟩
 ·exact ⟨_, fun w => by rw [hb']; simp [he hC w], .bool _⟩
theorem getD_of {α : Type} {l : List α} {i : Nat} {d : α} (h : i < l.length) : l[i]? = some (l.getD i d) := by
 simp [List.getD, List.getElem?_eq_getElem h]
theorem part_sound {t : TypeId} (hok : (td P t).ok = true) {cs : Array Value} {ms : List MV} {off : Nat} (hs : cs.size = ms.length) (hc : ∀ (i : Nat) m, ms[i]? = some m → m.isCell = true) (hr : ∀ (i : Nat) m, ms[i]? = some m → Rel Φ (cs.getD i undef) m)
  (h1 : off + (td P t).size ≤ ms.length) (h2 : 0 < (td P t).size) : ∃ v, (∀ w, (part t cs off).run P w = .ok v w) ∧ Rel Φ v (mpart (td P t) ms off) := by
 unfold mpart
 cases hk : (td P t).k.isAgg with
 | true =>
  simp only [if_true]
  refine ⟨.agg (cs.extract off (off + (td P t).size)), fun w => by simp [part, run_isAgg' hok, hk, run_sizeOf' hok], .agg ?_ (fun i m hm => ?_) (fun i m hm => ?_)⟩
  ·simp only [Array.size_extract, List.length_take, List.length_drop]; omega
  ·rw [List.getElem?_take] at hm
   split at hm
   ·exact hc _ m (by simpa using hm)
   ·cases hm
  ·rw [List.getElem?_take] at hm
   split at hm
   ·rename_i hi
    have := hr (off + i) m (by simpa using hm)
    have e : (cs.extract off (off + (td P t).size)).getD i undef = cs.getD (off + i) undef := by
     simp only [Array.getD_eq_getD_getElem?]
     congr 1
     rw [Array.getElem?_extract]
     rw [if_pos (by omega)]
    rw [e]
    exact this
   ·cases hm
 | false =>
  have hlt : off < cs.size := by omega
  refine ⟨cs.getD off undef, fun w => ?_, ?_⟩
  ·have : cs[off]? = some (cs.getD off undef) := by simp [Array.getD_eq_getD_getElem?, Array.getElem?_eq_getElem hlt]
   simp only [part, Sem.run_bind, run_isAgg' hok, hk, Result.andThen_ok, Bool.false_eq_true, if_false, this, Sem.run_pure]
  ·simp only [Bool.false_eq_true, if_false]
   exact hr off _ (getD_of (by omega))
theorem meqFields_sound {t : TypeId} {g : TypeId → MV → MV → Option Bool} {dd : Nat} (hg : ∀ t x y b, g t x y = some b → ∀ v1 v2, Rel Φ v1 x → Rel Φ v2 y → ∀ w, (Op.equalIn dd t v1 v2).run P w = .ok b w)
  {xs ys : List MV} {cx cy : Array Value} (hsx : cx.size = xs.length) (hcx : ∀ (i : Nat) m, xs[i]? = some m → m.isCell = true) (hrx : ∀ (i : Nat) m, xs[i]? = some m → Rel Φ (cx.getD i undef) m)
  (hsy : cy.size = ys.length) (hcy : ∀ (i : Nat) m, ys[i]? = some m → m.isCell = true) (hry : ∀ (i : Nat) m, ys[i]? = some m → Rel Φ (cy.getD i undef) m) (w : World) :
  ∀ (fs : List Field) (b : Bool), (∀ f, f ∈ fs → f.name ≠ "_") → meqFields P g xs ys (fs.map fun f => (f.offset, f.type)) = some b → (Op.eqFields dd cx cy fs).run P w = .ok b w := by
 intro fs
 induction fs with
 | nil => intro b _ h; simp [meqFields] at h; subst h; simp [Op.eqFields]
 | cons f r ih =>
  intro b hn h
  simp only [List.map_cons, meqFields] at h
  split at h
  ·rename_i hc
   obtain ⟨hok, h1, h2, h3⟩ := hc
   split at h
   ·cases h
   ·rename_i b1 hb1
    simp only [Option.map_eq_some_iff] at h
    obtain ⟨b2, hb2, rfl⟩ := h
    obtain ⟨v1, hv1, r1⟩ := part_sound hok hsx hcx hrx h1 h3
    obtain ⟨v2, hv2, r2⟩ := part_sound hok hsy hcy hry h2 h3
    have hn0 := hn f (by simp)
    simp only [Op.eqFields, ne_eq, hn0, not_false_eq_true, if_true, Sem.run_bind, hv1 w, hv2 w, Result.andThen_ok, hg _ _ _ _ hb1 v1 v2 r1 r2 w]
    cases b1
    ·simp
    ·simp only [Bool.not_true, Bool.false_eq_true, if_false, Bool.true_and]
     exact ih b2 (fun f hf => hn f (by simp [hf])) hb2
  ·cases h
theorem meqItems_sound {e : TypeId} (hok : (td P e).ok = true) {g : TypeId → MV → MV → Option Bool} {dd : Nat} (hg : ∀ t x y b, g t x y = some b → ∀ v1 v2, Rel Φ v1 x → Rel Φ v2 y → ∀ w, (Op.equalIn dd t v1 v2).run P w = .ok b w)
  {xs ys : List MV} {cx cy : Array Value} (hsx : cx.size = xs.length) (hcx : ∀ (i : Nat) m, xs[i]? = some m → m.isCell = true) (hrx : ∀ (i : Nat) m, xs[i]? = some m → Rel Φ (cx.getD i undef) m)
  (hsy : cy.size = ys.length) (hcy : ∀ (i : Nat) m, ys[i]? = some m → m.isCell = true) (hry : ∀ (i : Nat) m, ys[i]? = some m → Rel Φ (cy.getD i undef) m) (w : World) :
  ∀ (is : List Nat) (b : Bool), meqFields P g xs ys (is.map fun i => (i * (td P e).size, e)) = some b → (Op.eqItems dd e (td P e).size cx cy is).run P w = .ok b w := by
 intro is
 induction is with
 | nil => intro b h; simp [meqFields] at h; subst h; simp [Op.eqItems]
 | cons i r ih =>
  intro b h
  simp only [List.map_cons, meqFields] at h
  split at h
  ·rename_i hc
   obtain ⟨hok, h1, h2, h3⟩ := hc
   split at h
   ·cases h
   ·rename_i b1 hb1
    simp only [Option.map_eq_some_iff] at h
    obtain ⟨b2, hb2, rfl⟩ := h
    obtain ⟨v1, hv1, r1⟩ := part_sound hok hsx hcx hrx h1 h3
    obtain ⟨v2, hv2, r2⟩ := part_sound hok hsy hcy hry h2 h3
    simp only [Op.eqItems, Sem.run_bind, hv1 w, hv2 w, Result.andThen_ok, hg _ _ _ _ hb1 v1 v2 r1 r2 w]
    cases b1
    ·simp
    ·simp only [Bool.not_true, Bool.false_eq_true, if_false, Bool.true_and]
     exact ih b2 hb2
  ·cases h
theorem meqs_sound : ∀ (d : Nat) (t : TypeId) (x y : MV) (b : Bool), meqs P d t x y = some b → ∀ v1 v2, Rel Φ v1 x → Rel Φ v2 y → ∀ (D : Nat) w, (Op.equalIn (D + d) t v1 v2).run P w = .ok b w := by
 intro d
 induction d with
 | zero => intro t x y b h; simp [meqs] at h
 | succ d ih =>
  intro t x y b h v1 v2 r1 r2 D w
  simp only [meqs] at h
  split at h
  ·rename_i q k a k' c hk
   cases r1.inv_int; cases r2.inv_int
   split at h
   ·rename_i hkk; subst hkk; cases h
    rw [show D + (d + 1) = (D + d) + 1 from rfl]
    simp only [Op.equalIn, Sem.run_bind, run_und' (und_int hk), Result.andThen_ok, if_true, Sem.run_pure]
    rfl
   ·cases h
  ·rename_i a c hk
   cases r1.inv_bool; cases r2.inv_bool; cases h
   rw [show D + (d + 1) = (D + d) + 1 from rfl]
   simp only [Op.equalIn, Sem.run_bind, run_und' (und_bool hk), Result.andThen_ok, Sem.run_pure]
  ·rename_i a c hk
   cases r1.inv_str; cases r2.inv_str; cases h
   rw [show D + (d + 1) = (D + d) + 1 from rfl]
   simp only [Op.equalIn, Sem.run_bind, run_und' (und_str hk), Result.andThen_ok, Sem.run_pure]
   congr 1
   obtain ⟨⟨p⟩⟩ := a
   obtain ⟨⟨q⟩⟩ := c
   show ((⟨p⟩ : Array UInt8) == ⟨q⟩) = _
   rw [Bool.eq_iff_iff]
   simp
  ·rename_i fs xs ys hk
   split at h
   ·rename_i hp
    obtain ⟨cx, rfl, hsx, hcx, hrx⟩ := r1.inv_agg
    obtain ⟨cy, rfl, hsy, hcy, hry⟩ := r2.inv_agg
    obtain ⟨fa, hu, rfl⟩ := und_struct hk
    have hf : P.fieldsOf t = fa := by simp [Program.fieldsOf, hu]
    simp only [eqPlain, Bool.and_eq_true, Bool.not_eq_true', List.all_eq_true, bne_iff_ne] at hp
    rw [show D + (d + 1) = (D + d) + 1 from rfl, run_equalIn_struct w (D + d) t cx cy (by rw [hf]; exact hu) hp.1.1, hf]
    refine meqFields_sound (P := P) (Φ := Φ) (t := t) (g := meqs P d) (dd := D + d) (fun t x y b h v1 v2 r1 r2 w => ih t x y b h v1 v2 r1 r2 D w) hsx hcx hrx hsy hcy hry w fa.toList b (fun f hf' => hp.1.2 f (by rw [hf]; exact hf')) h
   ·cases h
  ·rename_i n e xs ys hk
   split at h
   ·rename_i hok
    obtain ⟨cx, rfl, hsx, hcx, hrx⟩ := r1.inv_agg
    obtain ⟨cy, rfl, hsy, hcy, hry⟩ := r2.inv_agg
    obtain ⟨i, q, hi, hq, hs, -, -⟩ := td_info hok
    have hce : P.cellsOf e = (td P e).size := by rw [hs]; simp [Program.cellsOf, hi]
    rw [show D + (d + 1) = (D + d) + 1 from rfl, run_equalIn_array w (D + d) cx cy (und_array hk) hi, hce]
    exact meqItems_sound (P := P) (Φ := Φ) hok (g := meqs P d) (dd := D + d) (fun t x y b h v1 v2 r1 r2 w => ih t x y b h v1 v2 r1 r2 D w) hsx hcx hrx hsy hcy hry w _ b h
   ·cases h
  ·cases h
theorem mbin_sound {t : TypeId} {op : BinOp} {x y : MV} {C : Prop} {mv : MV} (h : mbin P t op x y = some (C, mv)) (hC : C) {v1 v2 : Value} (r1 : Rel Φ v1 x) (r2 : Rel Φ v2 y) (o1 o2 : Operand) :
  ∃ v, (∀ w, (eqGuard op t o1 o2 v1 v2).run P w = .ok () w ∧ (binOp op t v1 v2).run P w = .ok v w) ∧ Rel Φ v mv := by
 unfold mbin at h
 split at h
 ·rename_i k a k' b
  cases r1.inv_int; cases r2.inv_int
  have hg : ∀ w, (eqGuard op t o1 o2 (.int k a) (.int k' b)).run P w = .ok () w := fun w => eqGuard_int w
  split at h
  ·obtain ⟨v, hv, hr⟩ := intShift_sound (P := P) (Φ := Φ) (k' := k') h hC t
   exact ⟨v, fun w => ⟨hg w, hv w⟩, hr⟩
  ·obtain ⟨v, hv, hr⟩ := intShift_sound (P := P) (Φ := Φ) (k' := k') h hC t
   exact ⟨v, fun w => ⟨hg w, hv w⟩, hr⟩
  ·split at h
   ·rename_i hk
    subst hk
    obtain ⟨v, hv, hr⟩ := intBin_sound (P := P) (Φ := Φ) h hC t
    exact ⟨v, fun w => ⟨hg w, hv w⟩, hr⟩
   ·cases h
 ·cases r1.inv_str; cases r2.inv_str
  obtain ⟨v, hv, hr⟩ := strBin_sound (P := P) (Φ := Φ) h hC t
  exact ⟨v, fun w => ⟨eqGuard_str w, hv w⟩, hr⟩
 ·cases r1.inv_bool; cases r2.inv_bool
  obtain ⟨v, hv, hr⟩ := eqV_sound (P := P) (Φ := Φ) (t := t) h hC rfl rfl (fun hc w => run_equal_bool (tk_bool hc) _ _ w)
  exact ⟨v, fun w => ⟨eqGuard_bool w, hv w⟩, hr⟩
 ·cases r1.inv_nilp; cases r2.inv_nilp
  obtain ⟨v, hv, hr⟩ := eqV_sound (P := P) (Φ := Φ) (t := t) (v1 := .pointer none) (v2 := .pointer none) h hC rfl rfl (fun hc w => by obtain ⟨e, he⟩ := tk_ptr hc; exact run_equal_ptr_nil he none w)
  exact ⟨v, fun w => ⟨eqGuard_ptr w, hv w⟩, hr⟩
 ·obtain ⟨ad, rfl⟩ := r1.ptr_shape; cases r2.inv_nilp
  obtain ⟨v, hv, hr⟩ := eqV_sound (P := P) (Φ := Φ) (t := t) (v1 := .pointer (some ad)) (v2 := .pointer none) h hC rfl rfl (fun hc w => by obtain ⟨e, he⟩ := tk_ptr hc; exact run_equal_ptr_nil he (some ad) w)
  exact ⟨v, fun w => ⟨eqGuard_ptr w, hv w⟩, hr⟩
 ·obtain ⟨ad, rfl⟩ := r2.ptr_shape; cases r1.inv_nilp
  obtain ⟨v, hv, hr⟩ := eqV_sound (P := P) (Φ := Φ) (t := t) (v1 := .pointer none) (v2 := .pointer (some ad)) h hC rfl rfl (fun hc w => by obtain ⟨e, he⟩ := tk_ptr hc; exact run_equal_nil_ptr he (some ad) w)
  exact ⟨v, fun w => ⟨eqGuard_ptr w, hv w⟩, hr⟩
 ·obtain ⟨ad, rfl⟩ := r1.cptr_shape; cases r2.inv_nilp
  obtain ⟨v, hv, hr⟩ := eqV_sound (P := P) (Φ := Φ) (t := t) (v1 := .pointer (some ad)) (v2 := .pointer none) h hC rfl rfl (fun hc w => by obtain ⟨e, he⟩ := tk_ptr hc; exact run_equal_ptr_nil he (some ad) w)
  exact ⟨v, fun w => ⟨eqGuard_ptr w, hv w⟩, hr⟩
 ·obtain ⟨ad, rfl⟩ := r2.cptr_shape; cases r1.inv_nilp
  obtain ⟨v, hv, hr⟩ := eqV_sound (P := P) (Φ := Φ) (t := t) (v1 := .pointer none) (v2 := .pointer (some ad)) h hC rfl rfl (fun hc w => by obtain ⟨e, he⟩ := tk_ptr hc; exact run_equal_nil_ptr he (some ad) w)
  exact ⟨v, fun w => ⟨eqGuard_ptr w, hv w⟩, hr⟩
 ·rename_i xs ys
  split at h
  ·rename_i b hb
   obtain ⟨cx, rfl, -⟩ := r1.inv_agg
   obtain ⟨cy, rfl, -⟩ := r2.inv_agg
   obtain ⟨v, hv, hr⟩ := eqV_sound (P := P) (Φ := Φ) (t := t) (v1 := .agg cx) (v2 := .agg cy) h hC rfl rfl (fun _ w => meqs_sound 6 t _ _ b hb _ _ r1 r2 9994 w)
   have hp : eqPlain P t = true := by
    cases op <;> simp only [eqV, Option.some.injEq, Prod.mk.injEq, reduceCtorEq] at h <;> obtain ⟨rfl, -⟩ := h <;> exact hC
   have hgt : P.eqGuardType P.depth t = false := by
    simp only [eqPlain, Bool.and_eq_true, Bool.not_eq_true'] at hp
    exact hp.2
   refine ⟨v, fun w => ⟨?_, hv w⟩, hr⟩
   unfold eqGuard
   cases op <;> simp [run_program, hgt]
  ·cases h
 ·cases r1.inv_nils; cases r2.inv_nils
  obtain ⟨v, hv, hr⟩ := eqV_sound (P := P) (Φ := Φ) (t := t) (v1 := .slice none 0 0) (v2 := .slice none 0 0) h hC rfl rfl (fun hc w => by obtain ⟨e, he⟩ := tk_sl hc; exact run_equal_sl_nil he none 0 0 w)
  exact ⟨v, fun w => ⟨eqGuard_sl w, hv w⟩, hr⟩
 ·obtain ⟨a, cap, rfl, -, -, -, -, hx⟩ := r1.inv_lst
  obtain ⟨b, off, rfl, -⟩ := hx (Nat.succ_pos _)
  cases r2.inv_nils
  obtain ⟨v, hv, hr⟩ := eqV_sound (P := P) (Φ := Φ) (t := t) (v1 := .slice (some ⟨b, off, none⟩) (_ + 1) cap) (v2 := .slice none 0 0) h hC rfl rfl (fun hc w => by obtain ⟨e, he⟩ := tk_sl hc; exact run_equal_sl_nil he (some ⟨b, off, none⟩) _ cap w)
  exact ⟨v, fun w => ⟨eqGuard_sl w, hv w⟩, hr⟩
 ·cases r1.inv_nilfn; cases r2.inv_nilfn
  obtain ⟨v, hv, hr⟩ := eqV_sound (P := P) (Φ := Φ) (t := t) (v1 := .nilFunc) (v2 := .nilFunc) h hC rfl rfl (fun hc w => by obtain ⟨a, b, c, he⟩ := tk_fn hc; exact run_equal_nil_nil he w)
  exact ⟨v, fun w => ⟨eqGuard_nfn w, hv w⟩, hr⟩
 ·rename_i fn0 _ _
  obtain ⟨x, y, rfl, -⟩ := r1.inv_fn; cases r2.inv_nilfn
  obtain ⟨v, hv, hr⟩ := eqV_sound (P := P) (Φ := Φ) (t := t) (v1 := .func fn0 x y) (v2 := .nilFunc) h hC rfl rfl (fun hc w => by obtain ⟨a, b, c, he⟩ := tk_fn hc; exact run_equal_fn_nil he fn0 x y w)
  exact ⟨v, fun w => ⟨eqGuard_fn w, hv w⟩, hr⟩
 ·cases h
theorem mun_sound {op : UnOp} {x : MV} {C : Prop} {mv : MV} (h : mun op x = some (C, mv)) {v1 : Value} (r1 : Rel Φ v1 x) :
  ∃ v, (∀ w, (Op.unary op v1).run P w = .ok v w) ∧ Rel Φ v mv := by
 unfold mun at h
 split at h
 ·simp only [Option.some.injEq, Prod.mk.injEq] at h; obtain ⟨_, rfl⟩ := h; cases r1.inv_int
  exact ⟨_, fun w => by simp [Op.unary, Op.intArith], .int _ _⟩
 ·simp only [Option.some.injEq, Prod.mk.injEq] at h; obtain ⟨_, rfl⟩ := h; cases r1.inv_int
  exact ⟨_, fun w => by simp only [Op.unary, Op.intBits, Sem.run_pure]; rfl, .int _ _⟩
 ·simp only [Option.some.injEq, Prod.mk.injEq] at h; obtain ⟨_, rfl⟩ := h; cases r1.inv_bool
  exact ⟨_, fun w => by simp [Op.unary], .bool _⟩
 ·cases h
theorem mconv_sound {s d : TypeId} {x : MV} {C : Prop} {mv : MV} (h : mconv P s d x = some (C, mv)) {v1 : Value} (r1 : Rel Φ v1 x) :
  ∃ v, (∀ w, (convert s d v1).run P w = .ok v w) ∧ Rel Φ v mv := by
 unfold mconv at h
 split at h
 ·rename_i hk hs
  simp only [Option.some.injEq, Prod.mk.injEq] at h; obtain ⟨_, rfl⟩ := h; cases r1.inv_int
  obtain ⟨i, d', hi, hd, _⟩ := td_info hs
  exact ⟨_, fun w => by simp [convert, run_und' hd, run_und' (und_int hk), Conv.intToInt], .int _ _⟩
 ·rename_i hk hs
  simp only [Option.some.injEq, Prod.mk.injEq] at h; obtain ⟨_, rfl⟩ := h; cases r1.inv_str
  obtain ⟨i, d', hi, hd, _⟩ := td_info hs
  exact ⟨_, fun w => by simp [convert, run_und' hd, run_und' (und_str hk)], .str _⟩
 ·cases h
theorem run_sureAddr (a : Addr) (w : World) : (Instr.sureAddr (.pointer (some a))).run P w = .ok a w := rfl
theorem mfieldAddr_sound {t : TypeId} {x : MV} {i : Nat} {C : Prop} {mv : MV} (h : mfieldAddr P t x i = some (C, mv)) (hC : C) {v1 : Value} (r1 : Rel Φ v1 x) :
  ∃ v, (∀ w, (Instr.fieldAt t v1 i).run P w = .ok v w) ∧ Rel Φ v mv := by
 unfold mfieldAddr at h
 split at h
 ·rename_i fs hk
  obtain ⟨fa, hu, rfl⟩ := und_struct hk
  split at h
  ·rename_i off ft l j o hf
   simp only [Option.some.injEq, Prod.mk.injEq] at h; obtain ⟨rfl, rfl⟩ := h
   obtain ⟨hok, hsz⟩ := hC
   obtain ⟨p, R, ho, hb, rfl⟩ := r1.inv_ptr
   simp only [List.getElem?_map, Array.getElem?_toList, Option.map_eq_some_iff] at hf
   obtain ⟨fd, hfd, he⟩ := hf
   obtain ⟨rfl, rfl⟩ := Prod.mk.injEq .. ▸ he
   refine ⟨.pointer (some ⟨R, p.bo + j * p.e + (o + fd.offset), none⟩), fun w => ?_, .ptr ho hb⟩
   simp only [Instr.fieldAt, Sem.run_bind, run_und' hu, Result.andThen_ok, hfd, run_sureAddr, fieldPlace, run_sizeOf' hok, Sem.run_ite, if_neg hsz, Sem.run_pure, add_none]
   rw [Nat.add_assoc]
  ·rename_i off ft cs hf
   simp only [Option.some.injEq, Prod.mk.injEq] at h; obtain ⟨rfl, rfl⟩ := h
   obtain ⟨hok, hsz⟩ := hC
   obtain ⟨b, o, vs, rfl, hc, hr⟩ := r1.inv_cptr
   simp only [List.getElem?_map, Array.getElem?_toList, Option.map_eq_some_iff] at hf
   obtain ⟨fd, hfd, he⟩ := hf
   obtain ⟨rfl, rfl⟩ := Prod.mk.injEq .. ▸ he
   refine ⟨.pointer (some ⟨b, o + fd.offset, none⟩), fun w => ?_, .cptr (fun q => vs (fd.offset + q)) (fun q m hm => ?_) (fun q m hm => hr _ m (by simpa using hm))⟩
   ·simp only [Instr.fieldAt, Sem.run_bind, run_und' hu, Result.andThen_ok, hfd, run_sureAddr, fieldPlace, run_sizeOf' hok, Sem.run_ite, if_neg hsz, Sem.run_pure, add_none]
   ·have := hc (fd.offset + q) m (by simpa using hm)
    rw [Nat.add_assoc]
    exact this
  ·cases h
 ·cases h
theorem run_asIntOf (k : IntKind) (n : Int) (w : World) : (asIntOf (.int k n)).run P w = .ok (k, n) w := rfl
theorem mindexAddr_sound {t : TypeId} {x i : MV} {C : Prop} {mv : MV} (h : mindexAddr P t x i = some (C, mv)) (hC : C) {v1 v2 : Value} (r1 : Rel Φ v1 x) (r2 : Rel Φ v2 i) :
  ∃ v, (∀ w, (Instr.indexAt t v1 v2).run P w = .ok v w) ∧ Rel Φ v mv := by
 unfold mindexAddr at h
 split at h
 ·rename_i el e xs tt k n hk
  simp only [Option.some.injEq, Prod.mk.injEq] at h; obtain ⟨rfl, rfl⟩ := h
  obtain ⟨hok, hsz, h0, h1⟩ := hC
  cases r2.inv_int
  obtain ⟨a, cap, rfl, _, _, _, _, hat⟩ := r1.inv_lst
  obtain ⟨b, off, rfl, hx, vs, hv⟩ := hat (by omega)
  have hi : xs[n.toNat]? = some (xs.getD n.toNat []) := getD_of (by omega)
  refine ⟨.pointer (some ⟨b, off + n.toNat * e, none⟩), fun w => ?_, .cptr (vs n.toNat) (fun j m hm => ?_) (fun j m hm => (hv n.toNat _ j m hi hm).2.2)⟩
  ·simp only [Instr.indexAt, Sem.run_bind, run_asIntOf, Result.andThen_ok, run_und' (und_slice hk), Sem.run_pure, Sem.run_ite, if_pos (show 0 ≤ n ∧ n < (xs.length : Int) from ⟨h0, h1⟩), run_sizeOf' hok, hsz, add_none]
  ·have := hv n.toNat _ j m hi hm
   rw [Nat.add_assoc]
   exact ⟨this.1, this.2.1⟩
 ·rename_i el e l lo kk k n hk
  simp only [Option.some.injEq, Prod.mk.injEq] at h; obtain ⟨rfl, rfl⟩ := h
  obtain ⟨hok, hsz, h0, h1⟩ := hC
  cases r2.inv_int
  obtain ⟨a, cap, p, rfl, ho, rfl, hcap, hn, hR⟩ := r1.inv_vec
  rcases hR with ⟨R, hb, rfl⟩ | hR
  ·refine ⟨.pointer (some ⟨R, p.bo + (lo + n.toNat) * p.e + 0, none⟩), fun w => ?_, .ptr ho hb⟩
   simp only [Instr.indexAt, Sem.run_bind, run_asIntOf, Result.andThen_ok, run_und' (und_slice hk), Sem.run_pure, Sem.run_ite, if_pos (show 0 ≤ n ∧ n < (kk : Int) from ⟨h0, h1⟩), run_sizeOf' hok, hsz, add_none]
   rw [Nat.add_mul, Nat.add_zero, Nat.add_assoc]
  ·omega
 ·rename_i len el l j o k n hk
  simp only [Option.some.injEq, Prod.mk.injEq] at h; obtain ⟨rfl, rfl⟩ := h
  obtain ⟨hok, h0, h1⟩ := hC
  cases r2.inv_int
  obtain ⟨p, R, ho, hb, rfl⟩ := r1.inv_ptr
  refine ⟨.pointer (some ⟨R, p.bo + j * p.e + (o + n.toNat * (td P el).size), none⟩), fun w => ?_, .ptr ho hb⟩
  simp only [Instr.indexAt, Sem.run_bind, run_asIntOf, Result.andThen_ok, run_und' (und_array hk), run_sureAddr, Sem.run_pure, Sem.run_ite, if_pos (show 0 ≤ n ∧ n < (len : Int) from ⟨h0, h1⟩), run_sizeOf' hok, add_none]
  rw [Nat.add_assoc]
 ·rename_i len el cs k n hk
  simp only [Option.some.injEq, Prod.mk.injEq] at h; obtain ⟨rfl, rfl⟩ := h
  obtain ⟨hok, h0, h1⟩ := hC
  cases r2.inv_int
  obtain ⟨b, off, vs, rfl, hc, hr⟩ := r1.inv_cptr
  refine ⟨.pointer (some ⟨b, off + n.toNat * (td P el).size, none⟩), fun w => ?_, .cptr (fun q => vs (n.toNat * (td P el).size + q)) (fun q m hm => ?_) (fun q m hm => hr _ m (by simpa using hm))⟩
  ·simp only [Instr.indexAt, Sem.run_bind, run_asIntOf, Result.andThen_ok, run_und' (und_array hk), run_sureAddr, Sem.run_pure, Sem.run_ite, if_pos (show 0 ≤ n ∧ n < (len : Int) from ⟨h0, h1⟩), run_sizeOf' hok, add_none]
  ·have := hc (n.toNat * (td P el).size + q) m (by simpa using hm)
   rw [Nat.add_assoc]
   exact this
 ·cases h
theorem mfield_sound {t : TypeId} {x : MV} {i : Nat} {C : Prop} {mv : MV} (h : mfield P t x i = some (C, mv)) (hC : C) {v1 : Value} (r1 : Rel Φ v1 x) :
  ∃ v, (∀ w, (Instr.field t v1 i).run P w = .ok v w) ∧ Rel Φ v mv := by
 unfold mfield at h
 split at h
 ·rename_i fs hk
  obtain ⟨fa, hu, rfl⟩ := und_struct hk
  split at h
  ·rename_i off ft cs hf
   simp only [Option.some.injEq, Prod.mk.injEq] at h; obtain ⟨rfl, rfl⟩ := h
   obtain ⟨hok, h1, h2⟩ := hC
   obtain ⟨cv, rfl, hs, hc, hr⟩ := r1.inv_agg
   simp only [List.getElem?_map, Array.getElem?_toList, Option.map_eq_some_iff] at hf
   obtain ⟨fd, hfd, he⟩ := hf
   obtain ⟨rfl, rfl⟩ := Prod.mk.injEq .. ▸ he
   obtain ⟨v, hv, hrel⟩ := part_sound hok hs hc hr h1 h2
   exact ⟨v, fun w => by simp only [Instr.field, Sem.run_bind, run_und' hu, Result.andThen_ok, hfd, asAgg, Sem.run_pure, hv w], hrel⟩
  ·cases h
 ·cases h
theorem toList_get (s : ByteArray) (n : Nat) : s[n]? = s.toList[n]? := by
 rw [ByteArray.toList_eq]
 obtain ⟨⟨l⟩⟩ := s
 simp [getElem?_def]
 rfl
theorem mindex_sound {t : TypeId} {x i : MV} {C : Prop} {mv : MV} (h : mindex P t x i = some (C, mv)) (hC : C) {v1 v2 : Value} (r1 : Rel Φ v1 x) (r2 : Rel Φ v2 i) :
  ∃ v, (∀ w, (Instr.index t v1 v2).run P w = .ok v w) ∧ Rel Φ v mv := by
 unfold mindex at h
 split at h
 ·rename_i s k n hk
  simp only [Option.some.injEq, Prod.mk.injEq] at h; obtain ⟨rfl, rfl⟩ := h
  cases r1.inv_str; cases r2.inv_int
  obtain ⟨h0, h1⟩ := hC
  have hb : s[n.toNat]? = some (s.toList.getD n.toNat 0) := by
   rw [toList_get]
   refine getD_of ?_
   rw [ByteArray.toList_eq]
   have : s.data.toList.length = s.size := by rw [Array.length_toList]; rfl
   omega
  refine ⟨_, fun w => ?_, .int _ _⟩
  simp only [Instr.index, Sem.run_bind, run_asIntOf, Result.andThen_ok, run_und' (und_str hk), if_pos h0, hb, Sem.run_pure]
 ·rename_i len el cs k n hk
  simp only [Option.some.injEq, Prod.mk.injEq] at h; obtain ⟨rfl, rfl⟩ := h
  obtain ⟨hok, h0, h1, h2, h3⟩ := hC
  cases r2.inv_int
  obtain ⟨cv, rfl, hs, hc, hr⟩ := r1.inv_agg
  obtain ⟨v, hv, hrel⟩ := part_sound (off := n.toNat * (td P el).size) hok hs hc hr (by
   have : n.toNat + 1 ≤ len := by omega
   have := Nat.mul_le_mul_right (td P el).size this
   rw [Nat.add_mul, Nat.one_mul, Nat.mul_comm len] at this
   omega) h3
  exact ⟨v, fun w => by simp only [Instr.index, Sem.run_bind, run_asIntOf, Result.andThen_ok, run_und' (und_array hk), Sem.run_ite, if_pos (show 0 ≤ n ∧ n < (len : Int) from ⟨h0, h1⟩), run_sizeOf' hok, hv w], hrel⟩
 ·cases h
theorem mlen_sound {t : TypeId} {x : MV} {C : Prop} {mv : MV} (h : mlen P t x = some (C, mv)) (hC : C) {v1 : Value} (r1 : Rel Φ v1 x) (ts : Array TypeId) (hts : ts.size = 1) (ht : ts.getD 0 0 = t) (ty : TypeId) :
  ∃ v, (∀ w, (Builtin.len_ ts ty #[v1]).run P w = .ok v w) ∧ Rel Φ v mv := by
 have hts0 : ts[0]? = some t := by
  rw [← ht, Array.getD_eq_getD_getElem?, Array.getElem?_eq_getElem (by omega)]; simp
 unfold mlen at h
 split at h
 ·simp only [Option.some.injEq, Prod.mk.injEq] at h; obtain ⟨rfl, rfl⟩ := h; cases r1.inv_str
  exact ⟨_, fun w => by simp [Builtin.len_, hts0, run_und' (und_str hC), goInt], .int _ _⟩
 ·split at h <;> simp only [Option.some.injEq, Prod.mk.injEq, reduceCtorEq] at h
  obtain ⟨rfl, rfl⟩ := h
  obtain ⟨a, cap, rfl, _⟩ := r1.inv_lst
  exact ⟨_, fun w => by simp [Builtin.len_, hts0, run_und' (und_slice (by assumption)), goInt], .int _ _⟩
 ·split at h <;> simp only [Option.some.injEq, Prod.mk.injEq, reduceCtorEq] at h
  obtain ⟨rfl, rfl⟩ := h
  obtain ⟨a, cap, p, rfl, _⟩ := r1.inv_vec
  exact ⟨_, fun w => by simp [Builtin.len_, hts0, run_und' (und_slice (by assumption)), goInt], .int _ _⟩
 ·split at h <;> simp only [Option.some.injEq, Prod.mk.injEq, reduceCtorEq] at h
  obtain ⟨rfl, rfl⟩ := h
  cases r1.inv_nils
  exact ⟨_, fun w => by simp [Builtin.len_, hts0, run_und' (und_slice (by assumption)), goInt], .int _ _⟩
 ·split at h <;> simp only [Option.some.injEq, Prod.mk.injEq, reduceCtorEq] at h
  obtain ⟨rfl, rfl⟩ := h
  cases r1.inv_nilm
  exact ⟨_, fun w => by simp [Builtin.len_, hts0, run_und' (und_map (by assumption)), goInt], .int _ _⟩
 ·cases h
theorem mcap_sound {t : TypeId} {x : MV} {C : Prop} {mv : MV} (h : mcap P t x = some (C, mv)) {v1 : Value} (r1 : Rel Φ v1 x) (ts : Array TypeId) (hts : ts.size = 1) (ht : ts.getD 0 0 = t) (ty : TypeId) :
  ∃ v, (∀ w, (Builtin.cap_ ts ty #[v1]).run P w = .ok v w) ∧ Rel Φ v mv := by
 have hts0 : ts[0]? = some t := by
  rw [← ht, Array.getD_eq_getD_getElem?, Array.getElem?_eq_getElem (by omega)]; simp
 unfold mcap at h
 split at h
 ·split at h <;> simp only [Option.some.injEq, Prod.mk.injEq, reduceCtorEq] at h
  obtain ⟨rfl, rfl⟩ := h
  cases r1.inv_nils
  exact ⟨_, fun w => by simp [Builtin.cap_, hts0, run_und' (und_slice (by assumption)), goInt], .int _ _⟩
 ·cases h
end
end Go.Proofs.YtjljgahfkcdhfaaGreatDoor
end
