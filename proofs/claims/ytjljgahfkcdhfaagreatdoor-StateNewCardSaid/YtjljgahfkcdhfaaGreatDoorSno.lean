/- Parts of the proof, joined. Each part says what it proves, and under which conditions it does: those that its theorems name. -/
import Derived.Test.YtjljgahfkcdhfaaGreatDoorSni
import Derived.Test.YtjljgahfkcdhfaaGreatDoorSnl
import Derived.Test.YtjljgahfkcdhfaaGreatDoorSnn
set_option linter.unusedVariables false
set_option linter.unusedSimpArgs false
set_option maxHeartbeats 4000000
section
namespace Go.Proofs.YtjljgahfkcdhfaaGreatDoor
inductive NoObj : MV → Prop where
 | flat {m : MV} (h : Flat m) : NoObj m
 | lst {e : Nat} {xs : List (List MV)} {t : Bool} (h : ∀ x, x ∈ xs → ∀ m, m ∈ x → NoObj m) : NoObj (.lst e xs t)
 | cptr {cs : List MV} (h : ∀ m, m ∈ cs → NoObj m) : NoObj (.cptr cs)
 | agg {cs : List MV} (h : ∀ m, m ∈ cs → NoObj m) : NoObj (.agg cs)
theorem NoObj.rel {Φ Φ' : Phi} (hs : ∀ a v, Φ.snap a = some v → Φ'.snap a = some v) {m : MV} (h : NoObj m) : ∀ {v : Value}, Rel Φ v m → Rel Φ' v m := by
 induction h with
 | flat h => intro v r; exact h.rel r
 | lst h ih =>
  intro v r
  cases r with
  | lstn => exact .lstn _ _
  | lst0 a _ cap _ ht hm => exact .lst0 a _ cap _ ht hm
  | lst hl h0 hcap hm ht hx vs hc hr =>
   exact .lst hl h0 hcap hm ht hx vs (fun i x j m a b => ⟨(hc i x j m a b).1, hs _ _ (hc i x j m a b).2⟩) fun i x j m a b => ih x (List.mem_of_getElem? a) m (List.mem_of_getElem? b) (hr i x j m a b)
 | cptr h ih =>
  intro v r
  cases r with
  | cptr vs hc hr => exact .cptr vs (fun j m hm => ⟨(hc j m hm).1, hs _ _ (hc j m hm).2⟩) fun j m hm => ih m (List.mem_of_getElem? hm) (hr j m hm)
 | agg h ih =>
  intro v r
  cases r with
  | agg h1 h2 h3 => exact .agg h1 h2 fun i m hm => ih m (List.mem_of_getElem? hm) (h3 i m hm)
structure YC where
 l : Nat
 xs : List (List MV)
 Y : Nat → YS → Prop
 Yx : YS → Prop
 Φ0 : Phi
 σ0 : St
 n0 : Nat
def YC.st (C : YC) : Option Nat → YS → Prop
 | some i, S => C.Y i S
 | none, S => C.Yx S
structure YInv (C : YC) (Φ : Phi) (σ : St) (w : World) (S : YS) (t : Option Nat) : Prop where
 inv : Inv Φ w σ
 apt : Apt Φ σ S w
 snapn : ∀ a v, Φ.snap a = some v → C.Φ0.snap a = some v ∨ C.n0 ≤ a.block ∨ Owned C.Φ0 C.σ0 a.block
 ownd : ∀ R, Owned Φ σ R → Owned C.Φ0 C.σ0 R ∨ C.n0 ≤ R
 size : C.n0 ≤ w.heap.size
 st : C.st t S
abbrev YQ := Exit → FR → St → Option Nat → Prop
def liftY (C : YC) (Φ : Phi) (σ : St) (w : World) (S : YS) (Q : YQ) : Exit → Act → World → Prop := fun e a' w' =>
 ∃ f' σ' t' Φ' S', YInv C Φ' σ' w' S' t' ∧ FRel Φ' a'.tmps f' ∧ DRel Φ' w' a'.defers f'.d ∧ StepS Φ σ w S Φ' σ' w' S' ∧ Q e f' σ' t'
def ywp (P : Program) (C : YC) (c : Code) (f : FR) (σ : St) (t : Option Nat) (Q : YQ) : Prop :=
 ∀ F, FOk F c → ∀ Φ w a S, YInv C Φ σ w S t → FRel Φ a.tmps f → DRel Φ w a.defers f.d → c.wpIn F 0 P (liftY C Φ σ w S Q) a w
section rules
variable {P : Program} {C : YC} {f : FR} {σ : St} {t : Option Nat} {Q : YQ}
def thenY (next : FR → St → Option Nat → Prop) (Q : YQ) : YQ
 | .normal, f, σ, t => next f σ t
 | e, f, σ, t => Q e f σ t
def blockY (id : Nat) (Q : YQ) : YQ
 | .exit id', f, σ, t => if id' = id then Q .normal f σ t else Q (.exit id') f σ t
 | e, f, σ, t => Q e f σ t
end rules
theorem Apt.putObj {Φ : Phi} {σ : St} {S : YS} {w : World} (h : Apt Φ σ S w) {D : Nat} {x : Option (List Deferred)} (o' : Obj) (hD : w.heap[D]? = some (Obj.deferred x)) : Apt Φ σ S (w.putObj D o') := by
 have hne : ∀ k, S.wr k → k ≠ D := fun k hk e => h.agree.nomark k hk x (by rw [← h.agree.same k hk, e]; exact hD)
 refine ⟨⟨fun k hk => (World.putObj_heap_other (hne k hk)).trans (h.agree.same k hk), h.agree.lt, h.agree.nomark, fun a v q => ?_, by rw [World.putObj_size]; exact h.agree.size, h.agree.os, h.agree.tape, h.agree.output, h.agree.drawn⟩, h.own, h.snown, h.snap⟩
 have hc := h.agree.sn a v q
 rw [← hc]
 refine World.cell?_heap (World.putObj_heap_other fun e => ?_)
 rw [World.cell?, e, hD] at hc
 simp at hc
theorem leavesY {P : Program} {fn : Func} {tmps : Array Value} {C : YC} {t : Option Nat} (hrs : fn.results.toList = []) {Φ0 : Phi} {σ0 : St} {w0 : World} {S0 : YS} (h0 : Φ0.base = w0.heap.size) {R : Ending → World → Prop} (hR : ∀ v Φ' w' σ' S', YInv C Φ' σ' w' S' t → StepS Φ0 σ0 w0 S0 Φ' σ' w' S' → R (.returned v) w') :
  ∀ (ds : List Deferred) (Φ : Phi) (w : World) (σ : St) (S : YS), DRel Φ w ds [] → YInv C Φ σ w S t → StepS Φ0 σ0 w0 S0 Φ σ w S → LeavesM P fn tmps R ds w := by
 intro ds
 induction ds with
 | nil =>
  intro Φ w σ S _ hi hs
  refine ⟨.tuple #[], ?_, hR _ Φ w σ S hi hs⟩
  rw [results_eq]
  have : fn.results = #[] := Array.toList_eq_nil_iff.1 hrs
  simp only [this]
  first | rfl | simp [Sem.run_bind, Sem.run_pure]
 | cons x ds ih =>
  intro Φ w σ S hd hi hs
  rcases hd with ⟨D, h1, h2, h3, h4, h5⟩ | ⟨g, ms, r, cap, h, _⟩
  ·refine .inl ⟨D, _, h1, run_takeDeferred h3, ?_⟩
   have hDb : w0.heap.size ≤ D := by rw [← h0, ← hs.le.base]; exact h2
   have i' := hi.inv.putObj (.deferred none) h3 (fun _ _ _ e => by cases e) (fun _ _ e => by cases e)
   have s' : StepS Φ0 σ0 w0 S0 Φ σ (w.putObj D (.deferred none)) S :=
    ⟨hs.le, hs.os, hs.tape, hs.output, hs.drawn, by rw [World.putObj_size]; exact hs.size, fun k hk hn hw => (World.putObj_heap_other (by omega)).trans (hs.block k hk hn hw), hs.snapn, hs.ownd, hs.wr, hs.sn⟩
   refine ih Φ _ σ S ?_ ⟨i', hi.apt.putObj _ h3, hi.snapn, hi.ownd, by rw [World.putObj_size]; exact hi.size, hi.st⟩ s'
   have : ∀ (xs : List Deferred) (d : List (FuncId × List MV)), (∀ y, y ∈ xs → y.target ≠ .collected D) → DRel Φ w xs d → DRel Φ (w.putObj D (.deferred none)) xs d := by
    intro xs
    induction xs with
    | nil => intro d _ h; exact ⟨h.1, by rw [World.putObj_size]; exact h.2⟩
    | cons y xs ihx =>
     intro d hy h
     rcases h with ⟨D', k1, k2, k3, k4, k5⟩ | ⟨g, ms, r, cap, k1, k2, k3, k4⟩
     ·refine .inl ⟨D', k1, k2, ?_, k4, ihx d (fun z hz => hy z (by simp [hz])) k5⟩
      rw [World.putObj_heap_other]
      ·exact k3
      ·intro e; exact hy y (by simp) (by rw [k1, e])
     ·exact .inr ⟨g, ms, r, cap, k1, k2, k3, ihx r (fun z hz => hy z (by simp [hz])) k4⟩
   exact this ds [] h4 h5
  ·cases h
def retY (n : Nat) : YQ
 | .normal, f, _, t => f.d = [] ∧ (t = some n ∨ t = none)
 | .ret, f, _, t => f.d = [] ∧ (t = some n ∨ t = none)
 | _, _, _, _ => False
theorem YSpec.rebase {P : Program} {l : Nat} {xs : List (List MV)} {Y : Nat → YS → Prop} {Yx : YS → Prop} {Φ : Phi} {σ : St} {n0 : Nat} (h : YSpec P l xs Y Yx Φ σ n0) (n : Nat) : YSpec P l xs Y Yx (Φ.rebase n) σ n0 :=
 fun i x S w' Ψ vs h1 h2 h3 h4 h5 h6 h7 => h i x S w' Ψ vs h1 h2 h3 h4 h5 h6 h7
theorem Apt.rebase {Φ : Phi} {σ : St} {S : YS} {w : World} (h : Apt Φ σ S w) (n : Nat) : Apt (Φ.rebase n) σ S w := ⟨h.agree, h.own, h.snown, h.snap⟩
theorem StepS.rebase {Φ Φ' : Phi} {σ σ' : St} {w w' : World} {S S' : YS} {n : Nat} (h : StepS (Φ.rebase n) σ w S Φ' σ' w' S') : StepS Φ σ w S (Φ'.rebase Φ.base) σ' w' S' :=
 ⟨⟨h.le.snap, h.le.obj, rfl⟩, h.os, h.tape, h.output, h.drawn, h.size, h.block, h.snapn, h.ownd, h.wr, h.sn⟩
theorem MSeq.of_body {P : Program} {g : FuncId} {fn : Func} {c : Code} {ns : List MV} {σi : St} {xs : List (List MV)} (n : Nat) (hf : P.funcs[g]? = some fn) (hb : fn.body = some c) (hn : (fn.name == "runtime.NumGoroutine") = false)
  (hn' : max fn.ntmps (ns.length + 1) = n) (hrs : fn.results.toList = [])
  (h : ∀ C : YC, C.xs = xs → YSpec P C.l C.xs C.Y C.Yx C.Φ0 C.σ0 C.n0 → ywp P C c ⟨n, args0 0 (.fn (.yield C.l) [] [] :: ns), []⟩ σi (some 0) (retY xs.length)) : MSeq P g ns σi xs := by
 refine ⟨⟨fn, hf, by simp [hb], hn⟩, fun l Y Yx Φ w S vs hspec hi ha h0 hr => ?_⟩
 obtain ⟨C, hC⟩ : ∃ C : YC, C = ⟨l, xs, Y, Yx, Φ.rebase w.heap.size, σi, w.heap.size⟩ := ⟨_, rfl⟩
 have hargs : Rels (Φ.rebase w.heap.size) (#[Value.func (.yield l) #[] #[]] ++ vs) (.fn (.yield l) [] [] :: ns) := by
  refine ⟨by simp [hr.1]; omega, fun i m hm => ?_⟩
  cases i with
  | zero =>
   simp only [List.getElem?_cons_zero, Option.some.injEq] at hm
   subst hm
   have e : (#[Value.func (.yield l) #[] #[]] ++ vs).getD 0 undef = Value.func (.yield l) #[] #[] := by
    simp [Array.getD_eq_getD_getElem?, Array.getElem?_append]
   rw [e]
   exact rel_ofV _ (.func (.yield l) #[] #[])
  | succ i =>
   have := (hr.2 i m (by simpa using hm)).rebase w.heap.size
   have e : (#[Value.func (.yield l) #[] #[]] ++ vs).getD (i + 1) undef = vs.getD i undef := by
    simp [Array.getD_eq_getD_getElem?, Array.getElem?_append]
   rw [e]; exact this
 have hfr := frel_args (fn := fn) hargs
 rw [List.length_cons, hn'] at hfr
 have hbody := h C (by rw [hC]) (by rw [hC]; exact hspec.rebase _)
 have hst : YInv C (Φ.rebase w.heap.size) σi w S (some 0) := by
  subst hC
  exact ⟨hi.rebase _, ha.rebase _, fun a v q => .inl q, fun R q => .inl q, Nat.le_refl _, h0⟩
 have hl : C.l = l := by rw [hC]
 rw [hl] at hbody
 refine (calls_of_wpM (R := fun e w' => ∃ v Φ' σ' S', e = .returned v ∧ (YInv C Φ' σ' w' S' (some xs.length) ∨ YInv C Φ' σ' w' S' none) ∧ StepS (Φ.rebase w.heap.size) σi w S Φ' σ' w' S') hf hb (wp_mono (wpIn_wide.1 (hbody _ .wide (Φ.rebase w.heap.size) w { tmps := _, defers := [] } S hst hfr ⟨rfl, Nat.le_refl _⟩)) ?_)).mono ?_
 ·rintro e a' w' ⟨f', σ', t', Φ', S', q1, q2, q3, q4, q5⟩
  have fin : (t' = some xs.length ∨ t' = none) → f'.d = [] → LeavesM P fn a'.tmps (fun e w' => ∃ v Φ' σ' S', e = .returned v ∧ (YInv C Φ' σ' w' S' (some xs.length) ∨ YInv C Φ' σ' w' S' none) ∧ StepS (Φ.rebase w.heap.size) σi w S Φ' σ' w' S') a'.defers w' := by
   intro ht hd
   rw [hd] at q3
   rcases ht with rfl | rfl
   ·exact leavesY (P := P) (fn := fn) (tmps := a'.tmps) hrs (Φ0 := Φ.rebase w.heap.size) (w0 := w) rfl (fun v Φ'' w'' σ'' S'' q qs => ⟨v, Φ'', σ'', S'', rfl, .inl q, qs⟩) a'.defers Φ' w' σ' S' q3 q1 q4
   ·exact leavesY (P := P) (fn := fn) (tmps := a'.tmps) hrs (Φ0 := Φ.rebase w.heap.size) (w0 := w) rfl (fun v Φ'' w'' σ'' S'' q qs => ⟨v, Φ'', σ'', S'', rfl, .inr q, qs⟩) a'.defers Φ' w' σ' S' q3 q1 q4
  cases e with
  | normal => exact ⟨.inl rfl, fin q5.2 q5.1⟩
  | ret => exact ⟨.inr rfl, fin q5.2 q5.1⟩
  | _ => exact q5.elim
 ·rintro e w' ⟨v, Φ', σ', S', rfl, q, qs⟩
  subst hC
  rcases q with q | q
  ·exact ⟨v, Φ'.rebase Φ.base, σ', S', rfl, q.inv.rebase _, q.apt.rebase _, qs.rebase, .inl q.st⟩
  ·exact ⟨v, Φ'.rebase Φ.base, σ', S', rfl, q.inv.rebase _, q.apt.rebase _, qs.rebase, .inr q.st⟩
end Go.Proofs.YtjljgahfkcdhfaaGreatDoor
end

section
namespace Go.Proofs.YtjljgahfkcdhfaaGreatDoor
set_option maxRecDepth 100000
theorem va_iff {a b : VA} : a = b ↔ a.kd = b.kd ∧ a.n = b.n ∧ a.s = b.s := by
 obtain ⟨a1, a2, a3⟩ := a
 obtain ⟨b1, b2, b3⟩ := b
 simp
theorem meqs_struct {P : Program} {d : Nat} {t : TypeId} {fs : List (Nat × TypeId)} {xs ys : List MV} (hk : (td P t).k = .struct fs) (hp : eqPlain P t = true) : meqs P (d + 1) t (.agg xs) (.agg ys) = meqFields P (meqs P d) xs ys fs := by
 simp only [meqs, hk, hp, if_true]
theorem meqs_array {P : Program} {d n : Nat} {t e : TypeId} {xs ys : List MV} (hk : (td P t).k = .array n e) (hp : (td P e).ok = true) : meqs P (d + 1) t (.agg xs) (.agg ys) = meqFields P (meqs P d) xs ys ((List.range n).map fun i => (i * (td P e).size, e)) := by
 simp only [meqs, hk, hp, if_true]
theorem meqs_int {P : Program} {d : Nat} {t : TypeId} {k k' : IntKind} {a b : Int} (hk : (td P t).k = .int k') : meqs P (d + 1) t (.int k a) (.int k b) = some (decide (a = b)) := by
 simp only [meqs, hk, if_true]
theorem meqs_str {P : Program} {d : Nat} {t : TypeId} {a b : ByteArray} (hk : (td P t).k = .str) : meqs P (d + 1) t (.str a) (.str b) = some (decide (a = b)) := by
 simp only [meqs, hk]
theorem tdk3 : (td Tryz.prog 3).k = .int .i64 := by rw [td3]
theorem tdk37 : (td Tryz.prog 37).k = .int .u32 := by rw [td37]
theorem tdk9 : (td Tryz.prog 9).k = .str := by rw [td9]
theorem mpart_val {l : List MV} {i : Nat} {f : F8} (hl : l = fc f) (h : i < 8) : mpart (td Tryz.prog 78) l (i * 3) = .agg (f.get i).c := by
 simp only [mpart, td78, TK.isAgg, if_true, hl]
 exact congrArg MV.agg (fc_at h)
theorem meq_val (d : Nat) (a b : VA) : meqs Tryz.prog (d + 2) 78 (.agg a.c) (.agg b.c) = some (decide (a = b)) := by
 have hp : eqPlain Tryz.prog 78 = true := by decide +kernel
 rw [meqs_struct (by rw [td78]) hp]
 simp only [meqFields, td3, td9, mpart, TK.isAgg, Bool.false_eq_true, if_false, List.getD_cons_zero, List.getD_cons_succ, List.length_cons, List.length_nil, meqs_int tdk3, meqs_str tdk9]
 simp [va_iff, Bool.decide_and]
theorem f8_iff {f g : F8} : f = g ↔ ∀ i, i ∈ List.range 8 → f.get i = g.get i :=
 ⟨fun h i _ => by rw [h], fun h => F8.ext fun i hi => h i (List.mem_range.2 hi)⟩
theorem meq_list (d : Nat) (f g : F8) : ∀ L : List Nat, (∀ i, i ∈ L → i < 8) → meqFields Tryz.prog (meqs Tryz.prog (d + 2)) (fc f) (fc g) (L.map fun i => (i * 3, 78)) = some (decide (∀ i, i ∈ L → f.get i = g.get i))
 | [], _ => by simp [meqFields]
 | i :: L, h => by
  have hi := h i (by simp)
  have ih := meq_list d f g L fun j hj => h j (by simp [hj])
  have h3 : (td Tryz.prog 78).size = 3 := by rw [td78]
  have ho : (td Tryz.prog 78).ok = true := by rw [td78]
  simp only [List.map_cons, meqFields]
  rw [mpart_val rfl hi, mpart_val rfl hi, ih, meq_val, if_pos ⟨ho, by rw [h3, fc_len]; omega, by rw [h3, fc_len]; omega, by rw [h3]; decide⟩]
  simp only [Option.map_some, List.forall_mem_cons]
  rw [Bool.decide_and]
theorem meq_vals (d : Nat) (f g : F8) : meqs Tryz.prog (d + 3) 79 (.agg (fc f)) (.agg (fc g)) = some (decide (f = g)) := by
 have h3 : (td Tryz.prog 78).size = 3 := by rw [td78]
 rw [meqs_array (n := 8) (e := 78) (by rw [td79]) (by rw [td78]), h3, meq_list d f g _ (fun i hi => List.mem_range.1 hi)]
 congr 1
 exact decide_eq_decide.mpr f8_iff.symm
theorem ca_iff {a b : CA} : a = b ↔ a.id = b.id ∧ a.ver = b.ver ∧ a.lab = b.lab ∧ a.f = b.f := by
 obtain ⟨a1, a2, a3, a4⟩ := a
 obtain ⟨b1, b2, b3, b4⟩ := b
 simp
theorem meq_card (d : Nat) (a b : CA) : meqs Tryz.prog (d + 4) 81 (.agg a.c) (.agg b.c) = some (decide (a = b)) := by
 have hp : eqPlain Tryz.prog 81 = true := by decide +kernel
 rw [meqs_struct (by rw [td81]) hp]
 simp only [meqFields, td37, td3, td79, mpart, TK.isAgg, if_true, Bool.false_eq_true, if_false, List.getD_cons_zero, List.getD_cons_succ, List.length_cons, List.length_nil, List.drop_succ_cons, List.drop_zero, fc_take' (Nat.le_refl 24), fc_len, meq_vals, meqs_int tdk37, meqs_int tdk3]
 simp [ca_iff, u32_int, Bool.decide_and]
abbrev IT.k (x : IT) : List MV := .int .i64 x.kd :: .int .i64 x.c.id :: .int .i64 x.c.ver :: .int .u32 (x.c.lab.toNat : Int) :: fc x.c.f
end Go.Proofs.YtjljgahfkcdhfaaGreatDoor
end
