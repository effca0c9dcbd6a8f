/- Parts of the proof, joined: each part says what it proves, and under which conditions. -/
import Derived.Test.YtielcgplbnlgbaaNoc
import Derived.Shelf.SlSortCmp.WholeK
import Derived.Shelf.SlGeneric
import Derived.Test.YtielcgplbnlgbaaRows
import Derived.Shelf.SlSortCmp.Whole1
section
/- Functions that hand on elements: walks with calls of yield. -/
set_option linter.unusedVariables false
set_option linter.unusedSimpArgs false
namespace Go.Proofs.Ytielcgplbnlgbaa

/-- A value that names none of our places. -/
inductive NoObj : MV → Prop where
  | flat {m : MV} (h : Flat m) : NoObj m
  | lst {e : Nat} {xs : List (List MV)} {t : Bool} (h : ∀ x, x ∈ xs → ∀ m, m ∈ x → NoObj m) : NoObj (.lst e xs t)
  | cptr {cs : List MV} (h : ∀ m, m ∈ cs → NoObj m) : NoObj (.cptr cs)
  | agg {cs : List MV} (h : ∀ m, m ∈ cs → NoObj m) : NoObj (.agg cs)

theorem NoObj.rel {Φ Φ' : Phi} (hs : ∀ a v, Φ.snap a = some v → Φ'.snap a = some v) {m : MV} (h : NoObj m) : ∀ {v : Value}, Rel Φ v m → Rel Φ' v m := by
  induction h with
  | flat h => intro v r; exact h.rel r
  | lst h ih =>
    intro v r
    cases r with
    | lstn => exact .lstn _ _
    | lst0 a _ cap _ ht hm => exact .lst0 a _ cap _ ht hm
    | lst hl h0 hcap hm ht hx vs hc hr =>
      exact .lst hl h0 hcap hm ht hx vs (fun i x j m a b => ⟨(hc i x j m a b).1, hs _ _ (hc i x j m a b).2⟩) fun i x j m a b => ih x (List.mem_of_getElem? a) m (List.mem_of_getElem? b) (hr i x j m a b)
  | cptr h ih =>
    intro v r
    cases r with
    | cptr vs hc hr => exact .cptr vs (fun j m hm => ⟨(hc j m hm).1, hs _ _ (hc j m hm).2⟩) fun j m hm => ih m (List.mem_of_getElem? hm) (hr j m hm)
  | agg h ih =>
    intro v r
    cases r with
    | agg h1 h2 h3 => exact .agg h1 h2 fun i m hm => ih m (List.mem_of_getElem? hm) (h3 i m hm)

/-- What an iterator's walk knows: the loop, the elements, the other side's states, and where it began. -/
structure YC where
  l : Nat
  xs : List (List MV)
  Y : Nat → YS → Prop
  Yx : YS → Prop
  Φ0 : Phi
  σ0 : St
  n0 : Nat

def YC.st (C : YC) : Option Nat → YS → Prop
  | some i, S => C.Y i S
  | none, S => C.Yx S

structure YInv (C : YC) (Φ : Phi) (σ : St) (w : World) (S : YS) (t : Option Nat) : Prop where
  inv : Inv Φ w σ
  apt : Apt Φ σ S w
  snapn : ∀ a v, Φ.snap a = some v → C.Φ0.snap a = some v ∨ C.n0 ≤ a.block ∨ Owned C.Φ0 C.σ0 a.block
  ownd : ∀ R, Owned Φ σ R → Owned C.Φ0 C.σ0 R ∨ C.n0 ≤ R
  size : C.n0 ≤ w.heap.size
  st : C.st t S

abbrev YQ := Exit → FR → St → Option Nat → Prop

def liftY (C : YC) (Φ : Phi) (σ : St) (w : World) (S : YS) (Q : YQ) : Exit → Act → World → Prop := fun e a' w' =>
  ∃ f' σ' t' Φ' S', YInv C Φ' σ' w' S' t' ∧ FRel Φ' a'.tmps f' ∧ DRel Φ' w' a'.defers f'.d ∧ StepS Φ σ w S Φ' σ' w' S' ∧ Q e f' σ' t'

def ywp (P : Program) (C : YC) (c : Code) (f : FR) (σ : St) (t : Option Nat) (Q : YQ) : Prop :=
  ∀ F, FOk F c → ∀ Φ w a S, YInv C Φ σ w S t → FRel Φ a.tmps f → DRel Φ w a.defers f.d → c.wpIn F 0 P (liftY C Φ σ w S Q) a w

section rules
variable {P : Program} {C : YC} {f : FR} {σ : St} {t : Option Nat} {Q : YQ}

theorem liftY_le {Φ Φ1 : Phi} {σ σ1 : St} {w0 w1 : World} {S S1 : YS} (h : StepS Φ σ w0 S Φ1 σ1 w1 S1) {e : Exit} {a : Act} {w : World} (k : liftY C Φ1 σ1 w1 S1 Q e a w) : liftY C Φ σ w0 S Q e a w :=
  let ⟨f', σ', t', Φ', S', h1, h2, h3, h4, h5⟩ := k
  ⟨f', σ', t', Φ', S', h1, h2, h3, h.trans h4, h5⟩

theorem YInv.go {Φ Φ' : Phi} {σ σ' : St} {w w' : World} {S : YS} (h : YInv C Φ σ w S t) (i : Inv Φ' w' σ') (s : Step Φ σ w Φ' σ' w') : YInv C Φ' σ' w' S t :=
  ⟨i, h.apt.step s, fun a v q => by
    rcases s.snapn a v q with q | q | q
    · exact h.snapn a v q
    · exact .inr (.inl (Nat.le_trans h.size q))
    · rcases h.ownd _ q with q | q
      · exact .inr (.inr q)
      · exact .inr (.inl q), fun R hR => by
    rcases s.ownd R hR with q | q
    · exact h.ownd R q
    · exact .inr (Nat.le_trans h.size q), Nat.le_trans h.size s.size, h.st⟩

theorem ywp_of {c : Code} (h : mwp P c f σ fun e f' σ' => Q e f' σ' t) : ywp P C c f σ t Q :=
  fun F hF Φ w a S hi hr hd => wpIn_mono (h F hF Φ w a hi.inv hr hd) fun _ _ _ ⟨f', σ', Φ', x1, x2, x3, x4, q⟩ => ⟨f', σ', t, Φ', S, hi.go x3 x4, x2, x1, .of S x4, q⟩

theorem ywp_mono {c : Code} {Q' : YQ} (h : ywp P C c f σ t Q) (hq : ∀ e f σ t, Q e f σ t → Q' e f σ t) : ywp P C c f σ t Q' :=
  fun F hF Φ w a S hi hr hd => wpIn_mono (h F hF Φ w a S hi hr hd) fun _ _ _ ⟨f', σ', t', Φ', S', h1, h2, h3, h4, h5⟩ => ⟨f', σ', t', Φ', S', h1, h2, h3, h4, hq _ _ _ _ h5⟩

def thenY (next : FR → St → Option Nat → Prop) (Q : YQ) : YQ
  | .normal, f, σ, t => next f σ t
  | e, f, σ, t => Q e f σ t

theorem ywp_seq {x y : Code} (h : ywp P C x f σ t (thenY (fun f' σ' t' => ywp P C y f' σ' t' Q) Q)) : ywp P C (.seq x y) f σ t Q := by
  intro F hF Φ w a S hi hr hd
  refine wpIn_seq (wpIn_mono (h F hF.seq1 Φ w a S hi hr hd) fun e a' w' ⟨f', σ', t', Φ', S', h1, h2, h3, h4, q⟩ => ?_)
  cases e with
  | normal => exact wpIn_mono (q F hF.seq2 Φ' w' a' S' h1 h2 h3) fun _ _ _ hq => liftY_le h4 hq
  | _ => exact ⟨f', σ', t', Φ', S', h1, h2, h3, h4, q⟩

def blockY (id : Nat) (Q : YQ) : YQ
  | .exit id', f, σ, t => if id' = id then Q .normal f σ t else Q (.exit id') f σ t
  | e, f, σ, t => Q e f σ t

theorem ywp_block {id : Nat} {c : Code} (h : ywp P C c f σ t (blockY id Q)) : ywp P C (.block id c) f σ t Q := by
  intro F hF Φ w a S hi hr hd
  refine wpIn_block (wpIn_mono (h F hF.block Φ w a S hi hr hd) fun e a' w' ⟨f', σ', t', Φ', S', h1, h2, h3, h4, q⟩ => ?_)
  cases e with
  | exit id' =>
    simp only [Exit.inBlock]
    simp only [blockY] at q
    split
    · rw [if_pos (by assumption)] at q; exact ⟨f', σ', t', Φ', S', h1, h2, h3, h4, q⟩
    · rw [if_neg (by assumption)] at q; exact ⟨f', σ', t', Φ', S', h1, h2, h3, h4, q⟩
  | _ => exact ⟨f', σ', t', Φ', S', h1, h2, h3, h4, q⟩

theorem ywp_cond {c : Operand} {x y : Code} {b : Bool} (hc : mval f c = .bool b) (h1 : b = true → ywp P C x f σ t Q) (h2 : b = false → ywp P C y f σ t Q) : ywp P C (.cond c x y) f σ t Q := by
  intro F hF Φ w a S hi hr hd
  have he : a.eval c = .bool b := by
    have := rel_mval hr c
    rw [hc] at this
    generalize a.eval c = v at this
    cases this
    rfl
  exact wpIn_cond_split he (fun ht => h1 ht F hF.cond1 Φ w a S hi hr hd) (fun hf => h2 hf F hF.cond2 Φ w a S hi hr hd)

theorem ywp_gh {c : Code} (h : Gh f σ fun f1 σ1 => ywp P C c f1 σ1 t Q) : ywp P C c f σ t Q := by
  intro F hF Φ w a S hi hr hd
  obtain ⟨f1, σ1, Φ1, hf, k1, i1, r1, s1⟩ := h Φ w a.tmps hi.inv hr
  exact wpIn_mono (k1 F hF Φ1 w a S (hi.go i1 s1) r1 (hf ▸ hd.step hi.inv s1)) fun _ _ _ hq => liftY_le (.of S s1) hq

theorem ywp_loop {α : Type} {c : Code} (Fr : α → FR) (Sr : α → St) (T : α → Option Nat) (p : α → Prop) (μ : α → Nat) (h0 : Gh f σ fun f1 σ1 => ∃ a, f1 = Fr a ∧ σ1 = Sr a ∧ t = T a ∧ p a)
    (round : ∀ a, p a → ywp P C c (Fr a) (Sr a) (T a) (thenY (fun f' σ' t' => Gh f' σ' fun f1 σ1 => ∃ b, f1 = Fr b ∧ σ1 = Sr b ∧ t' = T b ∧ p b ∧ μ b < μ a) Q)) : ywp P C (.loop c) f σ t Q := by
  refine ywp_gh (fun Φ w vs hi hr => ?_)
  obtain ⟨f1, σ1, Φ1, hf, ⟨a0, e1, e2, e3, p0⟩, i1, r1, s1⟩ := h0 Φ w vs hi hr
  subst e1; subst e2; subst e3
  refine ⟨_, _, Φ1, hf, ?_, i1, r1, s1⟩
  clear h0 hi hr s1 i1 r1 hf
  intro Fe hF Φ w a S hi hr hd b k cs hro hb hroom
  have key : ∀ n x Φ w a S, μ x = n → p x → YInv C Φ (Sr x) w S (T x) → FRel Φ a.tmps (Fr x) → DRel Φ w a.defers (Fr x).d →
      ∃ e a' w', liftY C Φ (Sr x) w S Q e a' w' ∧ ArrivesIn (Machine.fenced P Fe) P (lone (b.atR a (.code c :: .inLoop c :: k)) cs w) b k cs e a' w' := by
    intro n
    induction n using Nat.strongRecOn with
    | _ n ih =>
      intro x Φ w a S hn hI hi hr hd
      obtain ⟨e, a₁, w₁, hq, harr⟩ := round x hI Fe hF.loop Φ w a S hi hr hd b (.inLoop c :: k) cs hro hb hroom
      cases e with
      | normal =>
        obtain ⟨f', σ', t', Φ', S', y1, y2, y3, y4, g2⟩ := hq
        obtain ⟨f2, σ2, Φ2, g0, ⟨x2, e1, e2, e3, hI2, hlt⟩, i2, r2, s2⟩ := g2 Φ' w₁ a₁.tmps y1.inv y2
        subst e1; subst e2; subst e3
        obtain ⟨e₂, a₂, w₂, hq₂, harr₂⟩ := ih (μ x2) (hn ▸ hlt) x2 Φ2 w₁ a₁ S' rfl hI2 (y1.go i2 s2) r2 (g0 ▸ y3.step y1.inv s2)
        exact ⟨e₂, a₂, w₂, liftY_le (y4.trans (.of S' s2)) hq₂, .of_steps (StepsIn.trans harr (.one (fenced_calm hb hroom rfl) stepR_inLoop)) harr₂⟩
      | exit id => exact ⟨_, a₁, w₁, hq, .pass (x := .inLoop c) rfl (fun _ _ => .inl (by simp)) harr⟩
      | goto l => exact ⟨_, a₁, w₁, hq, .pass (x := .inLoop c) rfl (fun _ _ => .inl (by simp)) harr⟩
      | ret => exact ⟨_, a₁, w₁, hq, .pass (x := .inLoop c) rfl (fun _ _ => .inl (by simp)) harr⟩
      | panic ch => exact ⟨_, a₁, w₁, hq, .pass (x := .inLoop c) rfl (fun _ _ => .inl (by simp)) harr⟩
      | outgrown => exact ⟨_, a₁, w₁, hq, .pass (x := .inLoop c) rfl (fun _ _ => .inl (by simp)) harr⟩
  obtain ⟨e, a', w', hq, harr⟩ := key _ a0 Φ w a S rfl p0 hi hr hd
  exact ⟨e, a', w', hq, .of_steps (.one (fenced_calm hb hroom rfl) stepR_loop) harr⟩

/-- Operations, and what comes behind them. -/
theorem mops_run {ops : Array Oper} {K : FR → St → Prop} {F : Fence} {Qm : Exit → Act → World → Prop} {rest : List Oper} : ∀ (l : List Oper), (F = Fence.wide ∨ ∃ l0, F = Fence.wide.inRound l0) → (∀ o, o ∈ l → ∀ c, o.op ≠ .defer c) → ∀ (f : FR) (σ : St) (Φ : Phi) (w : World) (a : Act),
    mops P ops K l f σ → Inv Φ w σ → FRel Φ a.tmps f → DRel Φ w a.defers f.d →
    (∀ f' σ' Φ' w' a', K f' σ' → Inv Φ' w' σ' → FRel Φ' a'.tmps f' → DRel Φ' w' a'.defers f'.d → Step Φ σ w Φ' σ' w' → wpListIn F 0 P ops Qm rest a' w') → wpListIn F 0 P ops Qm (l ++ rest) a w := by
  intro l hF
  have hfn : ∀ g, F.fn g := fun g => by rcases hF with rfl | ⟨l, rfl⟩ <;> trivial
  induction l with
  | nil => intro _ f σ Φ w a h hi hr hd hk; exact hk f σ Φ w a h hi hr hd (.refl _ _ _)
  | cons o r ih =>
    intro hdf f σ Φ w a h hi hr hd hk
    have hdo : ∀ c, o.op ≠ .defer c := hdf o (by simp)
    have ih := ih fun o ho => hdf o (by simp [ho])
    have hFo : F = Fence.wide ∨ ∃ l0, F = Fence.wide.inRound l0 ∧ ∀ c, o.op ≠ .defer c := hF.imp id fun ⟨l0, e⟩ => ⟨l0, e, hdo⟩
    simp only [mops] at h
    rw [List.cons_append]
    unfold wpListIn
    rcases mguard_sound h hr with ⟨hw, hy⟩ | ⟨hw, hn⟩
    · rw [if_pos hw]
      refine wpIn_of_wp hFo (mstep_sound hdo hy Φ w a _ _ hi hr fun v mv σ' Φ' w' r1 i1 s1 hk1 => ?_)
      exact ih _ _ Φ' w' (a.put o.dst v) hk1 i1 (rels_put (hr.mono s1.le) o.dst r1) (by rw [put_defers', mput_d]; exact hd.step hi s1) fun f' σ' Φ2 w2 a2 k1 k2 k3 k4 k5 => hk f' σ' Φ2 w2 a2 k1 k2 k3 k4 (s1.trans k5)
    · rw [if_neg (by simp [hw])]
      exact ⟨fun f _ => hfn f, ih _ _ Φ w (a.put o.dst undef) hn hi (rels_put hr o.dst rel_undef) (by rw [put_defers', mput_d]; exact hd) hk⟩

theorem roundIn_wide' {F : Fence} (hF : F = Fence.wide ∨ ∃ l, F = Fence.wide.inRound l) {n : Nat} {l : Nat} {fn : FuncId} {tmps : Array Value} {assign body : Code} {w : World} {R : Ending → World → Prop} (h : RoundIn Fence.wide n P l fn tmps assign body w R) : RoundIn F n P l fn tmps assign body w R := by
  rcases hF with rfl | ⟨l0, rfl⟩
  · exact h
  · exact h

/-- A call of yield among operations. -/
theorem ywp_region {id : Nat} {ops : Array Oper} (pre : List Oper) (y : Oper) (post : List Oper) (ho : ops.toList = pre ++ y :: post) (hpre : ∀ o, o ∈ pre → ∀ c, o.op ≠ .defer c) (hpost : ∀ o, o ∈ post → ∀ c, o.op ≠ .defer c)
    {o : Operand} {args : Array Operand} {ts : Array TypeId} (hy : y.op = .call ⟨.value o, args, ts⟩) (hg : y.guard = none) {i : Nat} (ht : t = some i) {x : List MV} (hx : C.xs[i]? = some x) (hno : ∀ m, m ∈ x → NoObj m)
    (hspec : YSpec P C.l C.xs C.Y C.Yx C.Φ0 C.σ0 C.n0)
    (h : mops P ops (fun f1 σ1 => mval f1 o = .fn (.yield C.l) [] [] ∧ args.toList.map (mval f1) = x ∧ mops P ops (fun f2 σ2 => Q .normal f2 σ2 (some (i + 1))) post (mput f1 y.dst (.bool true)) σ1 ∧
      mops P ops (fun f2 σ2 => Q .normal f2 σ2 none) post (mput f1 y.dst (.bool false)) σ1) pre f σ) : ywp P C (.region id ops false) f σ t Q := by
  intro F hF Φ w a S hi hr hd
  subst ht
  have hF' : F = Fence.wide ∨ ∃ l0, F = Fence.wide.inRound l0 := Or.imp (fun q => q) (fun ⟨l0, e, _⟩ => ⟨l0, e⟩) hF
  have hro : F.room 0 := hF.room 0
  refine wpIn_region_list ?_
  rw [ho]
  refine mops_run pre hF' hpre f σ Φ w a h hi.inv hr hd fun f1 σ1 Φ1 w1 a1 hk i1 r1 d1 s1 => ?_
  obtain ⟨hv, hargs, ht, hfl⟩ := hk
  have hi1 := hi.go i1 s1
  unfold wpListIn
  rw [if_pos (by unfold Region.wanted; rw [hg])]
  have rv := rel_mval r1 o
  rw [hv] at rv
  obtain ⟨first, cap, he, h1, h2⟩ := rv.inv_fn
  have e1 : first = #[] := Array.eq_empty_of_size_eq_zero (by simpa using h1.1)
  have e2 : cap = #[] := Array.eq_empty_of_size_eq_zero (by simpa using h2.1)
  subst e1 e2
  have hrels := rels_map r1 args
  rw [hargs] at hrels
  obtain ⟨Ψ, hΨ⟩ : ∃ Ψ : Phi, Ψ = ⟨Φ1.snap, fun _ => none, 0⟩ := ⟨_, rfl⟩
  have hrels' : Rels Ψ (args.map a1.eval) x := ⟨hrels.1, fun j m hm => by
    subst hΨ
    exact NoObj.rel (Φ := Φ1) (Φ' := ⟨Φ1.snap, fun _ => none, 0⟩) (fun _ _ q => q) (hno m (List.mem_of_getElem? hm)) (hrels.2 j m hm)⟩
  obtain ⟨fn, tmps, assign, body, hrun, hround⟩ := hspec i x S w1 Ψ (args.map a1.eval) hx hi1.st hi1.apt.agree hi1.size (fun m => by subst hΨ; rfl) (fun b v q => by
    subst hΨ
    exact ⟨i1.snap b v q, hi1.apt.snap b v q, hi1.snapn b v q⟩) hrels'
  have hsem : (y.semAt F.round a1.eval).run P w1 = .ok (.round C.l fn tmps assign body) w1 := by
    rw [Oper.semAt_eq _ _ _ (by rw [hy]; intro c e; cases e)]
    unfold execOp
    simp only [hy, resolve, he, Deferred.ofValue, Sem.run_bind, Sem.run_pure, Result.andThen_ok, invoke, Array.empty_append, Array.append_empty]
    exact hrun
  refine ⟨fun g _ => hF.fn g, ?_⟩
  rw [hsem]
  refine ⟨(fun q => by rw [hF.depth] at q; cases q), ?_⟩
  refine (roundIn_wide' hF' hround).mono ?_
  rintro e w2 ⟨b, S', rfl, hS1, hS2, hS3, hS4, hS5, hS6, hS7, hS8, hS9, hS10, hS11⟩
  -- our own side is as it was
  have ow : ∀ k, Owned Φ1 σ1 k → w2.heap[k]? = w1.heap[k]? := fun k hk => by
    refine hS8 k ?_ fun q => hi1.apt.own k q hk
    obtain ⟨l, ob, p, q1, q2, q3⟩ := hk
    obtain ⟨p', e, hlt⟩ := (i1.own l ob q1).place
    rw [q2] at e; cases e
    exact hlt k q3
  have i2 : Inv Φ1 w2 σ1 := ⟨fun l ob hl => (i1.own l ob hl).mono (.refl _) fun p R q1 q2 => ow R ⟨l, ob, p, hl, q1, q2⟩, i1.inj, fun c v q => by
      have hb := World.block_lt_of_cell? w1 c (i1.snap c v q)
      rw [World.cell?_heap (hS8 c.block hb (hi1.apt.snap c v q))]
      exact i1.snap c v q, i1.apart, i1.fresh⟩
  have apt2 : Apt Φ1 σ1 S' w2 := by
    have lt1 : ∀ k, Owned Φ1 σ1 k → k < w1.heap.size := fun k ⟨l, ob, p, q1, q2, q3⟩ => by
      obtain ⟨p', e, hlt⟩ := (i1.own l ob q1).place
      rw [q2] at e; cases e
      exact hlt k q3
    refine ⟨hS2, fun k hk ho => ?_, fun c v q ho => ?_, fun c v q hk => ?_⟩
    · rcases hS9 k hk with q | q
      · exact hi1.apt.own k q ho
      · have := lt1 k ho; omega
    · rcases hS10 c v q with q | q | q | q
      · exact hi1.apt.snown c v q ho
      · exact hi1.apt.own _ q ho
      · have := lt1 _ ho; omega
      · subst hΨ
        obtain ⟨l, ob, p, q1, q2, q3⟩ := ho
        exact i1.apart l ob p c.block c v q1 q2 q3 q rfl
    · rcases hS9 _ hk with p | p
      · exact hi1.apt.snap c v q p
      · have := World.block_lt_of_cell? w1 c (i1.snap c v q); omega
  have st2 : StepS Φ1 σ1 w1 S Φ1 σ1 w2 S' := ⟨.refl _, hS3, hS4, hS5, hS6, hS7, fun k hk _ hw => hS8 k hk hw, fun c v q => .inl q, fun R q => .inl q, hS9, fun c v q => by
    subst hΨ
    rcases hS10 c v q with q | q | q | q
    · exact .inl q
    · exact .inr (.inl q)
    · exact .inr (.inr (.inl q))
    · exact .inr (.inr (.inr (.inl q)))⟩
  have d2 : DRel Φ1 w2 a1.defers f1.d := d1.mono (.refl _) hS7 fun D hD => by
    rw [hS8 D (Array.getElem?_eq_some_iff.1 hD).1 (fun q => hi1.apt.agree.nomark D q _ ((hi1.apt.agree.same D q).symm.trans hD))]
    exact hD
  have go : ∀ (b : Bool) (t' : Option Nat), C.st t' S' → mops P ops (fun f2 σ2 => Q .normal f2 σ2 t') post (mput f1 y.dst (.bool b)) σ1 → wpListIn F 0 P ops (liftY C Φ σ w S Q) post (a1.put y.dst (.bool b)) w2 := by
    intro b t' hst hm
    have hyi : YInv C Φ1 σ1 w2 S' t' := ⟨i2, apt2, hi1.snapn, hi1.ownd, Nat.le_trans hi1.size hS7, hst⟩
    have := mops_run (rest := []) (Qm := liftY C Φ σ w S Q) post hF' hpost (mput f1 y.dst (.bool b)) σ1 Φ1 w2 (a1.put y.dst (.bool b)) hm i2 (rels_put r1 y.dst (.bool b)) (by rw [put_defers', mput_d]; exact d2) fun f2 σ2 Φ2 w3 a3 k1 k2 k3 k4 k5 => by
      unfold wpListIn
      exact ⟨f2, σ2, t', Φ2, S', hyi.go k2 k5, k3, k4, ((StepS.of S s1).trans st2).trans (.of S' k5), k1⟩
    rwa [List.append_nil] at this
  cases b with
  | true => exact go true (some (i + 1)) (by rw [if_pos rfl] at hS11; exact hS11) ht
  | false => exact go false none (by rw [if_neg (by decide)] at hS11; exact hS11) hfl
end rules

/-! ### Whole iterators -/

/-- Marks are shut at the end: the other side is as it was. -/
theorem Apt.putObj {Φ : Phi} {σ : St} {S : YS} {w : World} (h : Apt Φ σ S w) {D : Nat} {x : Option (List Deferred)} (o' : Obj) (hD : w.heap[D]? = some (Obj.deferred x)) : Apt Φ σ S (w.putObj D o') := by
  have hne : ∀ k, S.wr k → k ≠ D := fun k hk e => h.agree.nomark k hk x (by rw [← h.agree.same k hk, e]; exact hD)
  refine ⟨⟨fun k hk => (World.putObj_heap_other (hne k hk)).trans (h.agree.same k hk), h.agree.lt, h.agree.nomark, fun a v q => ?_, by rw [World.putObj_size]; exact h.agree.size, h.agree.os, h.agree.tape, h.agree.output, h.agree.drawn⟩, h.own, h.snown, h.snap⟩
  have hc := h.agree.sn a v q
  rw [← hc]
  refine World.cell?_heap (World.putObj_heap_other fun e => ?_)
  rw [World.cell?, e, hD] at hc
  simp at hc

theorem leavesY {P : Program} {fn : Func} {tmps : Array Value} {C : YC} {t : Option Nat} (hrs : fn.results.toList = []) {Φ0 : Phi} {σ0 : St} {w0 : World} {S0 : YS} (h0 : Φ0.base = w0.heap.size) {R : Ending → World → Prop} (hR : ∀ v Φ' w' σ' S', YInv C Φ' σ' w' S' t → StepS Φ0 σ0 w0 S0 Φ' σ' w' S' → R (.returned v) w') :
    ∀ (ds : List Deferred) (Φ : Phi) (w : World) (σ : St) (S : YS), DRel Φ w ds [] → YInv C Φ σ w S t → StepS Φ0 σ0 w0 S0 Φ σ w S → LeavesM P fn tmps R ds w := by
  intro ds
  induction ds with
  | nil =>
    intro Φ w σ S _ hi hs
    refine ⟨.tuple #[], ?_, hR _ Φ w σ S hi hs⟩
    rw [results_eq]
    have : fn.results = #[] := Array.toList_eq_nil_iff.1 hrs
    simp only [this]
    first | rfl | simp [Sem.run_bind, Sem.run_pure]
  | cons x ds ih =>
    intro Φ w σ S hd hi hs
    rcases hd with ⟨D, h1, h2, h3, h4, h5⟩ | ⟨g, ms, r, cap, h, _⟩
    · refine .inl ⟨D, _, h1, run_takeDeferred h3, ?_⟩
      have hDb : w0.heap.size ≤ D := by rw [← h0, ← hs.le.base]; exact h2
      have i' := hi.inv.putObj (.deferred none) h3 (fun _ _ _ e => by cases e) (fun _ _ e => by cases e)
      have s' : StepS Φ0 σ0 w0 S0 Φ σ (w.putObj D (.deferred none)) S :=
        ⟨hs.le, hs.os, hs.tape, hs.output, hs.drawn, by rw [World.putObj_size]; exact hs.size, fun k hk hn hw => (World.putObj_heap_other (by omega)).trans (hs.block k hk hn hw), hs.snapn, hs.ownd, hs.wr, hs.sn⟩
      refine ih Φ _ σ S ?_ ⟨i', hi.apt.putObj _ h3, hi.snapn, hi.ownd, by rw [World.putObj_size]; exact hi.size, hi.st⟩ s'
      have : ∀ (xs : List Deferred) (d : List (FuncId × List MV)), (∀ y, y ∈ xs → y.target ≠ .collected D) → DRel Φ w xs d → DRel Φ (w.putObj D (.deferred none)) xs d := by
        intro xs
        induction xs with
        | nil => intro d _ h; exact ⟨h.1, by rw [World.putObj_size]; exact h.2⟩
        | cons y xs ihx =>
          intro d hy h
          rcases h with ⟨D', k1, k2, k3, k4, k5⟩ | ⟨g, ms, r, cap, k1, k2, k3, k4⟩
          · refine .inl ⟨D', k1, k2, ?_, k4, ihx d (fun z hz => hy z (by simp [hz])) k5⟩
            rw [World.putObj_heap_other]
            · exact k3
            · intro e; exact hy y (by simp) (by rw [k1, e])
          · exact .inr ⟨g, ms, r, cap, k1, k2, k3, ihx r (fun z hz => hy z (by simp [hz])) k4⟩
      exact this ds [] h4 h5
    · cases h

def retY (n : Nat) : YQ
  | .normal, f, _, t => f.d = [] ∧ (t = some n ∨ t = none)
  | .ret, f, _, t => f.d = [] ∧ (t = some n ∨ t = none)
  | _, _, _, _ => False

theorem YSpec.rebase {P : Program} {l : Nat} {xs : List (List MV)} {Y : Nat → YS → Prop} {Yx : YS → Prop} {Φ : Phi} {σ : St} {n0 : Nat} (h : YSpec P l xs Y Yx Φ σ n0) (n : Nat) : YSpec P l xs Y Yx (Φ.rebase n) σ n0 :=
  fun i x S w' Ψ vs h1 h2 h3 h4 h5 h6 h7 => h i x S w' Ψ vs h1 h2 h3 h4 h5 h6 h7
theorem Apt.rebase {Φ : Phi} {σ : St} {S : YS} {w : World} (h : Apt Φ σ S w) (n : Nat) : Apt (Φ.rebase n) σ S w := ⟨h.agree, h.own, h.snown, h.snap⟩
theorem StepS.rebase {Φ Φ' : Phi} {σ σ' : St} {w w' : World} {S S' : YS} {n : Nat} (h : StepS (Φ.rebase n) σ w S Φ' σ' w' S') : StepS Φ σ w S (Φ'.rebase Φ.base) σ' w' S' :=
  ⟨⟨h.le.snap, h.le.obj, rfl⟩, h.os, h.tape, h.output, h.drawn, h.size, h.block, h.snapn, h.ownd, h.wr, h.sn⟩

/-- An iterator, by its body. -/
theorem MSeq.of_body {P : Program} {g : FuncId} {fn : Func} {c : Code} {ns : List MV} {σi : St} {xs : List (List MV)} (n : Nat) (hf : P.funcs[g]? = some fn) (hb : fn.body = some c) (hn : (fn.name == "runtime.NumGoroutine") = false)
    (hn' : max fn.ntmps (ns.length + 1) = n) (hrs : fn.results.toList = [])
    (h : ∀ C : YC, C.xs = xs → YSpec P C.l C.xs C.Y C.Yx C.Φ0 C.σ0 C.n0 → ywp P C c ⟨n, args0 0 (.fn (.yield C.l) [] [] :: ns), []⟩ σi (some 0) (retY xs.length)) : MSeq P g ns σi xs := by
  refine ⟨⟨fn, hf, by simp [hb], hn⟩, fun l Y Yx Φ w S vs hspec hi ha h0 hr => ?_⟩
  obtain ⟨C, hC⟩ : ∃ C : YC, C = ⟨l, xs, Y, Yx, Φ.rebase w.heap.size, σi, w.heap.size⟩ := ⟨_, rfl⟩
  have hargs : Rels (Φ.rebase w.heap.size) (#[Value.func (.yield l) #[] #[]] ++ vs) (.fn (.yield l) [] [] :: ns) := by
    refine ⟨by simp [hr.1]; omega, fun i m hm => ?_⟩
    cases i with
    | zero =>
      simp only [List.getElem?_cons_zero, Option.some.injEq] at hm
      subst hm
      have e : (#[Value.func (.yield l) #[] #[]] ++ vs).getD 0 undef = Value.func (.yield l) #[] #[] := by
        simp [Array.getD_eq_getD_getElem?, Array.getElem?_append]
      rw [e]
      exact rel_ofV _ (.func (.yield l) #[] #[])
    | succ i =>
      have := (hr.2 i m (by simpa using hm)).rebase w.heap.size
      have e : (#[Value.func (.yield l) #[] #[]] ++ vs).getD (i + 1) undef = vs.getD i undef := by
        simp [Array.getD_eq_getD_getElem?, Array.getElem?_append]
      rw [e]; exact this
  have hfr := frel_args (fn := fn) hargs
  rw [List.length_cons, hn'] at hfr
  have hbody := h C (by rw [hC]) (by rw [hC]; exact hspec.rebase _)
  have hst : YInv C (Φ.rebase w.heap.size) σi w S (some 0) := by
    subst hC
    exact ⟨hi.rebase _, ha.rebase _, fun a v q => .inl q, fun R q => .inl q, Nat.le_refl _, h0⟩
  have hl : C.l = l := by rw [hC]
  rw [hl] at hbody
  refine (calls_of_wpM (R := fun e w' => ∃ v Φ' σ' S', e = .returned v ∧ (YInv C Φ' σ' w' S' (some xs.length) ∨ YInv C Φ' σ' w' S' none) ∧ StepS (Φ.rebase w.heap.size) σi w S Φ' σ' w' S') hf hb (wp_mono (wpIn_wide.1 (hbody _ .wide (Φ.rebase w.heap.size) w { tmps := _, defers := [] } S hst hfr ⟨rfl, Nat.le_refl _⟩)) ?_)).mono ?_
  · rintro e a' w' ⟨f', σ', t', Φ', S', q1, q2, q3, q4, q5⟩
    have fin : (t' = some xs.length ∨ t' = none) → f'.d = [] → LeavesM P fn a'.tmps (fun e w' => ∃ v Φ' σ' S', e = .returned v ∧ (YInv C Φ' σ' w' S' (some xs.length) ∨ YInv C Φ' σ' w' S' none) ∧ StepS (Φ.rebase w.heap.size) σi w S Φ' σ' w' S') a'.defers w' := by
      intro ht hd
      rw [hd] at q3
      rcases ht with rfl | rfl
      · exact leavesY (P := P) (fn := fn) (tmps := a'.tmps) hrs (Φ0 := Φ.rebase w.heap.size) (w0 := w) rfl (fun v Φ'' w'' σ'' S'' q qs => ⟨v, Φ'', σ'', S'', rfl, .inl q, qs⟩) a'.defers Φ' w' σ' S' q3 q1 q4
      · exact leavesY (P := P) (fn := fn) (tmps := a'.tmps) hrs (Φ0 := Φ.rebase w.heap.size) (w0 := w) rfl (fun v Φ'' w'' σ'' S'' q qs => ⟨v, Φ'', σ'', S'', rfl, .inr q, qs⟩) a'.defers Φ' w' σ' S' q3 q1 q4
    cases e with
    | normal => exact ⟨.inl rfl, fin q5.2 q5.1⟩
    | ret => exact ⟨.inr rfl, fin q5.2 q5.1⟩
    | _ => exact q5.elim
  · rintro e w' ⟨v, Φ', σ', S', rfl, q, qs⟩
    subst hC
    rcases q with q | q
    · exact ⟨v, Φ'.rebase Φ.base, σ', S', rfl, q.inv.rebase _, q.apt.rebase _, qs.rebase, .inl q.st⟩
    · exact ⟨v, Φ'.rebase Φ.base, σ', S', rfl, q.inv.rebase _, q.apt.rebase _, qs.rebase, .inr q.st⟩
end Go.Proofs.Ytielcgplbnlgbaa
end

section
/- Loops over functions in functions that hand on elements themselves: the rule, with calls of the outer yield in the rounds. -/
set_option linter.unusedVariables false
set_option linter.unusedSimpArgs false
namespace Go.Proofs.Ytielcgplbnlgbaa

/-- What a step says of places and snapshots alone. -/
structure C2 (Φ0 : Phi) (σ0 : St) (n0 : Nat) (Φ : Phi) (σ : St) : Prop where
  le : Φ0.le Φ
  snapn : ∀ a v, Φ.snap a = some v → Φ0.snap a = some v ∨ n0 ≤ a.block ∨ Owned Φ0 σ0 a.block
  ownd : ∀ R, Owned Φ σ R → Owned Φ0 σ0 R ∨ n0 ≤ R

/-- The loop's own side between two rounds, and the side of the outer loop. -/
structure CStY (C : YC) (Φ0 : Phi) (σ0 : St) (n0 : Nat) (So0 : YS) (tmps : Array Value) (fc : FR) (l : Nat) (st : Loop) (σ : St) (S : YS) (Φ : Phi) (So : YS) (t : Option Nat) : Prop where
  inv : YInv C Φ σ S.w So t
  frame : FRel Φ tmps fc
  step : C2 Φ0 σ0 n0 Φ σ
  wr : ∀ k, S.wr k ↔ (Owned Φ σ k ∨ k = l ∨ So.wr k)
  sn : ∀ a, S.sn a = (match Φ.snap a with | some v => some v | none => So.sn a)
  lrec : S.w.heap[l]? = some (.loop st)
  size : n0 ≤ S.w.heap.size
  base : Φ.base ≤ S.w.heap.size
  owr : ∀ k, So.wr k → So0.wr k ∨ n0 ≤ k
  osn : ∀ a v, So.sn a = some v → So0.sn a = some v ∨ So0.wr a.block ∨ n0 ≤ a.block ∨ Φ0.snap a = some v ∨ Owned Φ0 σ0 a.block

section
variable {C : YC} {Φ0 Φ : Phi} {σ0 σ : St} {n0 : Nat} {So0 : YS} {tmps : Array Value} {fc : FR} {l : Nat} {st : Loop} {S : YS} {So : YS} {t : Option Nat}

theorem CStY.snap_sn (h : CStY C Φ0 σ0 n0 So0 tmps fc l st σ S Φ So t) {a : Addr} {v : Value} (q : Φ.snap a = some v) : S.sn a = some v := by rw [h.sn a, q]
theorem CStY.so_sn (h : CStY C Φ0 σ0 n0 So0 tmps fc l st σ S Φ So t) {a : Addr} {v : Value} (q : So.sn a = some v) : S.sn a = some v := by
  rw [h.sn a]
  cases e : Φ.snap a with
  | none => exact q
  | some u =>
    have h1 := h.inv.inv.snap a u e
    have h2 := h.inv.apt.agree.sn a v q
    rw [h1] at h2
    simpa using h2
theorem CStY.sn_cases (h : CStY C Φ0 σ0 n0 So0 tmps fc l st σ S Φ So t) {a : Addr} {v : Value} (q : S.sn a = some v) : Φ.snap a = some v ∨ So.sn a = some v := by
  rw [h.sn a] at q
  cases e : Φ.snap a with
  | none => rw [e] at q; exact .inr q
  | some u => rw [e] at q; exact .inl q

theorem CStY.agree (h : CStY C Φ0 σ0 n0 So0 tmps fc l st σ S Φ So t) : Agree S S.w :=
  ⟨fun _ _ => rfl, fun k hk => by
    rcases (h.wr k).1 hk with q | rfl | q
    · obtain ⟨l', o, p, h1, h2, h3⟩ := q
      obtain ⟨p', e, hlt⟩ := (h.inv.inv.own l' o h1).place
      rw [h2] at e; cases e
      exact hlt k h3
    · exact (Array.getElem?_eq_some_iff.1 h.lrec).1
    · exact Nat.lt_of_lt_of_le (h.inv.apt.agree.lt k q) h.inv.apt.agree.size, (fun k hk x e => by
    rcases (h.wr k).1 hk with q | rfl | q
    · exact h.inv.inv.mark e q
    · rw [h.lrec] at e; cases e
    · exact h.inv.apt.agree.nomark k q x ((h.inv.apt.agree.same k q).symm.trans e)), fun a v q => by
    rcases h.sn_cases q with q | q
    · exact h.inv.inv.snap a v q
    · exact h.inv.apt.agree.sn a v q, Nat.le_refl _, rfl, rfl, rfl, Nat.le_refl _⟩

theorem CStY.at (h : CStY C Φ0 σ0 n0 So0 tmps fc l st σ S Φ So t) (k1 : ∀ a v, Φ0.snap a = some v → C.Φ0.snap a = some v ∨ C.n0 ≤ a.block ∨ Owned C.Φ0 C.σ0 a.block) (k2 : ∀ R, Owned Φ0 σ0 R → Owned C.Φ0 C.σ0 R ∨ C.n0 ≤ R) (k3 : C.n0 ≤ n0)
    {w : World} (ha : Agree S w) {Ψ : Phi} (ho : ∀ m, Ψ.obj m = none)
    (hs : ∀ a v, Ψ.snap a = some v → w.cell? a = some v ∧ ¬ S.wr a.block ∧ (Φ0.snap a = some v ∨ n0 ≤ a.block ∨ Owned Φ0 σ0 a.block)) :
    ∃ Φ', YInv C Φ' σ w So t ∧ FRel Φ' tmps fc ∧ C2 Φ0 σ0 n0 Φ' σ ∧ (∀ k, Owned Φ' σ k ↔ Owned Φ σ k) ∧ (∀ a v, Φ'.snap a = some v → Φ.snap a = some v ∨ Ψ.snap a = some v) ∧ (∀ v m, Rel Ψ v m → Rel Φ' v m) ∧ w.heap[l]? = some (.loop st) ∧ Φ'.base ≤ w.heap.size := by
  obtain ⟨Φ', hΦ⟩ : ∃ Φ' : Phi, Φ' = { Φ with snap := fun a => match Φ.snap a with | some v => some v | none => Ψ.snap a } := ⟨_, rfl⟩
  have hle : Φ.le Φ' := by subst hΦ; exact ⟨fun a v q => by simp [q], fun _ _ q => q, rfl⟩
  have hobj : Φ'.obj = Φ.obj := by subst hΦ; rfl
  have hb : Φ'.base = Φ.base := by subst hΦ; rfl
  have hsn : ∀ a v, Φ'.snap a = some v → Φ.snap a = some v ∨ Ψ.snap a = some v := fun a v q => by
    subst hΦ
    simp only at q
    cases e : Φ.snap a with
    | none => rw [e] at q; exact .inr q
    | some u => rw [e] at q; exact .inl q
  have hwr : ∀ k, Owned Φ σ k → w.heap[k]? = S.w.heap[k]? := fun k hk => ha.same k ((h.wr k).2 (.inl hk))
  have hown : ∀ k, Owned Φ' σ k ↔ Owned Φ σ k := fun k => by unfold Owned; rw [hobj]
  have hinv : Inv Φ' w σ := by
    refine ⟨fun l' o hl => (h.inv.inv.own l' o hl).mono hle fun p R h1 h2 => hwr R ⟨l', o, p, hl, h1, h2⟩, fun a b o o' p p' R h1 h2 h3 h4 => ?_, fun a v q => ?_, fun l' o p R a v h1 h2 h3 q => ?_, ?_⟩
    · rw [hobj] at h3 h4; exact h.inv.inv.inj a b o o' p p' R h1 h2 h3 h4
    · rcases hsn a v q with q | q
      · exact ha.sn a v (h.snap_sn q)
      · exact (hs a v q).1
    · rw [hobj] at h2
      rcases hsn a v q with q | q
      · exact h.inv.inv.apart l' o p R a v h1 h2 h3 q
      · intro e
        exact (hs a v q).2.1 ((h.wr _).2 (.inl ⟨l', o, p, h1, h2, e ▸ h3⟩))
    · obtain ⟨n, hn⟩ := h.inv.inv.fresh
      exact ⟨n, fun k hk => by rw [hobj]; exact hn k hk⟩
  have hag := h.inv.apt.agree
  have hapt : Apt Φ' σ So w := by
    refine ⟨⟨fun k hk => (ha.same k ((h.wr k).2 (.inr (.inr hk)))).trans (hag.same k hk), hag.lt, hag.nomark, fun a v q => ha.sn a v (h.so_sn q), Nat.le_trans hag.size ha.size, ha.os.trans hag.os, ha.tape.trans hag.tape, ha.output.trans hag.output, Nat.le_trans hag.drawn ha.drawn⟩, fun k hk q => h.inv.apt.own k hk ((hown k).1 q), fun a v q ho => h.inv.apt.snown a v q ((hown _).1 ho), fun a v q hk => ?_⟩
    rcases hsn a v q with q | q
    · exact h.inv.apt.snap a v q hk
    · exact (hs a v q).2.1 ((h.wr _).2 (.inr (.inr hk)))
  refine ⟨Φ', ⟨hinv, hapt, fun a v q => ?_, fun R hR => h.inv.ownd R ((hown R).1 hR), Nat.le_trans h.inv.size ha.size, h.inv.st⟩, h.frame.mono hle, ⟨h.step.le.trans hle, fun a v q => ?_, fun R hR => h.step.ownd R ((hown R).1 hR)⟩, hown, hsn, fun v m r => ?_, ?_, ?_⟩
  · rcases hsn a v q with q | q
    · exact h.inv.snapn a v q
    · rcases (hs a v q).2.2 with q | q | q
      · exact k1 a v q
      · exact .inr (.inl (Nat.le_trans k3 q))
      · rcases k2 _ q with q | q
        · exact .inr (.inr q)
        · exact .inr (.inl q)
  · rcases hsn a v q with q | q
    · exact h.step.snapn a v q
    · exact (hs a v q).2.2
  · refine r.mono2 (fun a u q => ?_) (fun l' p q => by rw [ho l'] at q; cases q)
    have h1 := (hs a u q).1
    subst hΦ
    simp only
    cases e : Φ.snap a with
    | none => exact q
    | some u' =>
      have h2 := ha.sn a u' (h.snap_sn e)
      rw [h1] at h2
      simpa using h2.symm
  · rw [ha.same l ((h.wr l).2 (.inr (.inl rfl)))]; exact h.lrec
  · rw [hb]; exact Nat.le_trans h.base ha.size
end

def onlyNY (K : FR → St → Option Nat → Prop) : YQ
  | .normal, f, σ, t => K f σ t
  | _, _, _, _ => False

def roundY (Q : YQ) (fc : FR) (nxt : St → Option Nat → Prop) : YQ
  | .normal, f, σ, t => Gh f σ fun _ σ1 => nxt σ1 t
  | .ret, f, σ, t => Gh f σ fun _ σ1 => Q .ret fc σ1 t
  | .exit id, f, σ, t => Gh f σ fun _ σ1 => Q (.exit id) fc σ1 t
  | _, _, _, _ => False

theorem C2.step {Φ0 Φ Φ' : Phi} {σ0 σ σ' : St} {n0 : Nat} {w w' : World} {S S' : YS} (h : C2 Φ0 σ0 n0 Φ σ) (hn : n0 ≤ w.heap.size) (k : StepS Φ σ w S Φ' σ' w' S') : C2 Φ0 σ0 n0 Φ' σ' where
  le := h.le.trans k.le
  snapn := fun a v hv => by
    rcases k.snapn a v hv with q | q | q
    · exact h.snapn a v q
    · exact .inr (.inl (Nat.le_trans hn q))
    · rcases h.ownd _ q with q | q
      · exact .inr (.inr q)
      · exact .inr (.inl q)
  ownd := fun R hR => by
    rcases k.ownd R hR with q | q
    · exact h.ownd R q
    · exact .inr (Nat.le_trans hn q)

/-- A block of bookkeeping turns. -/
theorem YInv.putObj {C : YC} {Φ : Phi} {σ : St} {w : World} {S : YS} {t : Option Nat} (h : YInv C Φ σ w S t) {l : Nat} {r : Loop} (o' : Obj) (hl : w.heap[l]? = some (.loop r)) (hw : ¬ S.wr l) : YInv C Φ σ (w.putObj l o') S t := by
  have hne : ∀ k, S.wr k → k ≠ l := fun k hk e => hw (e ▸ hk)
  refine ⟨h.inv.putObj _ hl (fun _ _ _ e => by cases e) (fun _ _ e => by cases e), ⟨⟨fun k hk => (World.putObj_heap_other (hne k hk)).trans (h.apt.agree.same k hk), h.apt.agree.lt, h.apt.agree.nomark, fun a v q => ?_, by rw [World.putObj_size]; exact h.apt.agree.size, h.apt.agree.os, h.apt.agree.tape, h.apt.agree.output, h.apt.agree.drawn⟩, h.apt.own, h.apt.snown, h.apt.snap⟩, h.snapn, h.ownd, by rw [World.putObj_size]; exact h.size, h.st⟩
  have hc := h.apt.agree.sn a v q
  rw [← hc]
  refine World.cell?_heap (World.putObj_heap_other fun e => ?_)
  rw [World.cell?, e, hl] at hc
  simp at hc

/-- One round, with calls of the outer yield. -/
theorem round_atY {P : Program} {C : YC} {Φ0 : Phi} {σ0 : St} {n0 : Nat} {So0 : YS} {tmps : Array Value} {fc : FR} {l : Nat} {fn : FuncId} {ps : Array Tmp} {assign body : Code} {Q : YQ} {nxt : St → Option Nat → Prop} {D : Nat} {σ : St} {S : YS} {Φ : Phi} {So : YS} {t : Option Nat} {x : List MV} {w : World} {Ψ : Phi} {vs : Array Value}
    (k1 : ∀ a v, Φ0.snap a = some v → C.Φ0.snap a = some v ∨ C.n0 ≤ a.block ∨ Owned C.Φ0 C.σ0 a.block) (k2 : ∀ R, Owned Φ0 σ0 R → Owned C.Φ0 C.σ0 R ∨ C.n0 ≤ R) (k3 : C.n0 ≤ n0) (hlo : ¬ So0.wr l) (hln : l < n0 + 2) (hln2 : n0 ≤ l)
    (rec : LoopState → Option Code → Loop) (hrec : rec = fun st pe => { state := st, pending := pe, fn, tmps, params := ps, assign, body, defers := D })
    (nda : noDefer assign = true) (ndb : noDefer body = true) (hx : x.length = ps.size)
    (hr : ywp P C assign (mputs ⟨fc.n, fc.l, []⟩ ps.toList x) σ t (onlyNY fun f1 σ1 t1 => ywp P C body f1 σ1 t1 (roundY Q fc nxt)))
    (h : CStY C Φ0 σ0 n0 So0 tmps fc l (rec .ready none) σ S Φ So t) (ha : Agree S w) (hn0 : n0 + 2 ≤ w.heap.size) (hsz0 : ∀ k, So.wr k → So0.wr k ∨ n0 + 2 ≤ k) (ho : ∀ m, Ψ.obj m = none)
    (hs : ∀ a v, Ψ.snap a = some v → w.cell? a = some v ∧ ¬ S.wr a.block ∧ (Φ0.snap a = some v ∨ n0 ≤ a.block ∨ Owned Φ0 σ0 a.block)) (hv : Rels Ψ vs x) :
    YieldAt Fence.wide 0 P l vs w fun e w' => ∃ b S', e = .returned (.bool b) ∧ S'.w = w' ∧ Agree S' w' ∧ w'.os = w.os ∧ w'.tape = w.tape ∧ w'.output = w.output ∧ w.drawn ≤ w'.drawn ∧ w.heap.size ≤ w'.heap.size ∧
      (∀ k, k < w.heap.size → ¬ S.wr k → w'.heap[k]? = w.heap[k]?) ∧ (∀ k, S'.wr k → S.wr k ∨ w.heap.size ≤ k) ∧
      (∀ a v, S'.sn a = some v → S.sn a = some v ∨ S.wr a.block ∨ w.heap.size ≤ a.block ∨ Ψ.snap a = some v) ∧
      (if b = true then ∃ σ1 Φ1 So1 t1, nxt σ1 t1 ∧ CStY C Φ0 σ0 n0 So0 tmps fc l (rec .ready none) σ1 S' Φ1 So1 t1 ∧ (∀ k, So1.wr k → So0.wr k ∨ n0 + 2 ≤ k)
        else ∃ c σ1 Φ1 So1 t1, ((c = .ret ∧ Q .ret fc σ1 t1) ∨ ∃ id, c = .exit id ∧ Q (.exit id) fc σ1 t1) ∧ CStY C Φ0 σ0 n0 So0 tmps fc l (rec .done (some c)) σ1 S' Φ1 So1 t1 ∧ (∀ k, So1.wr k → So0.wr k ∨ n0 + 2 ≤ k)) := by
  obtain ⟨Φc, i1, fr1, c1, o1, s1, r1, l1, b1⟩ := h.at k1 k2 k3 ha ho hs
  have hl : l < w.heap.size := (Array.getElem?_eq_some_iff.1 l1).1
  have hwl : S.wr l := (h.wr l).2 (.inr (.inl rfl))
  have hSol : ¬ So.wr l := fun q => (hsz0 l q).elim hlo (fun q => by omega)
  have hy := run_yield (P := P) (args := vs) l1 (by rw [hrec]; exact hv.1.trans hx)
  rw [hrec] at hy
  refine ⟨fn, _, assign, body, hy, roundIn_of_wpIn trivial ?_⟩
  have hfr : FRel Φc ((ps.zip vs).foldl (fun t (p : Tmp × Value) => t.setIfInBounds p.1 p.2) tmps) (mputs ⟨fc.n, fc.l, []⟩ ps.toList x) := by
    rw [foldl_zip]
    refine frel_puts ps.toList x vs.toList tmps ⟨fc.n, fc.l, []⟩ fr1 (by simpa using hv.1) fun i m hm => ?_
    have := r1 _ _ (hv.2 i m hm)
    simpa [Array.getD_eq_getD_getElem?, List.getD_eq_getElem?_getD] using this
  refine wpIn_mono (hr (Fence.wide.inRound l) (.inr ⟨l, rfl, nda⟩) Φc w { tmps := _, defers := [] } So i1 hfr (by rw [mputs_d]; exact ⟨rfl, b1⟩)) ?_
  rintro e a₁ w₁ ⟨f2, σ2, t2, Φ2, So2, i2, fr2, d2, st2, q⟩
  cases e with
  | normal =>
    have hnl : ¬ Owned Φc σ l := i1.inv.loopNot l1
    have hl2 : w₁.heap[l]? = some (.loop (rec .ready none)) := (st2.block l hl hnl hSol).trans l1
    have hSol2 : ¬ So2.wr l := fun q => (st2.wr l q).elim hSol (fun q => by omega)
    refine ⟨_, run_beginRound hl2 (by rw [hrec]), ?_⟩
    obtain ⟨w₂, hw2⟩ : ∃ w₂, w₁.putObj l (.loop { rec .ready none with state := .busy }) = w₂ := ⟨_, rfl⟩
    rw [hw2]
    have i2' : YInv C Φ2 σ2 w₂ So2 t2 := by rw [← hw2]; exact i2.putObj _ hl2 hSol2
    have sz2 : w₂.heap.size = w₁.heap.size := by rw [← hw2, World.putObj_size]
    have ll2 : w₂.heap[l]? = some (.loop { rec .ready none with state := .busy }) := by rw [← hw2]; exact World.putObj_heap_same (Array.getElem?_eq_some_iff.1 hl2).1
    have d2' : DRel Φ2 w₂ a₁.defers f2.d := d2.mono (.refl _) (by omega) fun D' hD => by
      rw [← hw2, World.putObj_heap_other]
      · exact hD
      · rintro rfl; rw [hl2] at hD; cases hD
    have q : ywp P C body f2 σ2 t2 (roundY Q fc nxt) := q
    refine wpIn_mono (q (Fence.wide.inRound l) (.inr ⟨l, rfl, ndb⟩) Φ2 w₂ a₁ So2 i2' fr2 d2') ?_
    rintro e a₃ w₃ ⟨f3, σ3, t3, Φ3, So3, i3, fr3, d3, st3, q3⟩
    have hnl2 : ¬ Owned Φ2 σ2 l := i2'.inv.loopNot ll2
    have hl3 : w₃.heap[l]? = some (.loop { rec .ready none with state := .busy }) := (st3.block l (Array.getElem?_eq_some_iff.1 ll2).1 hnl2 hSol2).trans ll2
    have hSol3 : ¬ So3.wr l := fun q => (st3.wr l q).elim hSol2 (fun q => by have := st2.size; omega)
    have fin : ∀ (jump : Option Code) (st : Loop) (K : FR → St → Prop), st = rec (if jump.isNone then .ready else .done) jump → Gh f3 σ3 K →
        ∃ σ4 f4 Φ4, K f4 σ4 ∧ (Instr.endRound l jump).run P w₃ = .ok (.bool jump.isNone) (w₃.putObj l (.loop st)) ∧
          (∃ S' : YS, S'.w = w₃.putObj l (.loop st) ∧ Agree S' (w₃.putObj l (.loop st)) ∧ (w₃.putObj l (.loop st)).os = w.os ∧ (w₃.putObj l (.loop st)).tape = w.tape ∧ (w₃.putObj l (.loop st)).output = w.output ∧ w.drawn ≤ (w₃.putObj l (.loop st)).drawn ∧ w.heap.size ≤ (w₃.putObj l (.loop st)).heap.size ∧
            (∀ k, k < w.heap.size → ¬ S.wr k → (w₃.putObj l (.loop st)).heap[k]? = w.heap[k]?) ∧ (∀ k, S'.wr k → S.wr k ∨ w.heap.size ≤ k) ∧
            (∀ a v, S'.sn a = some v → S.sn a = some v ∨ S.wr a.block ∨ w.heap.size ≤ a.block ∨ Ψ.snap a = some v) ∧ CStY C Φ0 σ0 n0 So0 tmps fc l st σ4 S' Φ4 So3 t3 ∧ (∀ k, So3.wr k → So0.wr k ∨ n0 + 2 ≤ k)) := by
      intro jump st K hst hg
      obtain ⟨f4, σ4, Φ4, -, k4, i4, fr4, st4⟩ := hg Φ3 w₃ a₃.tmps i3.inv fr3
      have yi4 := i3.go i4 st4
      have hend := run_endRound (P := P) jump hl3
      have hst' : ({ ({ rec .ready none with state := .busy } : Loop) with state := if jump.isNone then .ready else .done, pending := jump } : Loop) = st := by rw [hst, hrec]
      rw [hst'] at hend
      refine ⟨σ4, f4, Φ4, k4, hend, ?_⟩
      obtain ⟨w₄, hw4⟩ : ∃ w₄, w₃.putObj l (.loop st) = w₄ := ⟨_, rfl⟩
      rw [hw4]
      have sz4 : w₄.heap.size = w₃.heap.size := by rw [← hw4, World.putObj_size]
      have i4' : YInv C Φ4 σ4 w₄ So3 t3 := by rw [← hw4]; exact yi4.putObj _ hl3 hSol3
      have cs : C2 Φ0 σ0 n0 Φ4 σ4 := ((c1.step (by omega) st2).step (w := w₂) (by have := st2.size; omega) st3).step (w := w₃) (by have := st2.size; have := st3.size; omega) (.of So3 st4)
      have hsz : w.heap.size ≤ w₃.heap.size := by have := st2.size; have := st3.size; omega
      have oth : ∀ k, k ≠ l → w₄.heap[k]? = w₃.heap[k]? := fun k hk => by rw [← hw4]; exact World.putObj_heap_other hk
      have oth2 : ∀ k, k ≠ l → w₂.heap[k]? = w₁.heap[k]? := fun k hk => by rw [← hw2]; exact World.putObj_heap_other hk
      have ow2 : ∀ k, Owned Φ2 σ2 k → S.wr k ∨ w.heap.size ≤ k := fun k hk => by
        rcases st2.ownd k hk with q | q
        · exact .inl ((h.wr k).2 (.inl ((o1 k).1 q)))
        · exact .inr q
      have ow3 : ∀ k, Owned Φ3 σ3 k → S.wr k ∨ w.heap.size ≤ k := fun k hk => by
        rcases st3.ownd k hk with q | q
        · exact ow2 k q
        · have := st2.size; exact .inr (by omega)
      have ow : ∀ k, Owned Φ4 σ4 k → S.wr k ∨ w.heap.size ≤ k := fun k hk => by
        rcases st4.ownd k hk with q | q
        · exact ow3 k q
        · exact .inr (by omega)
      have sw2 : ∀ k, So2.wr k → S.wr k ∨ w.heap.size ≤ k := fun k hk => by
        rcases st2.wr k hk with q | q
        · exact .inl ((h.wr k).2 (.inr (.inr q)))
        · exact .inr q
      have sw3 : ∀ k, So3.wr k → S.wr k ∨ w.heap.size ≤ k := fun k hk => by
        rcases st3.wr k hk with q | q
        · exact sw2 k q
        · have := st2.size; exact .inr (by omega)
      have sw0 : ∀ k, So3.wr k → So0.wr k ∨ n0 + 2 ≤ k := fun k hk => by
        rcases st3.wr k hk with q | q
        · rcases st2.wr k q with q | q
          · exact hsz0 k q
          · exact .inr (by omega)
        · have := st2.size; exact .inr (by omega)
      have tw : ∀ {a : Addr} {v : Value}, S.wr a.block ∨ w.heap.size ≤ a.block → S.sn a = some v ∨ S.wr a.block ∨ w.heap.size ≤ a.block ∨ Ψ.snap a = some v := fun q => q.elim (fun q => .inr (.inl q)) (fun q => .inr (.inr (.inl q)))
      have sc : ∀ a v, Φc.snap a = some v → S.sn a = some v ∨ S.wr a.block ∨ w.heap.size ≤ a.block ∨ Ψ.snap a = some v := fun a v q => by
        rcases s1 a v q with q | q
        · exact .inl (h.snap_sn q)
        · exact .inr (.inr (.inr q))
      have s2 : ∀ a v, Φ2.snap a = some v → S.sn a = some v ∨ S.wr a.block ∨ w.heap.size ≤ a.block ∨ Ψ.snap a = some v := fun a v q => by
        rcases st2.snapn a v q with q | q | q
        · exact sc a v q
        · exact tw (.inr q)
        · exact tw (.inl ((h.wr _).2 (.inl ((o1 _).1 q))))
      have s3 : ∀ a v, Φ3.snap a = some v → S.sn a = some v ∨ S.wr a.block ∨ w.heap.size ≤ a.block ∨ Ψ.snap a = some v := fun a v q => by
        rcases st3.snapn a v q with q | q | q
        · exact s2 a v q
        · have := st2.size; exact tw (.inr (by omega))
        · exact tw (ow2 _ q)
      have z2 : ∀ a v, So2.sn a = some v → S.sn a = some v ∨ S.wr a.block ∨ w.heap.size ≤ a.block ∨ Ψ.snap a = some v := fun a v q => by
        rcases st2.sn a v q with q | q | q | q | q
        · exact .inl (h.so_sn q)
        · exact tw (.inl ((h.wr _).2 (.inr (.inr q))))
        · exact tw (.inr q)
        · exact sc a v q
        · exact tw (.inl ((h.wr _).2 (.inl ((o1 _).1 q))))
      have z3 : ∀ a v, So3.sn a = some v → S.sn a = some v ∨ S.wr a.block ∨ w.heap.size ≤ a.block ∨ Ψ.snap a = some v := fun a v q => by
        rcases st3.sn a v q with q | q | q | q | q
        · exact z2 a v q
        · exact tw (sw2 _ q)
        · have := st2.size; exact tw (.inr (by omega))
        · exact s2 a v q
        · exact tw (ow2 _ q)
      have zz : ∀ a v, So3.sn a = some v → So0.sn a = some v ∨ So0.wr a.block ∨ n0 ≤ a.block ∨ Φ0.snap a = some v ∨ Owned Φ0 σ0 a.block := fun a v q => by
        have fromΦ : ∀ {Φ' : Phi} {σ' : St}, C2 Φ0 σ0 n0 Φ' σ' → Φ'.snap a = some v → So0.sn a = some v ∨ So0.wr a.block ∨ n0 ≤ a.block ∨ Φ0.snap a = some v ∨ Owned Φ0 σ0 a.block := fun c q => by
          rcases c.snapn a v q with q | q | q
          · exact .inr (.inr (.inr (.inl q)))
          · exact .inr (.inr (.inl q))
          · exact .inr (.inr (.inr (.inr q)))
        have fromO : ∀ {Φ' : Phi} {σ' : St}, C2 Φ0 σ0 n0 Φ' σ' → Owned Φ' σ' a.block → So0.sn a = some v ∨ So0.wr a.block ∨ n0 ≤ a.block ∨ Φ0.snap a = some v ∨ Owned Φ0 σ0 a.block := fun c q => by
          rcases c.ownd _ q with q | q
          · exact .inr (.inr (.inr (.inr q)))
          · exact .inr (.inr (.inl q))
        have c2 : C2 Φ0 σ0 n0 Φ2 σ2 := c1.step (by omega) st2
        rcases st3.sn a v q with q | q | q | q | q
        · rcases st2.sn a v q with q | q | q | q | q
          · exact h.osn a v q
          · rcases h.owr _ q with q | q
            · exact .inr (.inl q)
            · exact .inr (.inr (.inl q))
          · exact .inr (.inr (.inl (by omega)))
          · exact fromΦ c1 q
          · exact fromO c1 q
        · rcases st2.wr _ q with q | q
          · rcases h.owr _ q with q | q
            · exact .inr (.inl q)
            · exact .inr (.inr (.inl q))
          · exact .inr (.inr (.inl (by omega)))
        · have := st2.size; exact .inr (.inr (.inl (by omega)))
        · exact fromΦ c2 q
        · exact fromO c2 q
      have hcst : CStY C Φ0 σ0 n0 So0 tmps fc l st σ4 ⟨w₄, fun k => Owned Φ4 σ4 k ∨ k = l ∨ So3.wr k, fun a => match Φ4.snap a with | some v => some v | none => So3.sn a⟩ Φ4 So3 t3 :=
        ⟨i4', fr1.mono ((st2.le.trans st3.le).trans st4.le), cs, fun _ => Iff.rfl, fun _ => rfl, by simp only; rw [← hw4]; exact World.putObj_heap_same (Array.getElem?_eq_some_iff.1 hl3).1, by simp only; omega, by
          simp only
          rw [st4.le.base, st3.le.base, st2.le.base]; omega, fun k hk => (sw0 k hk).imp id (fun q => by omega), zz⟩
      refine ⟨⟨w₄, fun k => Owned Φ4 σ4 k ∨ k = l ∨ So3.wr k, fun a => match Φ4.snap a with | some v => some v | none => So3.sn a⟩, rfl, hcst.agree, ?_, ?_, ?_, ?_, by omega, fun k hk hw => ?_, fun k hk => ?_, fun a v hv => ?_, hcst, sw0⟩
      · have e1 : w₄.os = w₃.os := by rw [← hw4]; rfl
        have e2 : w₂.os = w₁.os := by rw [← hw2]; rfl
        rw [e1, st3.os, e2, st2.os]
      · have e1 : w₄.tape = w₃.tape := by rw [← hw4]; rfl
        have e2 : w₂.tape = w₁.tape := by rw [← hw2]; rfl
        rw [e1, st3.tape, e2, st2.tape]
      · have e1 : w₄.output = w₃.output := by rw [← hw4]; rfl
        have e2 : w₂.output = w₁.output := by rw [← hw2]; rfl
        rw [e1, st3.output, e2, st2.output]
      · have e1 : w₄.drawn = w₃.drawn := by rw [← hw4]; rfl
        have e2 : w₂.drawn = w₁.drawn := by rw [← hw2]; rfl
        have := st2.drawn
        have := st3.drawn
        omega
      · have hkl : k ≠ l := fun e => hw (e ▸ hwl)
        have hno : ¬ Owned Φc σ k := fun q => hw ((h.wr k).2 (.inl ((o1 k).1 q)))
        have hno2 : ¬ Owned Φ2 σ2 k := fun q => (st2.ownd k q).elim hno (fun q => by omega)
        have hs1 : ¬ So.wr k := fun q => hw ((h.wr k).2 (.inr (.inr q)))
        have hs2 : ¬ So2.wr k := fun q => (st2.wr k q).elim hs1 (fun q => by omega)
        rw [oth k hkl, st3.block k (by have := st2.size; omega) hno2 hs2, oth2 k hkl, st2.block k hk hno hs1]
      · rcases hk with q | rfl | q
        · exact ow k q
        · exact .inl hwl
        · exact sw3 k q
      · have hv := hcst.sn_cases hv
        rcases hv with q | q
        · rcases st4.snapn a v q with q | q | q
          · exact s3 a v q
          · exact tw (.inr (by omega))
          · exact tw (ow3 _ q)
        · exact z3 a v q
    cases e with
    | normal =>
      obtain ⟨σ4, f4, Φ4, k4, hend, S', hS1, hS2, hS3, hS4, hS5, hS6, hS7, hS8, hS9, hS10, hS11, hS12⟩ := fin none (rec .ready none) _ rfl q3
      exact ⟨_, _, hend, true, S', rfl, hS1, hS2, hS3, hS4, hS5, hS6, hS7, hS8, hS9, hS10, σ4, Φ4, So3, t3, k4, hS11, hS12⟩
    | ret =>
      obtain ⟨σ4, f4, Φ4, k4, hend, S', hS1, hS2, hS3, hS4, hS5, hS6, hS7, hS8, hS9, hS10, hS11, hS12⟩ := fin (some .ret) (rec .done (some .ret)) _ rfl q3
      exact ⟨_, _, hend, false, S', rfl, hS1, hS2, hS3, hS4, hS5, hS6, hS7, hS8, hS9, hS10, .ret, σ4, Φ4, So3, t3, .inl ⟨rfl, k4⟩, hS11, hS12⟩
    | exit id =>
      obtain ⟨σ4, f4, Φ4, k4, hend, S', hS1, hS2, hS3, hS4, hS5, hS6, hS7, hS8, hS9, hS10, hS11, hS12⟩ := fin (some (.exit id)) (rec .done (some (.exit id))) _ rfl q3
      exact ⟨_, _, hend, false, S', rfl, hS1, hS2, hS3, hS4, hS5, hS6, hS7, hS8, hS9, hS10, .exit id, σ4, Φ4, So3, t3, .inr ⟨id, rfl, k4⟩, hS11, hS12⟩
    | goto l => exact q3.elim
    | panic c => exact q3.elim
    | outgrown => exact q3.elim
  | exit id => exact q.elim
  | goto l => exact q.elim
  | ret => exact q.elim
  | panic c => exact q.elim
  | outgrown => exact q.elim
end Go.Proofs.Ytielcgplbnlgbaa
end

section
/- Loops over functions in functions that hand on elements themselves: the statement's rule, whole. -/
set_option linter.unusedVariables false
set_option linter.unusedSimpArgs false
namespace Go.Proofs.Ytielcgplbnlgbaa

theorem ywp_rangeFunc {P : Program} {C : YC} {g : Operand} {ps : Array Tmp} {assign body : Code} {f : FR} {σ : St} {t0 : Option Nat} {Q : YQ} {gf : FuncId} {ns : List MV} (hg : mval f g = .fn (.func gf) [] ns) {σi : St} (hle : σi.le σ) {xs : List (List MV)}
    (hseq : MSeq P gf ns σi xs) (hx : ∀ x, x ∈ xs → x.length = ps.size) (nda : noDefer assign = true) (ndb : noDefer body = true) {α : Type} (fc : FR) (hd0 : fc.d = f.d) (S : Nat → α → St) (p : Nat → α → Option Nat → Prop)
    (h0 : Gh f (σ.minus σi) fun f1 σ1 => f1 = fc ∧ ∃ a, σ1 = S 0 a ∧ p 0 a t0)
    (round : ∀ i x a t, xs[i]? = some x → p i a t → ywp P C assign (mputs ⟨fc.n, fc.l, []⟩ ps.toList x) (S i a) t (onlyNY fun f1 σ1 t1 => ywp P C body f1 σ1 t1 (roundY Q fc fun σ2 t2 => ∃ b, σ2 = S (i + 1) b ∧ p (i + 1) b t2)))
    (done : ∀ a t, p xs.length a t → Q .normal fc (S xs.length a) t) : ywp P C (.rangeFunc g ps assign body) f σ t0 Q := by
  intro F hF Φ w a So0 hi0 hr hd
  have hi := hi0.inv
  have hF' : F = Fence.wide := by
    rcases hF with h | ⟨l, _, h⟩
    · exact h
    · cases h
  subst hF'
  obtain ⟨f1, σ1, Φ1, -, ⟨rfl, a0, rfl, p0⟩, i1, r1, st1⟩ := h0 Φ w a.tmps (hi.less (St.minus_le σ σi)) hr
  have hv := rel_mval hr g
  rw [hg] at hv
  obtain ⟨first, cap, he, hfirst, hcap⟩ := hv.inv_fn
  have hfe : first = #[] := by
    have := hfirst.1
    exact Array.eq_empty_of_size_eq_zero (by simpa using this)
  subst hfe
  obtain ⟨fnn, hfn, hbody, hname⟩ := hseq.1
  have eg : ∀ (args : Array Value) (w : World), (callFunc gf args).run P w = .ok (.enter gf args) w := fun args w => by
    simp only [callFunc, Sem.run_bind, run_program, hfn, hname, hbody, Result.andThen_ok, Bool.false_eq_true, if_false, Sem.run_pure]
  refine wpIn_rangeFunc fun fn _ => ?_
  obtain ⟨rec, hrec⟩ : ∃ rec : LoopState → Option Code → Loop, rec = fun st pe => { state := st, pending := pe, fn, tmps := a.tmps, params := ps, assign, body, defers := w.heap.size } := ⟨_, rfl⟩
  obtain ⟨W1, hW1⟩ : ∃ W1, (w.alloc (.deferred (some []))).alloc (.loop (rec .ready none)) = W1 := ⟨_, rfl⟩
  have sz1 : W1.heap.size = w.heap.size + 2 := by rw [← hW1, World.size_alloc, World.size_alloc]
  have old : ∀ k, k < w.heap.size → W1.heap[k]? = w.heap[k]? := fun k hk => by
    rw [← hW1]
    show ((w.heap.push _).push _)[k]? = _
    rw [Array.getElem?_push, if_neg (by simp; omega), Array.getElem?_push, if_neg (by omega)]
  have hL : W1.heap[w.heap.size + 1]? = some (.loop (rec .ready none)) := by
    rw [← hW1]; have := World.alloc_heap_new (w.alloc (.deferred (some []))) (.loop (rec .ready none)); rwa [World.size_alloc] at this
  have hD : W1.heap[w.heap.size]? = some (Obj.deferred (some [])) := by
    rw [← hW1]
    show ((w.heap.push _).push _)[w.heap.size]? = _
    rw [Array.getElem?_push, if_neg (by simp), Array.getElem?_push, if_pos rfl]
  have eos : W1.os = w.os := by rw [← hW1]; rfl
  have eta : W1.tape = w.tape := by rw [← hW1]; rfl
  have eou : W1.output = w.output := by rw [← hW1]; rfl
  have edr : W1.drawn = w.drawn := by rw [← hW1]; rfl
  have gr : ∀ {Φ : Phi} {σ : St}, Inv Φ w σ → Inv Φ W1 σ ∧ Step Φ σ w Φ σ W1 := fun h => h.grow eos eta eou (by omega) (by omega) old
  have own1 : ∀ k, Owned Φ1 (S 0 a0) k → Owned Φ (σ.minus σi) k := fun k hk => by
    rcases st1.ownd k hk with q | q
    · exact q
    · exfalso
      obtain ⟨l, o, p, h1, h2, h3⟩ := hk
      obtain ⟨p', e, hlt⟩ := (i1.own l o h1).place
      rw [h2] at e; cases e
      have := hlt k h3
      omega
  have ownσ : ∀ {τ : St}, τ.le σ → ∀ k, Owned Φ τ k → Owned Φ σ k := fun hτ k hk => hk.less hτ
  have apart2 : ∀ k, Owned Φ (σ.minus σi) k → ¬ Owned Φ σi k := fun k ⟨l, o, p, h1, h2, h3⟩ ⟨l', o', p', h4, h5, h6⟩ => by
    have e := hi.inj l l' o o' p p' k (minus_some h1).2 (hle l' o' h4) h2 h5 h3 h6
    subst e
    have := (minus_some h1).1
    rw [h4] at this; cases this
  have hb := hd.base
  have so0lt : ∀ k, So0.wr k → k < w.heap.size := fun k hk => Nat.lt_of_lt_of_le (hi0.apt.agree.lt k hk) hi0.apt.agree.size
  obtain ⟨S0, hS0⟩ : ∃ S0 : YS, S0 = ⟨W1, fun k => Owned Φ1 (S 0 a0) k ∨ k = w.heap.size + 1 ∨ So0.wr k, fun a => match Φ1.snap a with | some v => some v | none => So0.sn a⟩ := ⟨_, rfl⟩
  have c0 : C2 Φ σ w.heap.size Φ1 (S 0 a0) := ⟨st1.le, fun b v q => (st1.snapn b v q).imp_right (fun q => q.imp_right (ownσ (St.minus_le _ _) _)), fun R hR => .inl (ownσ (St.minus_le _ _) _ (own1 R hR))⟩
  have y1 : YInv C Φ1 (S 0 a0) w So0 t0 := by
    have hm : YInv C Φ (σ.minus σi) w So0 t0 :=
      ⟨hi.less (St.minus_le σ σi), ⟨hi0.apt.agree, fun k hk q => hi0.apt.own k hk (ownσ (St.minus_le _ _) k q), fun b v q ho => hi0.apt.snown b v q (ownσ (St.minus_le _ _) _ ho), hi0.apt.snap⟩, hi0.snapn, fun R hR => hi0.ownd R (ownσ (St.minus_le _ _) R hR), hi0.size, hi0.st⟩
    exact hm.go i1 st1
  have cst0 : CStY C Φ σ w.heap.size So0 a.tmps f1 (w.heap.size + 1) (rec .ready none) (S 0 a0) S0 Φ1 So0 t0 := by
    subst hS0
    exact ⟨y1.go (gr i1).1 (gr i1).2, r1, c0, fun _ => Iff.rfl, fun _ => rfl, hL, by simp only; omega, by simp only; rw [st1.le.base]; omega, fun k hk => .inl hk, fun b v q => .inl q⟩
  have apt0 : Apt Φ σi S0 W1 := by
    have hag := cst0.agree
    have hsc := fun {b : Addr} {v : Value} (q : S0.sn b = some v) => cst0.sn_cases q
    subst hS0
    refine ⟨hag, fun k hk => ?_, fun b v q' => ?_, fun b v q hk => ?_⟩
    · rcases hk with hk | rfl | hk
      · exact apart2 k (own1 k hk)
      · exact (gr (hi.less hle)).1.loopNot hL
      · exact fun q => hi0.apt.own k hk (ownσ hle k q)
    · intro ho
      have ho' := ho
      obtain ⟨l, o, p, h1, h2, h3⟩ := ho
      rcases hsc q' with q' | q'
      · rcases st1.snapn b v q' with q | q | q
        · exact hi.apart l o p b.block b v (hle l o h1) h2 h3 q rfl
        · have hlt := World.block_lt_of_cell? w b (i1.snap b v q')
          omega
        · exact apart2 _ q ho'
      · exact hi0.apt.snown b v q' (ownσ hle _ ho')
    · have hbl := World.block_lt_of_cell? w b (hi.snap b v q)
      rcases hk with hk | hk | hk
      · obtain ⟨l, o, p, h1, h2, h3⟩ := own1 _ hk
        exact hi.apart l o p b.block b v (minus_some h1).2 h2 h3 q rfl
      · omega
      · exact hi0.apt.snap b v q hk
  refine ⟨w.heap.size + 1, [{ target := .collected w.heap.size, args := #[] }], W1, { target := .fn (.func gf) cap, args := #[.func (.yield (w.heap.size + 1)) #[] #[]] }, W1, gf,
    #[.func (.yield (w.heap.size + 1)) #[] #[]] ++ cap, W1, ?_, ?_, fun _ _ => trivial, ?_, (fun q => by cases q), ?_⟩
  · rw [← hW1, hrec]; exact run_enterLoop_outer _ _ _ _ _
  · simp only [resolve, he]
    simp [go_sem]
  · simp [invoke, go_sem, eg]
  · refine callsIn_wide.2 ((hseq.2 (w.heap.size + 1)
      (fun i Sx => ∃ b Φc So t, p i b t ∧ CStY C Φ σ w.heap.size So0 a.tmps f1 (w.heap.size + 1) (rec .ready none) (S i b) Sx Φc So t ∧ ∀ k, So.wr k → So0.wr k ∨ w.heap.size + 2 ≤ k)
      (fun Sx => ∃ c σc Φc So t, ((c = .ret ∧ Q .ret f1 σc t) ∨ ∃ id, c = .exit id ∧ Q (.exit id) f1 σc t) ∧ CStY C Φ σ w.heap.size So0 a.tmps f1 (w.heap.size + 1) (rec .done (some c)) σc Sx Φc So t ∧ ∀ k, So.wr k → So0.wr k ∨ w.heap.size + 2 ≤ k)
      Φ W1 S0 cap ?_ (gr (hi.less hle)).1 apt0 ⟨a0, Φ1, So0, t0, p0, cst0, fun k hk => .inl hk⟩ hcap).mono ?_)
    · rintro i x Sx W Ψ vs hix ⟨b, Φc, So, t, pb, cs, hsw⟩ hag hsz ho hs hvs
      have hx' := hx x (List.mem_of_getElem? hix)
      have := round_atY (P := P) hi0.snapn hi0.ownd hi0.size (fun q => by have := so0lt _ q; omega) (by omega) (by omega) rec hrec nda ndb hx' (round i x b t hix pb) cs hag (by omega) hsw ho (fun u v q => ⟨(hs u v q).1, (hs u v q).2.1, (hs u v q).2.2.imp_right fun q => q.imp (fun q => by omega) (ownσ hle _)⟩) hvs
      obtain ⟨fn', t', as', bd', e1, e2⟩ := this
      refine ⟨fn', t', as', bd', e1, e2.mono ?_⟩
      rintro e w' ⟨bb, S', q1, q2, q3, q4, q5, q6, q7, q8, q9, q10, q11, q12⟩
      refine ⟨bb, S', q1, q2, q3, q4, q5, q6, q7, q8, q9, q10, q11, ?_⟩
      cases bb with
      | true =>
        obtain ⟨σ2, Φ2, So2, t2, ⟨b', rfl, pb'⟩, cs', hs'⟩ := q12
        exact ⟨b', Φ2, So2, t2, pb', cs', hs'⟩
      | false => exact q12
    · rintro e w3 ⟨v, Φe, σe, S', rfl, ie, apt, stS, hy⟩
      have fin : ∀ (st : Loop) (σc : St) (Φc : Phi) (So : YS) (t : Option Nat), CStY C Φ σ w.heap.size So0 a.tmps f1 (w.heap.size + 1) st σc S' Φc So t → (∀ k, So.wr k → So0.wr k ∨ w.heap.size + 2 ≤ k) → st.state ≠ .busy → ∃ w4, (Instr.endLoop (w.heap.size + 1)).run P w3 = .ok st.pending w4 ∧
          YInv C Φc σc w4 So t ∧ StepS Φ σ w So0 Φc σc w4 So ∧ DRel Φc w4 ({ target := .collected w.heap.size, args := #[] } :: a.defers) f1.d := by
        intro st σc Φc So t cs hsw hbusy
        have hlr : w3.heap[w.heap.size + 1]? = some (.loop st) := (apt.agree.same _ ((cs.wr _).2 (.inr (.inl rfl)))).trans cs.lrec
        have hSol : ¬ So.wr (w.heap.size + 1) := fun q => (hsw _ q).elim (fun q => by have := so0lt _ q; omega) (fun q => by omega)
        obtain ⟨w4, hw4⟩ : ∃ w4, w3.putObj (w.heap.size + 1) (.loop { st with state := .exhausted }) = w4 := ⟨_, rfl⟩
        have hend := run_endLoop (P := P) hlr hbusy
        rw [hw4] at hend
        have sz4 : w4.heap.size = w3.heap.size := by rw [← hw4, World.putObj_size]
        have szz : w.heap.size + 2 ≤ w3.heap.size := by have := stS.size; omega
        obtain ⟨Φ', j1, j2, j3, j4, j5, j6, j7, j8⟩ := cs.at (w := w3) hi0.snapn hi0.ownd hi0.size apt.agree (Ψ := ⟨fun _ => none, fun _ => none, 0⟩) (fun _ => rfl) (fun b u q => by cases q)
        have i3 : YInv C Φc σc w3 So t := by
          have hwr : ∀ k, Owned Φc σc k → w3.heap[k]? = S'.w.heap[k]? := fun k hk => apt.agree.same k ((cs.wr k).2 (.inl hk))
          exact ⟨⟨fun l' o hl => (cs.inv.inv.own l' o hl).mono (.refl _) fun p R h1 h2 => hwr R ⟨l', o, p, hl, h1, h2⟩, cs.inv.inv.inj, fun b u q => apt.agree.sn b u (cs.snap_sn q), cs.inv.inv.apart, cs.inv.inv.fresh⟩,
            ⟨j1.apt.agree, cs.inv.apt.own, cs.inv.apt.snown, cs.inv.apt.snap⟩, cs.inv.snapn, cs.inv.ownd, j1.size, cs.inv.st⟩
        have i4 : YInv C Φc σc w4 So t := by rw [← hw4]; exact i3.putObj _ hlr hSol
        have blk : ∀ k, k < w.heap.size → ¬ Owned Φ σ k → ¬ So0.wr k → w4.heap[k]? = w.heap[k]? := fun k hk hn hw => by
          rw [← hw4, World.putObj_heap_other (by omega), stS.block k (by omega) (fun q => hn (ownσ hle k q)) (fun q => ?_), old k hk]
          subst hS0
          rcases q with q | q | q
          · exact hn (ownσ (St.minus_le _ _) k (own1 k q))
          · omega
          · exact hw q
        have hmark : w4.heap[w.heap.size]? = some (Obj.deferred (some [])) := by
          rw [← hw4, World.putObj_heap_other (by omega), stS.block _ (by omega) ((gr (hi.less hle)).1.mark hD) (fun q => ?_), hD]
          subst hS0
          rcases q with q | q | q
          · exact (gr i1).1.mark hD q
          · omega
          · have := so0lt _ q; omega
        have step4 : StepS Φ σ w So0 Φc σc w4 So :=
          ⟨cs.step.le, by rw [← hw4]; exact stS.os.trans eos, by rw [← hw4]; exact stS.tape.trans eta, by rw [← hw4]; exact stS.output.trans eou, by
            have e : w4.drawn = w3.drawn := by rw [← hw4]; rfl
            have := stS.drawn; omega, by omega, blk, cs.step.snapn, cs.step.ownd, cs.owr, cs.osn⟩
        have dd : DRel Φc w4 a.defers f1.d := hd0 ▸ hd.mono cs.step.le (by omega) fun D hDD => by
          have hlt := (Array.getElem?_eq_some_iff.1 hDD).1
          rw [blk D hlt (hi.mark hDD) (fun q => hi0.apt.agree.nomark D q _ ((hi0.apt.agree.same D q).symm.trans hDD))]
          exact hDD
        refine ⟨w4, hend, i4, step4, .inl ⟨w.heap.size, rfl, by rw [cs.step.le.base]; exact hb, hmark, fun y hy e => ?_, dd⟩⟩
        have : ∀ (ds : List Deferred) (d : List (FuncId × List MV)), DRel Φ w ds d → ∀ y, y ∈ ds → y.target ≠ .collected w.heap.size := by
          intro ds
          induction ds with
          | nil => intro d _ y hy; cases hy
          | cons z ds ih =>
            intro d h y hy
            rcases h with ⟨D, k1, k2, k3, k4, k5⟩ | ⟨g, ms, r, cp, k1, k2, k3, k4⟩
            · rcases List.mem_cons.1 hy with rfl | hy
              · rw [k1]; intro e; cases e
                have := (Array.getElem?_eq_some_iff.1 k3).1
                omega
              · exact ih d k5 y hy
            · rcases List.mem_cons.1 hy with rfl | hy
              · rw [k2]; intro e; cases e
              · exact ih r k4 y hy
        exact this a.defers f.d hd y hy e
      rcases hy with ⟨b, Φc, So, t, pb, cs, hsw⟩ | ⟨c, σc, Φc, So, t, hc, cs, hsw⟩
      · obtain ⟨w4, hend, i4, s4, d4⟩ := fin _ _ _ _ _ cs hsw (by rw [hrec]; simp)
        exact ⟨none, w4, by rw [hend, hrec], f1, _, t, Φc, So, i4, cs.frame, d4, s4, done b t pb⟩
      · obtain ⟨w4, hend, i4, s4, d4⟩ := fin _ _ _ _ _ cs hsw (by rw [hrec]; simp)
        refine ⟨some c, w4, by rw [hend, hrec], ?_⟩
        rcases hc with ⟨rfl, q⟩ | ⟨id, rfl, q⟩
        · exact wpIn_ret ⟨f1, _, t, Φc, So, i4, cs.frame, d4, s4, q⟩
        · exact wpIn_exit ⟨f1, _, t, Φc, So, i4, cs.frame, d4, s4, q⟩
end Go.Proofs.Ytielcgplbnlgbaa
end

section
/- Loops over functions, for simp. -/
set_option linter.unusedVariables false
set_option linter.unusedSimpArgs false
namespace Go.Proofs.Ytielcgplbnlgbaa

section
variable {P : Program} {C : YC} {f : FR} {σ : St} {t : Option Nat} {Q : YQ} {q : MQ} {c : Code}

/-- A part of code is walked. -/
theorem mwalk (h : R (mcode P (@OfNat.ofNat Code (nat_lit 0) (@_root_.id (OfNat Code (nat_lit 0)) (OfNat.mk c))) f σ q)) : mwp P c f σ q := mcode_sound c f σ q h
theorem ywalk (h : R (mcode P (@OfNat.ofNat Code (nat_lit 0) (@_root_.id (OfNat Code (nat_lit 0)) (OfNat.mk c))) f σ (fun e f' σ' => Q e f' σ' t))) : ywp P C c f σ t Q := ywp_of (mcode_sound c f σ _ h)
theorem thenY_normal {k : FR → St → Option Nat → Prop} : R (thenY k Q .normal f σ t) = R (k f σ t) := congrArg R rfl
theorem thenY_ret {k : FR → St → Option Nat → Prop} : R (thenY k Q .ret f σ t) = R (Q .ret f σ t) := congrArg R rfl
theorem thenY_exit {k : FR → St → Option Nat → Prop} {id : Nat} : R (thenY k Q (.exit id) f σ t) = R (Q (.exit id) f σ t) := congrArg R rfl
theorem blockY_normal {id : Nat} : R (blockY id Q .normal f σ t) = R (Q .normal f σ t) := congrArg R rfl
theorem blockY_ret {id : Nat} : R (blockY id Q .ret f σ t) = R (Q .ret f σ t) := congrArg R rfl
theorem blockY_exit {id : Nat} : R (blockY id Q (.exit id) f σ t) = R (Q .normal f σ t) := congrArg R (by simp [blockY])
theorem blockY_other {id id' : Nat} (h : id' ≠ id) : R (blockY id Q (.exit id') f σ t) = R (Q (.exit id') f σ t) := congrArg R (by simp [blockY, h])
theorem onlyN_normal {k : FR → St → Prop} : R (onlyN k .normal f σ) = R (k f σ) := congrArg R rfl
theorem onlyNY_normal {k : FR → St → Option Nat → Prop} : R (onlyNY k .normal f σ t) = R (k f σ t) := congrArg R rfl
theorem roundQ_normal {fc : FR} {n : St → Prop} : R (roundQ q fc n .normal f σ) = R (Gh f σ fun _ σ1 => n σ1) := congrArg R rfl
theorem roundQ_ret {fc : FR} {n : St → Prop} : R (roundQ q fc n .ret f σ) = R (Gh f σ fun _ σ1 => q .ret fc σ1) := congrArg R rfl
theorem roundQ_exit {fc : FR} {n : St → Prop} {id : Nat} : R (roundQ q fc n (.exit id) f σ) = R (Gh f σ fun _ σ1 => q (.exit id) fc σ1) := congrArg R rfl
theorem roundY_normal {fc : FR} {n : St → Option Nat → Prop} : R (roundY Q fc n .normal f σ t) = R (Gh f σ fun _ σ1 => n σ1 t) := congrArg R rfl
theorem roundY_ret {fc : FR} {n : St → Option Nat → Prop} : R (roundY Q fc n .ret f σ t) = R (Gh f σ fun _ σ1 => Q .ret fc σ1 t) := congrArg R rfl
theorem roundY_exit {fc : FR} {n : St → Option Nat → Prop} {id : Nat} : R (roundY Q fc n (.exit id) f σ t) = R (Gh f σ fun _ σ1 => Q (.exit id) fc σ1 t) := congrArg R rfl
theorem retY_normal {n : Nat} : R (retY n .normal f σ t) = R (f.d = [] ∧ (t = some n ∨ t = none)) := congrArg R rfl
theorem retY_ret {n : Nat} : R (retY n .ret f σ t) = R (f.d = [] ∧ (t = some n ∨ t = none)) := congrArg R rfl

def noDef (l : List Oper) : Bool := l.all fun o => match o.op with | .defer _ => false | _ => true
theorem noDef_spec {l : List Oper} (h : noDef l = true) : ∀ o, o ∈ l → ∀ c, o.op ≠ .defer c := fun o ho c e => by
  have := List.all_eq_true.1 h o ho
  rw [e] at this
  cases this

/-- A call of yield among operations, for simp. -/
theorem ywp_yield {id : Nat} {ops : Array Oper} (pre : List Oper) (y : Oper) (post : List Oper) {o : Operand} {args : Array Operand} {ts : Array TypeId} {i : Nat} {x : List MV} (ho : ops.toList = pre ++ y :: post) (hd : (noDef pre && noDef post) = true)
    (hy : y.op = .call ⟨.value o, args, ts⟩) (hg : y.guard = none) (ht : t = some i) (hx : C.xs[i]? = some x) (hno : ∀ m, m ∈ x → NoObj m) (hspec : YSpec P C.l C.xs C.Y C.Yx C.Φ0 C.σ0 C.n0)
    (h : R (mops P (@OfNat.ofNat (Array Oper) (nat_lit 0) (@_root_.id (OfNat (Array Oper) (nat_lit 0)) (OfNat.mk ops))) (fun f1 σ1 => mval f1 o = .fn (.yield C.l) [] [] ∧ args.toList.map (mval f1) = x ∧
      mops P (@OfNat.ofNat (Array Oper) (nat_lit 0) (@_root_.id (OfNat (Array Oper) (nat_lit 0)) (OfNat.mk ops))) (fun f2 σ2 => Q .normal f2 σ2 (some (i + 1))) (@OfNat.ofNat (List Oper) (nat_lit 0) (@_root_.id (OfNat (List Oper) (nat_lit 0)) (OfNat.mk post))) (mput f1 y.dst (.bool true)) σ1 ∧
      mops P (@OfNat.ofNat (Array Oper) (nat_lit 0) (@_root_.id (OfNat (Array Oper) (nat_lit 0)) (OfNat.mk ops))) (fun f2 σ2 => Q .normal f2 σ2 none) (@OfNat.ofNat (List Oper) (nat_lit 0) (@_root_.id (OfNat (List Oper) (nat_lit 0)) (OfNat.mk post))) (mput f1 y.dst (.bool false)) σ1)
      (@OfNat.ofNat (List Oper) (nat_lit 0) (@_root_.id (OfNat (List Oper) (nat_lit 0)) (OfNat.mk pre))) f σ)) : ywp P C (.region id ops false) f σ t Q := by
  have hd := Bool.and_eq_true_iff.1 hd
  exact ywp_region pre y post ho (noDef_spec hd.1) (noDef_spec hd.2) hy hg ht hx hno hspec h
end
attribute [go_sem ↓] thenY_normal thenY_ret thenY_exit blockY_normal blockY_ret blockY_exit onlyN_normal onlyNY_normal roundQ_normal roundQ_ret roundQ_exit roundY_normal roundY_ret roundY_exit retY_normal retY_ret
end Go.Proofs.Ytielcgplbnlgbaa
end

section
/- Contracts of the program's pieces, and of what they hand on: the conditions that the theorems name. -/
set_option linter.unusedVariables false
set_option linter.unusedSimpArgs false
namespace Go.Proofs.Ytielcgplbnlgbaa

/-- What pieces answers, and what it holds. -/
abbrev pnU (op : Int) (l : Nat) : MV := .fn (.func 108) [] [.ptr l 0 0, .cptr [.int .i64 op]]
abbrev pnO (t : T) (tt : Bool) : MObj := .row 22 1 [[.lst 5 (t.fl.map ND.c) tt]]
abbrev pnX (op : Int) (t : T) : List (List MV) := (pcs op t).map tcell

theorem npieces_call (op : Int) (t : T) (tt : Bool) : MCalls Try.prog 93 [.lst 5 (t.fl.map ND.c) tt, .int .i64 op] St.none (fun v σ' => ∃ l, v = pnU op l ∧ σ' = St.none.set l (pnO t tt)) := by
  refine MCalls.drops (MCalls.of_body 6 [.tmp 4] Try.func93 rfl rfl rfl rfl (mwp_seq (mwalk ?_)))
  repeat' (first | (with_reducible first | (refine wT ?_; (first | ((fail_if_success (have := nl1)); refine wN fun nl1 hnl => ?_) | ((fail_if_success (have := nl2)); refine wN fun nl2 hnl => ?_) | refine wN fun _ hnl => ?_); revert hnl; (repeat refine wS fun _ _ => ?_); intro hnl) | refine wD (by decide +kernel) ?_ | refine wI (fun h => ?_) fun h => ?_ | refine wF (fun h => ?_) fun h => ?_ | refine wG (fun h => ?_) fun h => ?_ | refine wH (fun h => ?_) fun h => ?_ | ((first | refine mfork_bool (fun h => ?_) fun h => ?_ | refine mgfork_bool (fun h => ?_) fun h => ?_) <;> simp only [h])) | simp (maxSteps := 4000000) (disch := first | decide | assumption | omega | (simp only [wL]; omega)) only [go_sem, simprocAttr, Try.f93])
  refine R_of (mwp_gh (.of (Ghost.freeze (l1 := [(2, .ptr nl1 0 0), (3, .cptr [.int .i64 op]), (4, .nilfn)]) (St.none.set nl2 (.row 3 1 [[.int .i64 op]])) (σ1 := St.none.set nl1 (pnO t tt)) (St.set_le_set (St.none_le _)) (St.le_set (St.le_refl _) (set_miss _ _ _ _ (by assumption))) ?_ ?_) (mwalk ?_)))
  · intro k o hk
    by_cases e : k = nl2
    · subst e
      rw [set_miss _ _ _ _ (by assumption)] at hk; cases hk
    · exact set_miss _ _ _ _ e
  · intro p hp
    simp only [List.mem_cons, List.not_mem_nil, or_false] at hp
    rcases hp with rfl | rfl | rfl
    · exact .same _
    · exact .ptr (set_hit _ _ _) (Nat.lt_succ_self 0)
    · exact .same _
  · repeat' (first | (with_reducible first | (refine wT ?_; (first | ((fail_if_success (have := nl1)); refine wN fun nl1 hnl => ?_) | ((fail_if_success (have := nl2)); refine wN fun nl2 hnl => ?_) | refine wN fun _ hnl => ?_); revert hnl; (repeat refine wS fun _ _ => ?_); intro hnl) | refine wD (by decide +kernel) ?_ | refine wI (fun h => ?_) fun h => ?_ | refine wF (fun h => ?_) fun h => ?_ | refine wG (fun h => ?_) fun h => ?_ | refine wH (fun h => ?_) fun h => ?_ | ((first | refine mfork_bool (fun h => ?_) fun h => ?_ | refine mgfork_bool (fun h => ?_) fun h => ?_) <;> simp only [h])) | simp (maxSteps := 4000000) (disch := first | decide | assumption | omega | (simp only [wL]; omega)) only [go_sem, simprocAttr])
    exact ⟨_, St.le_refl _, nl1, rfl, rfl⟩

theorem endS_two (x : ND) (a b : T) (ha : a.ok) : endS (x :: (a.fl ++ b.fl)) 1 = ((1 + a.fl.length : Nat) : Int) := by
  have := endS_fl ha [x] b.fl
  simpa [Nat.add_comm] using this

theorem le_minus {σ1 σ σi : St} (h : σ1.le σ) (hd : ∀ k o, σ1 k = some o → σi k = none) : σ1.le (σ.minus σi) := fun k o hk => by
  unfold St.minus
  rw [hd k o hk]
  exact h k o hk
theorem pcs_get {op : Int} {t u : T} {i j : Nat} {y : T} (h : (pcs op t).drop i = pcs op u) (hy : (pcs op u)[j]? = some y) : (pnX op t)[i + j]? = some (tcell y) := by
  have : (pcs op t)[i + j]? = some y := by rw [← List.getElem?_drop, h]; exact hy
  simp [pnX, this]
theorem noObj_cell (l : List ND) : ∀ m, m ∈ [MV.lst 5 (l.map ND.c) false] → NoObj m := fun m hm => by
  rw [List.mem_singleton] at hm
  subst hm
  refine .lst fun x hx m hm => ?_
  obtain ⟨n, _, rfl⟩ := List.mem_map.1 hx
  simp only [ND.c, List.mem_cons, List.not_mem_nil, or_false] at hm
  rcases hm with rfl | rfl | rfl | rfl | rfl
  · exact .flat (.int _ _)
  · exact .flat (.int _ _)
  · exact .flat (.int _ _)
  · exact .flat (.int _ _)
  · exact .flat (.str _)

abbrev yBox (l : Nat) : MObj := .row 23 1 [[.fn (.yield l) [] []]]

set_option maxHeartbeats 4000000 in
/-- What pieces hands on. -/
theorem pieces_seq (op : Int) (hop : op = 11 ∨ op = 12) : ∀ (n : Nat) (t : T), t.ok → t.fl.length ≤ n → n ≤ 1000 → ∀ l : Nat, MSeq Try.prog 108 [.ptr l 0 0, .cptr [.int .i64 op]] (St.none.set l (pnO t false)) (pnX op t) := by
  intro n
  induction n with
  | zero => intro t h hl; have := t.fl_pos; omega
  | succ n ih =>
    intro t h hl hn l
    refine MSeq.of_body 30 Try.func108 rfl rfl rfl rfl fun C hC hspec => ?_
    have hxl : (pnX op t).length = (pcs op t).length := List.length_map _
    rw [hxl]
    refine ywp_seq (ywalk ?_)
    repeat' (first | (with_reducible first | (refine wT ?_; (first | ((fail_if_success (have := nl1)); refine wN fun nl1 hnl => ?_) | refine wN fun _ hnl => ?_); revert hnl; (repeat refine wS fun _ _ => ?_); intro hnl) | refine wD (by decide +kernel) ?_ | refine wI (fun h => ?_) fun h => ?_ | refine wF (fun h => ?_) fun h => ?_ | refine wG (fun h => ?_) fun h => ?_ | refine wH (fun h => ?_) fun h => ?_ | ((first | refine mfork_bool (fun h => ?_) fun h => ?_ | refine mgfork_bool (fun h => ?_) fun h => ?_) <;> simp only [h])) | simp (maxSteps := 4000000) (disch := first | decide | assumption | omega | (simp only [wL]; omega)) only [go_sem, simprocAttr, Try.f108])
    refine R_of (ywp_seq (ywp_block (ywp_loop (α := Nat × T) (fun a => ⟨30, [(3, .ptr nl1 0 0), (1, .ptr l 0 0), (2, .cptr [.int .i64 op])], []⟩) (fun a => (St.none.set l (pnO a.2 false)).set nl1 (yBox C.l)) (fun a => some a.1)
      (fun a => a.2.ok ∧ a.2.fl.length ≤ n + 1 ∧ (pcs op t).drop a.1 = pcs op a.2) (fun a => a.2.fl.length) ?_ ?_)))
    · refine .of (.less ?_ (St.le_refl _)) ⟨(0, t), rfl, rfl, rfl, h, hl, rfl⟩
      simp (maxSteps := 4000000) (disch := first | decide | assumption | omega | (simp only [wL]; omega)) only [go_sem, simprocAttr, weak_int, weak_same]
    · rintro ⟨i, u⟩ ⟨hu, hul, hdr⟩
      simp only at hu hul hdr ⊢
      have hpos := u.fl_pos
      have hroot := root_getD u
      refine ywp_seq (ywalk ?_)
      repeat' (first | (with_reducible first | (refine wT ?_; (first | ((fail_if_success (have := nl1)); refine wN fun nl1 hnl => ?_) | refine wN fun _ hnl => ?_); revert hnl; (repeat refine wS fun _ _ => ?_); intro hnl) | refine wD (by decide +kernel) ?_ | refine wI (fun h => ?_) fun h => ?_ | refine wF (fun h => ?_) fun h => ?_ | refine wG (fun h => ?_) fun h => ?_ | refine wH (fun h => ?_) fun h => ?_ | ((first | refine mfork_bool (fun h => ?_) fun h => ?_ | refine mgfork_bool (fun h => ?_) fun h => ?_) <;> simp only [h])) | simp (maxSteps := 4000000) (disch := first | decide | assumption | omega | (simp only [wL]; omega)) only [go_sem, simprocAttr, hroot])
      · -- a node of the kind: its first part is handed on
        obtain ⟨z, a, b, rfl⟩ : ∃ z a b, u = .two z a b := by
          cases u with
          | leaf z => exact absurd hu (by simp only [T.root] at h; simp only [T.ok, h]; rcases hop with rfl | rfl <;> decide)
          | one z a => exact absurd hu.1 (by simp only [T.root] at h; rw [h]; rcases hop with rfl | rfl <;> decide)
          | two z a b => exact ⟨z, a, b, rfl⟩
        have hz : z.op = op := h
        have hpc : pcs op (.two z a b) = pcs op a ++ pcs op b := by rw [pcs, if_pos hz]
        rw [hpc] at hdr
        have hle : a.fl.length ≤ n ∧ b.fl.length ≤ n ∧ b.fl.length < (T.two z a b).fl.length := by simp only [T.fl, List.length_cons, List.length_append] at hul ⊢; omega
        have hs1 : List.drop 1 (List.take (1 + a.fl.length) (z.c :: List.map ND.c (a.fl ++ b.fl))) = List.map ND.c a.fl := by
          rw [Nat.add_comm, List.take_succ_cons, List.drop_succ_cons, List.drop_zero, List.map_append, List.take_append_of_le_length (by rw [List.length_map]; omega), List.take_of_length_le (by rw [List.length_map]; omega)]
        have hs2 : List.drop (1 + a.fl.length) (z.c :: List.map ND.c (a.fl ++ b.fl)) = List.map ND.c b.fl := by
          rw [Nat.add_comm, List.drop_succ_cons, List.map_append, List.drop_append_of_le_length (by rw [List.length_map]; omega), List.drop_of_length_le (by rw [List.length_map]; omega), List.nil_append]
        have hend := pend_call (z :: (a.fl ++ b.fl)) (by simp only [T.fl] at hul; omega) false 1
        rw [endS_two z a b hu.2.1] at hend
        have hpn := npieces_call op a false
        have hseq := fun q => ih a hu.2.1 hle.1 (by omega) q
        simp only [List.map_cons] at hend
        simp only [pnO, T.fl, List.map_cons] at hul ⊢
        refine R_of (ywp_block (ywp_seq (ywalk ?_)))
        repeat' (first | (with_reducible first | refine up hend ?_) | (with_reducible first | (refine wT ?_; (first | ((fail_if_success (have := nl1)); refine wN fun nl1 hnl => ?_) | refine wN fun _ hnl => ?_); revert hnl; (repeat refine wS fun _ _ => ?_); intro hnl) | refine wD (by decide +kernel) ?_ | refine wI (fun h => ?_) fun h => ?_ | refine wF (fun h => ?_) fun h => ?_ | refine wG (fun h => ?_) fun h => ?_ | refine wH (fun h => ?_) fun h => ?_ | ((first | refine mfork_bool (fun h => ?_) fun h => ?_ | refine mgfork_bool (fun h => ?_) fun h => ?_) <;> simp only [h])) | simp (maxSteps := 4000000) (disch := first | decide | assumption | omega | (simp only [wL]; omega)) only [go_sem, simprocAttr])
        refine R_of (ywp_seq (ywp_seq (ywalk ?_)))
        repeat' (first | (with_reducible first | (refine wT ?_; (first | ((fail_if_success (have := nl1)); refine wN fun nl1 hnl => ?_) | refine wN fun _ hnl => ?_); revert hnl; (repeat refine wS fun _ _ => ?_); intro hnl) | refine wD (by decide +kernel) ?_ | refine wI (fun h => ?_) fun h => ?_ | refine wF (fun h => ?_) fun h => ?_ | refine wG (fun h => ?_) fun h => ?_ | refine wH (fun h => ?_) fun h => ?_ | ((first | refine mfork_bool (fun h => ?_) fun h => ?_ | refine mgfork_bool (fun h => ?_) fun h => ?_) <;> simp only [h])) | simp (maxSteps := 4000000) (disch := first | decide | assumption | omega | (simp only [wL]; omega)) only [go_sem, simprocAttr])
        refine mdraw_know mixed (by decide +kernel) (fun _ _ => some ⟨[], fun _ => True, some (pnO a false, pnU op)⟩) ?_
        repeat' (first | (with_reducible first | (refine wT ?_; (first | ((fail_if_success (have := nl1)); refine wN fun nl1 hnl => ?_) | refine wN fun _ hnl => ?_); revert hnl; (repeat refine wS fun _ _ => ?_); intro hnl) | refine wD (by decide +kernel) ?_ | refine wI (fun h => ?_) fun h => ?_ | refine wF (fun h => ?_) fun h => ?_ | refine wG (fun h => ?_) fun h => ?_ | refine wH (fun h => ?_) fun h => ?_ | ((first | refine mfork_bool (fun h => ?_) fun h => ?_ | refine mgfork_bool (fun h => ?_) fun h => ?_) <;> simp only [h])) | simp (maxSteps := 4000000) (disch := first | decide | assumption | omega | (simp only [wL]; omega)) only [go_sem, simprocAttr, hs1, Bool.false_and])
        refine know_new rfl hpn fun q hq => ?_
        have hqf := hq
        revert hq; (repeat (with_reducible refine set_none_intro fun _ _ => ?_)); intro hq
        repeat' (first | (with_reducible first | (refine wT ?_; (first | ((fail_if_success (have := nl1)); refine wN fun nl1 hnl => ?_) | refine wN fun _ hnl => ?_); revert hnl; (repeat refine wS fun _ _ => ?_); intro hnl) | refine wD (by decide +kernel) ?_ | refine wI (fun h => ?_) fun h => ?_ | refine wF (fun h => ?_) fun h => ?_ | refine wG (fun h => ?_) fun h => ?_ | refine wH (fun h => ?_) fun h => ?_ | ((first | refine mfork_bool (fun h => ?_) fun h => ?_ | refine mgfork_bool (fun h => ?_) fun h => ?_) <;> simp only [h])) | simp (maxSteps := 4000000) (disch := first | decide | assumption | omega | (simp only [wL]; omega)) only [go_sem, simprocAttr])
        refine R_of (ywp_block (ywp_rangeFunc (gf := 108) (xs := pnX op a) rfl (σi := St.none.set q (pnO a false)) (St.set_le (St.none_le _) (set_hit _ _ _)) (hseq q) ?_ rfl rfl
          (fc := ⟨30, [(4, .int .i64 ((1 + a.fl.length : Nat) : Int)), (3, .ptr nl1 0 0), (1, .ptr l 0 0), (2, .cptr [.int .i64 op])], []⟩) rfl (α := Unit)
          (fun _ _ => (St.none.set l (.row 22 1 [[.lst 5 (z.c :: List.map ND.c (a.fl ++ b.fl)) false]])).set nl1 (yBox C.l)) (fun j _ t' => t' = some (i + j)) ?_ ?_ ?_))
        · intro x hx
          obtain ⟨y, _, rfl⟩ := List.mem_map.1 hx
          rfl
        · refine .of (.less ?_ (le_minus (St.le_set (St.le_refl _) hqf) fun k o hk => ?_)) ⟨rfl, (), rfl, rfl⟩
          · simp (maxSteps := 4000000) (disch := first | decide | assumption | omega | (simp only [wL]; omega)) only [go_sem, simprocAttr, weak_int, weak_same]
          · refine set_miss _ _ _ _ fun e => ?_
            subst e
            rw [hqf] at hk; cases hk
        · rintro j x _ _ hx rfl
          obtain ⟨y, hy, rfl⟩ : ∃ y, (pcs op a)[j]? = some y ∧ x = tcell y := by
            rw [pnX, List.getElem?_map, Option.map_eq_some_iff] at hx
            obtain ⟨y, h1, h2⟩ := hx
            exact ⟨y, h1, h2.symm⟩
          change ywp _ _ _ (FR.mk 30 [(19, .lst 5 (y.fl.map ND.c) false), (4, .int .i64 ((1 + a.fl.length : Nat) : Int)), (3, .ptr nl1 0 0), (1, .ptr l 0 0), (2, .cptr [.int .i64 op])] []) _ _ _
          refine ywalk ?_
          repeat' (first | (with_reducible first | (refine wT ?_; (first | ((fail_if_success (have := nl1)); refine wN fun nl1 hnl => ?_) | refine wN fun _ hnl => ?_); revert hnl; (repeat refine wS fun _ _ => ?_); intro hnl) | refine wD (by decide +kernel) ?_ | refine wI (fun h => ?_) fun h => ?_ | refine wF (fun h => ?_) fun h => ?_ | refine wG (fun h => ?_) fun h => ?_ | refine wH (fun h => ?_) fun h => ?_ | ((first | refine mfork_bool (fun h => ?_) fun h => ?_ | refine mgfork_bool (fun h => ?_) fun h => ?_) <;> simp only [h])) | simp (maxSteps := 4000000) (disch := first | decide | assumption | omega | (simp only [wL]; omega)) only [go_sem, simprocAttr])
          refine R_of (ywp_block (ywp_seq (ywp_yield (ops := #[_, _, _, _]) [_, _] _ [_] rfl rfl rfl rfl rfl (x := tcell y) (by
            rw [hC]
            refine pcs_get (u := .two z a b) (by rw [hdr, hpc]) ?_
            rw [hpc, List.getElem?_append_left (List.getElem?_eq_some_iff.1 hy).1, hy]) (noObj_cell _) hspec ?_)))
          repeat' (first | (with_reducible first | (refine wT ?_; (first | ((fail_if_success (have := nl1)); refine wN fun nl1 hnl => ?_) | refine wN fun _ hnl => ?_); revert hnl; (repeat refine wS fun _ _ => ?_); intro hnl) | refine wD (by decide +kernel) ?_ | refine wI (fun h => ?_) fun h => ?_ | refine wF (fun h => ?_) fun h => ?_ | refine wG (fun h => ?_) fun h => ?_ | refine wH (fun h => ?_) fun h => ?_ | ((first | refine mfork_bool (fun h => ?_) fun h => ?_ | refine mgfork_bool (fun h => ?_) fun h => ?_) <;> simp only [h])) | simp (maxSteps := 4000000) (disch := first | decide | assumption | omega | (simp only [wL]; omega)) only [go_sem, simprocAttr])
          refine ⟨R_of (ywalk ?_), R_of (ywalk ?_)⟩
          · repeat' (first | (with_reducible first | (refine wT ?_; (first | ((fail_if_success (have := nl1)); refine wN fun nl1 hnl => ?_) | refine wN fun _ hnl => ?_); revert hnl; (repeat refine wS fun _ _ => ?_); intro hnl) | refine wD (by decide +kernel) ?_ | refine wI (fun h => ?_) fun h => ?_ | refine wF (fun h => ?_) fun h => ?_ | refine wG (fun h => ?_) fun h => ?_ | refine wH (fun h => ?_) fun h => ?_ | ((first | refine mfork_bool (fun h => ?_) fun h => ?_ | refine mgfork_bool (fun h => ?_) fun h => ?_) <;> simp only [h])) | simp (maxSteps := 4000000) (disch := first | decide | assumption | omega | (simp only [wL]; omega)) only [go_sem, simprocAttr])
            refine .of (.less (l1 := []) ?_ (St.le_refl _)) ⟨(), rfl, rfl⟩
            intro p hp; cases hp
          · repeat' (first | (with_reducible first | (refine wT ?_; (first | ((fail_if_success (have := nl1)); refine wN fun nl1 hnl => ?_) | refine wN fun _ hnl => ?_); revert hnl; (repeat refine wS fun _ _ => ?_); intro hnl) | refine wD (by decide +kernel) ?_ | refine wI (fun h => ?_) fun h => ?_ | refine wF (fun h => ?_) fun h => ?_ | refine wG (fun h => ?_) fun h => ?_ | refine wH (fun h => ?_) fun h => ?_ | ((first | refine mfork_bool (fun h => ?_) fun h => ?_ | refine mgfork_bool (fun h => ?_) fun h => ?_) <;> simp only [h])) | simp (maxSteps := 4000000) (disch := first | decide | assumption | omega | (simp only [wL]; omega)) only [go_sem, simprocAttr])
            refine .of (.less (l1 := [(2, .cptr [.int .i64 op])]) ?_ (St.le_refl _)) ⟨rfl, .inr rfl⟩
            simp (maxSteps := 4000000) (disch := first | decide | assumption | omega | (simp only [wL]; omega)) only [go_sem, simprocAttr, weak_same]
        · rintro _ _ rfl
          show ywp _ _ _ _ _ _ _
          refine ywalk ?_
          repeat' (first | (with_reducible first | (refine wT ?_; (first | ((fail_if_success (have := nl1)); refine wN fun nl1 hnl => ?_) | refine wN fun _ hnl => ?_); revert hnl; (repeat refine wS fun _ _ => ?_); intro hnl) | refine wD (by decide +kernel) ?_ | refine wI (fun h => ?_) fun h => ?_ | refine wF (fun h => ?_) fun h => ?_ | refine wG (fun h => ?_) fun h => ?_ | refine wH (fun h => ?_) fun h => ?_ | ((first | refine mfork_bool (fun h => ?_) fun h => ?_ | refine mgfork_bool (fun h => ?_) fun h => ?_) <;> simp only [h])) | simp (maxSteps := 4000000) (disch := first | decide | assumption | omega | (simp only [wL]; omega)) only [go_sem, simprocAttr, hs2, Bool.false_and])
          refine .of (.less ?_ (St.le_refl _)) ⟨(i + (pcs op a).length, b), rfl, rfl, rfl, ⟨hu.2.2, Nat.le_succ_of_le hle.2.1, ?_⟩, Nat.lt_succ_of_le (Nat.le_add_left _ _)⟩
          · simp (maxSteps := 4000000) (disch := first | decide | assumption | omega | (simp only [wL]; omega)) only [go_sem, simprocAttr, weak_int, weak_same]
          · rw [← List.drop_drop, hdr, List.drop_left]
      · -- the last piece
        have hpc : pcs op u = [u] := by
          cases u with
          | leaf z => rw [pcs]
          | one z a => rw [pcs]
          | two z a b => rw [pcs]; exact if_neg h
        rw [hpc] at hdr
        have hlen : (pcs op t).length = i + 1 := by
          have := congrArg List.length hdr
          rw [List.length_drop] at this
          simp only [List.length_cons, List.length_nil] at this
          omega
        refine R_of (ywp_yield (ops := #[_, _, _]) [_, _] _ [] rfl rfl rfl rfl rfl (x := tcell u) (by rw [hC]; exact pcs_get (u := u) (j := 0) (by rw [hdr, hpc]) (by rw [hpc]; rfl)) (noObj_cell _) hspec ?_)
        rw [hlen]
        repeat' (first | (with_reducible first | (refine wT ?_; (first | ((fail_if_success (have := nl1)); refine wN fun nl1 hnl => ?_) | refine wN fun _ hnl => ?_); revert hnl; (repeat refine wS fun _ _ => ?_); intro hnl) | refine wD (by decide +kernel) ?_ | refine wI (fun h => ?_) fun h => ?_ | refine wF (fun h => ?_) fun h => ?_ | refine wG (fun h => ?_) fun h => ?_ | refine wH (fun h => ?_) fun h => ?_ | ((first | refine mfork_bool (fun h => ?_) fun h => ?_ | refine mgfork_bool (fun h => ?_) fun h => ?_) <;> simp only [h])) | simp (maxSteps := 4000000) (disch := first | decide | assumption | omega | (simp only [wL]; omega)) only [go_sem, simprocAttr])
        exact ⟨.inl trivial, .inr trivial⟩
end Go.Proofs.Ytielcgplbnlgbaa
end

section
/- Contracts of the program's Kids, Join and only, and of the library's Clone: the conditions that the theorems name. -/
set_option linter.unusedVariables false
set_option linter.unusedSimpArgs false
namespace Go.Proofs.Ytielcgplbnlgbaa

theorem only_call (op : Int) : MCalls Try.prog 65 [.int .i64 op] St.none (fun r _ => r = .lst 5 ([nd op].map ND.c) false) := by
  refine MCalls.seen (MCalls.body 6 [.tmp 2] Try.func65 rfl rfl rfl rfl ?_)
  repeat' (first | (with_reducible first | (refine wT ?_; refine wN fun _ hnl => ?_; revert hnl; (repeat refine wS fun _ _ => ?_); intro hnl) | refine wD (by decide +kernel) ?_ | refine wI (fun h => ?_) fun h => ?_ | refine wF (fun h => ?_) fun h => ?_ | refine wG (fun h => ?_) fun h => ?_ | refine wH (fun h => ?_) fun h => ?_ | ((first | refine mfork_bool (fun h => ?_) fun h => ?_ | refine mgfork_bool (fun h => ?_) fun h => ?_) <;> simp only [h])) | simp (maxSteps := 4000000) (disch := first | decide | assumption | omega | (simp only [wL]; omega)) only [go_sem, simprocAttr, Try.f65])
  exact .vecAll (set_hit _ _ _) rfl

theorem clone_call (l : List ND) (hl : l.length ≤ 100000) (h0 : 0 < l.length) (t : Bool) : MCalls Try.prog 69 [.lst 5 (l.map ND.c) t] St.none (fun r _ => r = .lst 5 (l.map ND.c) false) := by
  refine MCalls.seen (MCalls.body 8 [.tmp 2] Try.func69 rfl rfl rfl rfl ?_)
  obtain ⟨x, m, rfl⟩ : ∃ x m, l = x :: m := by
    cases l with
    | nil => cases h0
    | cons x m => exact ⟨x, m, rfl⟩
  simp only [List.length_cons] at hl
  repeat' (first | (with_reducible first | (refine wT ?_; refine wN fun _ hnl => ?_; revert hnl; (repeat refine wS fun _ _ => ?_); intro hnl) | refine wD (by decide +kernel) ?_ | refine wI (fun h => ?_) fun h => ?_ | refine wF (fun h => ?_) fun h => ?_ | refine wG (fun h => ?_) fun h => ?_ | refine wH (fun h => ?_) fun h => ?_ | ((first | refine mfork_bool (fun h => ?_) fun h => ?_ | refine mgfork_bool (fun h => ?_) fun h => ?_) <;> simp only [h])) | simp (maxSteps := 4000000) (disch := first | decide | assumption | omega | (simp only [wL]; omega)) only [go_sem, simprocAttr, Try.f69])
  exact .vecAll (set_hit _ _ _) (by simp only [List.length_map, List.length_cons])

theorem pjoin_call (op : Int) (ls : List (List ND)) (tt : Bool) (hl : ls.length ≤ 1000) (hs : ∀ l, l ∈ ls → l.length ≤ 1000) :
    MCalls Try.prog 68 [.int .i64 op, .lst 1 (ls.map lcell) tt] St.none (fun r _ => r = .lst 5 ((nd op :: ls.flatten).map ND.c) false) := by
  refine MCalls.seen (MCalls.body 11 [.tmp 4] Try.func68 rfl rfl rfl rfl ?_)
  have h5 : (ls.take ls.length).flatten.length ≤ 1000 * ls.length := flat_le hs (i := ls.length) (Nat.le_refl _)
  rw [List.take_length] at h5
  have hc := concat_call ls tt hl hs
  repeat' (first | (with_reducible first | refine up hc ?_) | (with_reducible first | (refine wT ?_; refine wN fun _ hnl => ?_; revert hnl; (repeat refine wS fun _ _ => ?_); intro hnl) | refine wD (by decide +kernel) ?_ | refine wI (fun h => ?_) fun h => ?_ | refine wF (fun h => ?_) fun h => ?_ | refine wG (fun h => ?_) fun h => ?_ | refine wH (fun h => ?_) fun h => ?_ | ((first | refine mfork_bool (fun h => ?_) fun h => ?_ | refine mgfork_bool (fun h => ?_) fun h => ?_) <;> simp only [h])) | simp (maxSteps := 4000000) (disch := first | decide | assumption | omega | (simp only [wL]; omega)) only [go_sem, simprocAttr, Try.f68])
  exact .vecAll (set_hit _ _ _) (by simp only [List.length_map, List.length_cons]; omega)
end Go.Proofs.Ytielcgplbnlgbaa
end

section
/- Contract of slices.Compact at nodes: the conditions that the theorem names. -/
set_option linter.unusedVariables false
set_option linter.unusedSimpArgs false
namespace Go.Proofs.Ytielcgplbnlgbaa

theorem comp_step {xs : List ND} {j : Nat} (h0 : 0 < j) (h : j < xs.length) : compS (xs.take (j + 1)) = if xs.getD j nd0 = xs.getD (j - 1) nd0 then compS (xs.take j) else compS (xs.take j) ++ [xs.getD j nd0] := by
  obtain ⟨i, rfl⟩ : ∃ i, j = i + 1 := ⟨j - 1, by omega⟩
  have e1 : xs.take (i + 1) = xs.take i ++ [xs.getD i nd0] := by rw [List.take_succ_eq_append_getElem (by omega), getD_of_lt nd0 (by omega)]
  have e2 : xs.take (i + 1 + 1) = xs.take i ++ [xs.getD i nd0, xs.getD (i + 1) nd0] := by rw [List.take_succ_eq_append_getElem h, e1, getD_of_lt nd0 h]; simp
  rw [e2, e1, compS_snoc _ _ (Nat.le_refl _)]
  rfl

theorem drop_get {A B : List ND} {m j : Nat} (h : A.drop m = B.drop m) (hj : m ≤ j) : A.getD j nd0 = B.getD j nd0 := by
  have e : ∀ l : List ND, l.getD j nd0 = ((l.drop m)[j - m]?).getD nd0 := fun l => by
    rw [List.getElem?_drop, List.getD_eq_getElem?_getD, show m + (j - m) = j by omega]
  rw [e, e, h]

theorem take_set_succ {A : List ND} {q : Nat} (h : q < A.length) (x : ND) : (A.set q x).take (q + 1) = A.take q ++ [x] := by
  rw [List.take_succ_eq_append_getElem (by simpa using h), List.take_set, List.set_eq_of_length_le (by simp; omega)]
  simp

set_option maxHeartbeats 4000000 in
theorem compact_call (l : Nat) (xs : List ND) (hx : xs.length ≤ 1000000) (ex : List (List MV)) : MCalls Try.prog 45 [.vec 5 l 0 xs.length] (St.none.set l (.row 49 5 (xs.map ND.c ++ ex)))
    (fun r σ' => ∃ ex', r = .vec 5 l 0 (compS xs).length ∧ σ' = St.none.set l (.row 49 5 ((compS xs).map ND.c ++ ex'))) := by
  refine (MCalls.body 61 [.tmp 2] Try.func45 rfl rfl rfl rfl ?_)
  by_cases h2 : xs.length < 2
  · have hc : compS xs = xs := by
      match xs, h2 with
      | [], _ => simp [compS]
      | [x], _ => simp [compS]
      | _ :: _ :: _, h2 => simp at h2; omega
    rw [hc]
    repeat' (first | (with_reducible first | (refine wN fun nl hnl => ?_; revert hnl; (repeat refine wS fun _ _ => ?_); intro hnl) | refine wD (by decide +kernel) ?_ | refine wI (fun h => ?_) fun h => ?_ | refine wF (fun h => ?_) fun h => ?_ | refine wG (fun h => ?_) fun h => ?_ | refine wH (fun h => ?_) fun h => ?_ | ((first | refine mfork_bool (fun h => ?_) fun h => ?_ | refine mgfork_bool (fun h => ?_) fun h => ?_) <;> simp only [h])) | simp (maxSteps := 4000000) (disch := first | decide | assumption | omega | (simp only [wL]; omega)) only [go_sem, simprocAttr, Try.f45])
    exact ⟨ex, rfl⟩
  · repeat' (first | (with_reducible first | (refine wN fun nl hnl => ?_; revert hnl; (repeat refine wS fun _ _ => ?_); intro hnl) | refine wD (by decide +kernel) ?_ | refine wI (fun h => ?_) fun h => ?_ | refine wF (fun h => ?_) fun h => ?_ | refine wG (fun h => ?_) fun h => ?_ | refine wH (fun h => ?_) fun h => ?_ | ((first | refine mfork_bool (fun h => ?_) fun h => ?_ | refine mgfork_bool (fun h => ?_) fun h => ?_) <;> simp only [h])) | simp (maxSteps := 4000000) (disch := first | decide | assumption | omega | (simp only [wL]; omega)) only [go_sem, simprocAttr, Try.f45])
    refine mloop_intro (α := Nat) (fun k => ⟨61, [(3, .int .i64 (k : Int)), (0, .vec 5 l 0 xs.length)], []⟩) (fun _ => St.none.set l (.row 49 5 (xs.map ND.c ++ ex))) (fun k => 1 ≤ k ∧ k ≤ xs.length ∧ compS (xs.take k) = xs.take k) (fun k => xs.length - k) (.of (.less ?_ (St.le_refl _)) ⟨1, rfl, rfl, by omega, by omega, ?_⟩) ?_
    · simp (maxSteps := 4000000) (disch := first | decide | assumption | omega | (simp only [wL]; omega)) only [go_sem, simprocAttr, weak_int, weak_same]
      all_goals first | rfl | omega
    · match xs, h2 with
      | x :: _ :: _, _ => simp [compS]
      | [], h => simp at h
      | [_], h => simp at h
    · rintro k ⟨h3, h4, h5⟩
      by_cases hk : k < xs.length
      · have hk1 : ((k : Int) - 1).toNat = k - 1 := by omega
        have hcs := comp_step (xs := xs) (j := k) (by omega) hk
        by_cases he : xs.getD k nd0 = xs.getD (k - 1) nd0
        · rw [if_pos he] at hcs
          rw [h5] at hcs
          repeat' (first | (with_reducible first | (refine wN fun nl hnl => ?_; revert hnl; (repeat refine wS fun _ _ => ?_); intro hnl) | refine wD (by decide +kernel) ?_ | refine wI (fun h => ?_) fun h => ?_ | refine wF (fun h => ?_) fun h => ?_ | refine wG (fun h => ?_) fun h => ?_ | refine wH (fun h => ?_) fun h => ?_ | ((first | refine mfork_bool (fun h => ?_) fun h => ?_ | refine mgfork_bool (fun h => ?_) fun h => ?_) <;> simp only [h])) | simp (maxSteps := 4000000) (disch := first | decide | assumption | omega | (simp only [wL]; omega)) only [go_sem, simprocAttr, getD_mapd nd0, hk1, he])
          refine mloop_intro (α := Nat × Nat × List ND) (fun a => ⟨61, [(3, .int .i64 (a.1 : Int)), (4, .vec 5 l k (xs.length - k)), (5, .int .i64 (a.2.1 : Int)), (0, .vec 5 l 0 xs.length)], []⟩) (fun a => St.none.set l (.row 49 5 (a.2.2.map ND.c ++ ex)))
            (fun a => 1 ≤ a.2.1 ∧ a.2.1 ≤ xs.length - k ∧ a.2.2.length = xs.length ∧ a.1 < k + a.2.1 ∧ a.1 = (compS (xs.take (k + a.2.1))).length ∧ a.2.2.take a.1 = compS (xs.take (k + a.2.1)) ∧ a.2.2.drop (k + a.2.1 - 1) = xs.drop (k + a.2.1 - 1)) (fun a => xs.length - k - a.2.1) ?_ ?_
          · refine .of (.less ?_ (St.le_refl _)) ⟨(k, 1, xs), rfl, rfl, by simp only; omega, by simp only; omega, rfl, by simp only; omega, ?_, ?_, rfl⟩
            · simp (maxSteps := 4000000) (disch := first | decide | assumption | omega | (simp only [wL]; omega)) only [go_sem, simprocAttr, weak_int, weak_same]
              all_goals first | rfl | omega
            · simp only; rw [hcs, List.length_take]; omega
            · simp only; rw [hcs]
          · rintro ⟨q, k2, A⟩ ⟨g1, g2, g3, g4, g5, g6, g7⟩
            simp only at g1 g2 g3 g4 g5 g6 g7 ⊢
            by_cases hk2 : k2 < xs.length - k
            · have hk21 : ((k2 : Int) - 1).toNat = k2 - 1 := by omega
              have hcs2 := comp_step (xs := xs) (j := k + k2) (by omega) (by omega)
              have v1 := drop_get g7 (show k + k2 - 1 ≤ k + k2 by omega)
              have v2 := drop_get g7 (show k + k2 - 1 ≤ k + (k2 - 1) by omega)
              have v3 : k + k2 - 1 = k + (k2 - 1) := by omega
              have hd : A.drop (k + k2) = xs.drop (k + k2) := by
                have := congrArg (List.drop 1) g7
                rw [List.drop_drop, List.drop_drop, show k + k2 - 1 + 1 = k + k2 by omega] at this
                exact this
              rw [v3, ← v1, ← v2] at hcs2
              have hq : q < A.length := by omega
              repeat' (first | (with_reducible first | (refine wN fun nl hnl => ?_; revert hnl; (repeat refine wS fun _ _ => ?_); intro hnl) | refine wD (by decide +kernel) ?_ | refine wI (fun h => ?_) fun h => ?_ | refine wF (fun h => ?_) fun h => ?_ | refine wG (fun h => ?_) fun h => ?_ | refine wH (fun h => ?_) fun h => ?_ | ((first | refine mfork_bool (fun h => ?_) fun h => ?_ | refine mgfork_bool (fun h => ?_) fun h => ?_) <;> simp only [h])) | simp (maxSteps := 4000000) (disch := first | decide | assumption | omega | (simp only [wL]; omega)) only [go_sem, simprocAttr, getD_mapd nd0, hk21])
              · have hne : ¬ A.getD (k + k2) nd0 = A.getD (k + (k2 - 1)) nd0 := fun e => h (by rw [e]; exact ⟨rfl, rfl, rfl, rfl, rfl⟩)
                rw [if_neg hne] at hcs2
                refine .of (.less (l1 := [(3, .int .i64 ((q + 1 : Nat) : Int)), (4, .vec 5 l k (xs.length - k)), (5, .int .i64 ((k2 + 1 : Nat) : Int)), (0, .vec 5 l 0 xs.length)]) (σ1 := St.none.set l (.row 49 5 ((A.set q (A.getD (k + k2) nd0)).map ND.c ++ ex))) ?_ (St.set_le (St.none_le _) ((set_hit _ _ _).trans ?_)))
                  ⟨(q + 1, k2 + 1, A.set q (A.getD (k + k2) nd0)), rfl, rfl, ⟨by simp only; omega, by simp only; omega, by simpa using g3, by simp only; omega, ?_, ?_, ?_⟩, by simp only; omega⟩
                · simp (maxSteps := 4000000) (disch := first | decide | assumption | omega | (simp only [wL]; omega)) only [go_sem, simprocAttr, weak_int, weak_same]
                  all_goals omega
                · show some (MObj.row 49 5 ((A.map ND.c ++ ex).set q (ND.c (A.getD (k + k2) nd0)))) = _
                  rw [List.set_append_left _ _ (by rw [List.length_map]; exact hq), ← List.map_set]
                · show q + 1 = (compS (xs.take (k + k2 + 1))).length
                  rw [hcs2, List.length_append, ← g5]; rfl
                · show (A.set q _).take (q + 1) = compS (xs.take (k + k2 + 1))
                  rw [take_set_succ hq, hcs2, g6]
                · show (A.set q _).drop (k + k2 + 1 - 1) = xs.drop (k + k2 + 1 - 1)
                  rw [Nat.add_sub_cancel, List.drop_set_of_lt g4, hd]
              · have heq := nd_ext (Classical.not_not.1 h)
                rw [if_pos heq] at hcs2
                refine .of (.less (l1 := [(3, .int .i64 (q : Int)), (4, .vec 5 l k (xs.length - k)), (5, .int .i64 ((k2 + 1 : Nat) : Int)), (0, .vec 5 l 0 xs.length)]) ?_ (St.le_refl _))
                  ⟨(q, k2 + 1, A), rfl, rfl, ⟨by simp only; omega, by simp only; omega, g3, by simp only; omega, ?_, ?_, ?_⟩, by simp only; omega⟩
                · simp (maxSteps := 4000000) (disch := first | decide | assumption | omega | (simp only [wL]; omega)) only [go_sem, simprocAttr, weak_int, weak_same]
                  all_goals omega
                · show q = (compS (xs.take (k + k2 + 1))).length
                  rw [hcs2, ← g5]
                · show A.take q = compS (xs.take (k + k2 + 1))
                  rw [hcs2, g6]
                · show A.drop (k + k2 + 1 - 1) = xs.drop (k + k2 + 1 - 1)
                  rw [Nat.add_sub_cancel, hd]
            · have : k2 = xs.length - k := by omega
              subst this
              rw [show k + (xs.length - k) = xs.length by omega, List.take_length] at g5 g6
              repeat' (first | (with_reducible first | (refine wN fun nl hnl => ?_; revert hnl; (repeat refine wS fun _ _ => ?_); intro hnl) | refine wD (by decide +kernel) ?_ | refine wI (fun h => ?_) fun h => ?_ | refine wF (fun h => ?_) fun h => ?_ | refine wG (fun h => ?_) fun h => ?_ | refine wH (fun h => ?_) fun h => ?_ | ((first | refine mfork_bool (fun h => ?_) fun h => ?_ | refine mgfork_bool (fun h => ?_) fun h => ?_) <;> simp only [h])) | simp (maxSteps := 4000000) (disch := first | decide | assumption | omega | (simp only [wL]; omega)) only [go_sem, simprocAttr])
              refine ⟨List.replicate (xs.length - q) nd0.c ++ List.drop (q + (List.replicate (xs.length - q) nd0.c).length) (A.map ND.c ++ ex), by rw [g5], ?_⟩
              show St.none.set l (.row 49 5 (List.take q (A.map ND.c ++ ex) ++ List.replicate (xs.length - q) nd0.c ++ List.drop (q + (List.replicate (xs.length - q) nd0.c).length) (A.map ND.c ++ ex))) = _
              rw [List.append_assoc, List.take_append_of_le_length (by rw [List.length_map]; omega), ← List.map_take, g6]
        · rw [if_neg he, h5] at hcs
          have hne : ¬ ((xs.getD k nd0).op = (xs.getD (k - 1) nd0).op ∧ (xs.getD k nd0).n = (xs.getD (k - 1) nd0).n ∧ (xs.getD k nd0).v.kd = (xs.getD (k - 1) nd0).v.kd ∧ (xs.getD k nd0).v.n = (xs.getD (k - 1) nd0).v.n ∧ (xs.getD k nd0).v.s = (xs.getD (k - 1) nd0).v.s) := fun h => he (nd_ext h)
          repeat' (first | (with_reducible first | (refine wN fun nl hnl => ?_; revert hnl; (repeat refine wS fun _ _ => ?_); intro hnl) | refine wD (by decide +kernel) ?_ | refine wI (fun h => ?_) fun h => ?_ | refine wF (fun h => ?_) fun h => ?_ | refine wG (fun h => ?_) fun h => ?_ | refine wH (fun h => ?_) fun h => ?_ | ((first | refine mfork_bool (fun h => ?_) fun h => ?_ | refine mgfork_bool (fun h => ?_) fun h => ?_) <;> simp only [h])) | simp (maxSteps := 4000000) (disch := first | decide | assumption | omega | (simp only [wL]; omega)) only [go_sem, simprocAttr, getD_mapd nd0, hk1])
          refine .of (.less (l1 := [(3, .int .i64 ((k + 1 : Nat) : Int)), (0, .vec 5 l 0 xs.length)]) ?_ (St.le_refl _)) ⟨k + 1, rfl, rfl, ⟨by omega, by omega, ?_⟩, by omega⟩
          · simp (maxSteps := 4000000) (disch := first | decide | assumption | omega | (simp only [wL]; omega)) only [go_sem, simprocAttr, weak_int, weak_same]
            all_goals omega
          · rw [hcs, List.take_succ_eq_append_getElem hk, ← getD_of_lt nd0 hk]
      · have : k = xs.length := by omega
        subst this
        rw [List.take_length] at h5
        rw [h5]
        repeat' (first | (with_reducible first | (refine wN fun nl hnl => ?_; revert hnl; (repeat refine wS fun _ _ => ?_); intro hnl) | refine wD (by decide +kernel) ?_ | refine wI (fun h => ?_) fun h => ?_ | refine wF (fun h => ?_) fun h => ?_ | refine wG (fun h => ?_) fun h => ?_ | refine wH (fun h => ?_) fun h => ?_ | ((first | refine mfork_bool (fun h => ?_) fun h => ?_ | refine mgfork_bool (fun h => ?_) fun h => ?_) <;> simp only [h])) | simp (maxSteps := 4000000) (disch := first | decide | assumption | omega | (simp only [wL]; omega)) only [go_sem, simprocAttr])
        exact ⟨ex, rfl⟩
end Go.Proofs.Ytielcgplbnlgbaa
end

section
/- slices.SortFunc, as the logic says it: elements of some cells that say nothing of memory. -/
set_option linter.unusedVariables false
set_option linter.unusedSimpArgs false
namespace Go.Proofs.Ytielcgplbnlgbaa
open Go.Shelf Go.Sort

/-- A world that has grown. -/
theorem Inv.grown {Φ : Phi} {w w' : World} {σ : St} (hi : Inv Φ w σ) (h1 : w'.os = w.os) (h2 : w'.tape = w.tape) (h3 : w'.output = w.output) (h4 : w.drawn ≤ w'.drawn) (h5 : w.heap.size ≤ w'.heap.size) (hb : ∀ k, k < w.heap.size → w'.heap[k]? = w.heap[k]?) :
    Inv Φ w' σ ∧ Step Φ σ w Φ σ w' :=
  ⟨⟨fun l o h => (hi.own l o h).mono (.refl Φ) fun p R hp hR => by
      obtain ⟨p', hp', hlt⟩ := (hi.own l o h).place
      rw [hp] at hp'; cases hp'
      exact hb R (hlt R hR), hi.inj, fun a v h => by
      rw [World.cell?_heap (hb _ (World.block_lt_of_cell? w a (hi.snap a v h)))]
      exact hi.snap a v h, hi.apart, hi.fresh⟩,
   ⟨.refl Φ, h1, h2, h3, h4, h5, fun k hk _ => hb k hk, fun _ _ h => .inl h, fun l o h => .inl ⟨o, h⟩, fun _ h => .inl h⟩⟩

theorem step_grow {Φ Φ' : Phi} {σ' : St} {w w' : World} (h : Step Φ St.none w Φ' σ' w') : ∃ q os', w' = Sort.grow (w.drewN q) os' := by
  refine ⟨w'.drawn - w.drawn, w'.heap.extract w.heap.size w'.heap.size, ?_⟩
  have hd := h.drawn
  have hh : w'.heap = w.heap ++ w'.heap.extract w.heap.size w'.heap.size := by
    refine Array.ext (by simp; have := h.size; omega) fun i h1 h2 => ?_
    by_cases hi : i < w.heap.size
    · have e := h.block i hi (by rintro ⟨l, o, p, q, _⟩; simp [St.none] at q)
      rw [Array.getElem?_eq_getElem h1, Array.getElem?_eq_getElem hi] at e
      rw [Array.getElem_append_left hi]
      exact Option.some.inj e
    · rw [Array.getElem_append_right (by omega)]
      simp
      congr 1
      omega
  have e1 := h.os; have e2 := h.tape; have e3 := h.output
  obtain ⟨heap, tape, drawn, os, output⟩ := w
  obtain ⟨heap', tape', drawn', os', output'⟩ := w'
  simp only at e1 e2 e3 hd hh
  subst e1 e2 e3
  simp only [Sort.grow, World.drewN]
  rw [← hh]
  congr 1
  omega

/-- The cells that say nothing of memory. -/
def PlainC {X : Type} (encM : X → List MV) (encV : X → List Value) : Prop := ∀ x, (encV x).length = (encM x).length ∧ ∀ (j : Nat) m, (encM x)[j]? = some m → m.isCell = true ∧ ∀ Φ v, Rel Φ v m ↔ v = (encV x).getD j undef

theorem inv_empty (w : World) : Inv ⟨fun _ => none, fun _ => none, 0⟩ w St.none where
  own := fun l o h => by simp [St.none] at h
  inj := fun l l' o o' p p' R h => by simp [St.none] at h
  snap := fun a v h => by cases h
  apart := fun l o p R a v h => by simp [St.none] at h
  fresh := ⟨0, fun _ _ => rfl⟩

theorem plain_agg {X : Type} {encM : X → List MV} {encV : X → List Value} (hp : PlainC encM encV) (Φ : Phi) (x : X) : Rel Φ (.agg (encV x).toArray) (.agg (encM x)) := by
  obtain ⟨h1, h2⟩ := hp x
  refine .agg (by simpa using h1) (fun i m hm => (h2 i m hm).1) (fun i m hm => ((h2 i m hm).2 Φ _).2 ?_)
  simp [Array.getD_eq_getD_getElem?, List.getD_eq_getElem?_getD]

theorem div_mod_of {i j k t : Nat} (hj : j < k) (ht : t = i * k + j) : t / k = i ∧ t % k = j := by
  subst ht
  have hk : 0 < k := by omega
  constructor
  · rw [Nat.mul_comm, Nat.mul_add_div hk, Nat.div_eq_of_lt hj, Nat.add_zero]
  · rw [Nat.mul_comm, Nat.mul_add_mod, Nat.mod_eq_of_lt hj]

/-- The cells of a row of the sort's. -/
theorem flat_at {X : Type} [Inhabited X] {encV : X → List Value} {k : Nat} (hk : ∀ x, (encV x).length = k) (d : Array X) {i j : Nat} (hi : i < d.size) (hj : j < k) : (flatK encV k d)[i * k + j]! = (encV (d.getD i default)).getD j undef := by
  have ht : i * k + j < d.size * k := by
    have : (i + 1) * k ≤ d.size * k := Nat.mul_le_mul_right _ hi
    rw [Nat.add_mul, Nat.one_mul] at this
    omega
  obtain ⟨e1, e2⟩ := div_mod_of (i := i) (k := k) hj rfl
  rw [get_flatK _ _ _ _ ht, e1, e2]
  have : d[i]! = d.getD i default := by simp [Array.getD, hi]
  rw [this]
  have hl := hk (d.getD i default)
  rw [getElem!_pos _ _ (by omega), List.getD_eq_getElem?_getD, List.getElem?_eq_getElem (by omega)]
  rfl

theorem sort_any {X : Type} [Inhabited X] {P : Program} {ρ : Ren} (L : SlLaysF0.n6 P ρ) (k : Nat) (hk0 : 0 < k) (aE : ∀ w, (isAgg (ρ.t 24)).run P w = .ok true w) (zE : ∀ w, (Go.sizeOf (ρ.t 24)).run P w = .ok k w)
    (encM : X → List MV) (encV : X → List Value) (hk : ∀ x, (encV x).length = k) (hp : PlainC encM encV) (h1 : ∀ x, ∀ v ∈ encV x, v.oneCell' = true) (cf : X → X → Int) (hO : SWO (ltOf cf)) (g : Nat)
    (hg : ∀ x y, MCalls P g [.agg (encM x), .agg (encM y)] St.none fun r _ => r = .int .i64 (cf x y)) (eg : ∀ args w, (callFunc g args).run P w = .ok (.enter g args) w)
    (hent : Enters P (ρ.f 6)) (l : Nat) (t : TypeId) (xs : List X) (ex : List (List MV)) (hn : 0 < xs.length) (hsz : xs.length < 4611686018427387904) :
    MCalls P (ρ.f 6) [.vec k l 0 xs.length, .fn (.func g) [] []] (St.none.set l (.row t k (xs.map encM ++ ex))) fun r σ' =>
      r = .tup [] ∧ ∃ ys : List X, ys.Perm xs ∧ ys.Pairwise (fun a b => ltOf cf b a = false) ∧ σ' = St.none.set l (.row t k (ys.map encM ++ ex)) := by
  refine ⟨hent, fun Φ w vs hi hr => ?_⟩
  have hkM : ∀ x, (encM x).length = k := fun x => by rw [← (hp x).1]; exact hk x
  obtain ⟨a, cap, p, e0, hpo, hpe, hcap, hncap, hblk⟩ := (hr.2 0 _ rfl).inv_vec
  obtain ⟨first, capv, e1, r1, r2⟩ := (hr.2 1 _ rfl).inv_fn
  have hf0 : first = #[] := by have := r1.1; simp at this; exact this
  have hc0 : capv = #[] := by have := r2.1; simp at this; exact this
  subst hf0 hc0
  have hvs : vs = #[.slice a xs.length cap, .func (.func g) #[] #[]] := by
    have h2 := hr.1
    simp at h2
    refine Array.ext (by simpa using h2) fun i q1 q2 => ?_
    match i, q1, q2 with
    | 0, q1, _ => have := e0; simp [Array.getD, q1] at this; exact this
    | 1, q1, _ => have := e1; simp [Array.getD, q1] at this; exact this
  obtain ⟨p', hp', hpe', hlen, hmax, hx, hmatch⟩ := hi.own l _ (set_hit _ _ _)
  rw [hpo] at hp'
  cases hp'
  rcases hblk with ⟨R, hR, ha⟩ | hc0
  · rw [hR] at hmatch
    obtain ⟨c, fz, hheap, hfz, hfit, hcell⟩ := hmatch
    simp only [Nat.zero_mul, Nat.add_zero] at ha
    subst ha
    have hRlt : R < w.heap.size := by
      obtain ⟨q, _⟩ := Array.getElem?_eq_some_iff.1 hheap; exact q
    have hRp : p.blk = some R := hR
    -- the cells of the elements
    have hxs : ∀ (i : Nat) (x : X), xs[i]? = some x → ∀ j, j < k → c[p.bo + (i * k + j)]? = some ((encV x).getD j undef) := fun i x hx j hj => by
      have h1 : (xs.map encM ++ ex)[i]? = some (encM x) := by
        rw [List.getElem?_append_left (by have := (List.getElem?_eq_some_iff.1 hx).1; simpa using this), List.getElem?_map, hx]; rfl
      have h2 : (encM x)[j]? = some ((encM x)[j]'(by rw [hkM]; exact hj)) := by simp
      obtain ⟨_, v, hv, hrel⟩ := hcell i _ j _ h1 h2
      rw [hv, (((hp x).2 j _ h2).2 Φ v).1 hrel]
    let d : Array X := xs.toArray
    have hds : d.size = xs.length := by simp [d]
    have hdi : ∀ i, i < xs.length → xs[i]? = some (d.getD i default) := fun i hi => by simp [d, Array.getD, hi]
    have hnk : p.bo + xs.length * k ≤ c.size := by
      have : xs.length ≤ p.C := by have := hlen; simp at this; omega
      have := Nat.mul_le_mul_right k this
      omega
    have hH : HoldsK encV k w R p.bo d := by
      intro t ht
      have ht' : t < xs.length * k := by simpa [hds] using ht
      have hi : t / k < xs.length := Nat.div_lt_of_lt_mul (by rw [Nat.mul_comm]; exact ht')
      have hj : t % k < k := Nat.mod_lt _ hk0
      have e : t / k * k + t % k = t := by rw [Nat.mul_comm]; exact Nat.div_add_mod t k
      have h1 := hxs _ _ (hdi _ hi) (t % k) hj
      have h2 := flat_at (encV := encV) hk d (i := t / k) (j := t % k) (by omega) hj
      rw [e] at h1 h2
      refine ⟨?_, ?_⟩
      · rw [show (id : Value → Value) ((flatK encV k d)[t]!) = (flatK encV k d)[t]! from rfl, h2, ← h1]
        simp only [World.cell?, hheap]
        rfl
      · simp only [World.frozen?, hheap]
        rcases hfz with h | h
        · simp; omega
        · simp; omega
    have hcmp : CmpLays P g #[] encV k cf R p.bo d.size w := fun m os dk hs x y => by
      refine ((hg x y).2 _ (sortWorldK encV k w R p.bo m dk os) _ (inv_empty _) (?_ : Rels _ (#[.agg (encV x).toArray, .agg (encV y).toArray] ++ #[]) _)).mono ?_
      · refine ⟨by simp, fun i m hm => ?_⟩
        match i, hm with
        | 0, hm => simp at hm; subst hm; exact plain_agg hp _ x
        | 1, hm => simp at hm; subst hm; exact plain_agg hp _ y
      · rintro e w' ⟨v, mv, σ', Φ', he, hv, hi', hst, rfl⟩
        cases hv
        exact ⟨he, step_grow hst⟩
    have key := AnyQ.slices_SortFunc L k aE zE encV hk h1 cf hO g #[] R p.bo cap d w eg hcmp hH hRlt (by rw [hds]; exact hsz)
    subst hvs
    rw [← hds]
    refine key.mono ?_
    rintro e W' ⟨rfl, d', m, os, hperm, hsort, rfl⟩
    obtain ⟨hsz', _, hpm⟩ := hperm
    have hds' : d'.size = xs.length := by rw [hsz', hds]
    have hpm' : d'.toList.Perm xs := by
      have e1 : d'.extract 0 d.size = d' := by rw [← hsz']; simp
      have e2 : d.extract 0 d.size = d := by simp
      rw [e1, e2] at hpm
      simpa [d] using hpm
    have hll : d'.toList.length = xs.length := by simpa using hds'
    let c' : Array Value := putCells id p.bo (flatK encV k d') c
    have hc's : c'.size = c.size := by simp [c', putCells]
    have hfs : (flatK encV k d').size = xs.length * k := by simp [flatK, hds']
    have hc'in : ∀ i j, i < xs.length → j < k → c'[p.bo + (i * k + j)]? = some ((encV (d'.getD i default)).getD j undef) := fun i j hi hj => by
      have hlt : i * k + j < xs.length * k := by
        have : (i + 1) * k ≤ xs.length * k := Nat.mul_le_mul_right _ hi
        rw [Nat.add_mul, Nat.one_mul] at this
        omega
      have hcs : p.bo + (i * k + j) < c.size := by omega
      have := flat_at (encV := encV) hk d' (i := i) (j := j) (by omega) hj
      rw [← this]
      simp only [c', putCells, Array.getElem?_mapIdx, Array.getElem?_eq_getElem hcs, Option.map_some, hfs]
      rw [if_pos (by omega), Nat.add_sub_cancel_left]
      rfl
    have hc'out : ∀ q, p.bo + xs.length * k ≤ q → c'[q]? = c[q]? := fun q hq => by
      simp only [c', putCells, Array.getElem?_mapIdx, hfs]
      cases hcq : c[q]? with
      | none => rfl
      | some v => simp only [Option.map_some]; rw [if_neg (by omega)]
    have hW1 : (putRowK encV k w R p.bo d').heap[R]? = some (.cells c' t fz) := by
      show (w.heap.modify R _)[R]? = _
      rw [Array.getElem?_modify, if_pos rfl, hheap]
      rfl
    have hWo : ∀ q, q ≠ R → (putRowK encV k w R p.bo d').heap[q]? = w.heap[q]? := fun q hq => by
      show (w.heap.modify R _)[q]? = _
      rw [Array.getElem?_modify, if_neg (Ne.symm hq)]
    have hown : OwnOk Φ (putRowK encV k w R p.bo d') l (.row t k (d'.toList.map encM ++ ex)) := by
      refine ⟨p, hpo, hpe', by simpa [hll] using hlen, hmax, fun i x hx' => ?_, ?_⟩
      · by_cases hi : i < xs.length
        · rw [List.getElem?_append_left (by simpa [hds'] using hi), List.getElem?_map, Option.map_eq_some_iff] at hx'
          obtain ⟨y, _, rfl⟩ := hx'
          exact hkM y
        · refine hx i x ?_
          rw [List.getElem?_append_right (by simp; omega)] at hx' ⊢
          simpa [hds'] using hx'
      · rw [hRp]
        refine ⟨c', fz, hW1, by rw [hc's]; exact hfz, by rw [hc's]; exact hfit, fun i x j m' hx' hm' => ?_⟩
        by_cases hi : i < xs.length
        · rw [List.getElem?_append_left (by simpa [hds'] using hi), List.getElem?_map, Option.map_eq_some_iff] at hx'
          obtain ⟨y, hy, rfl⟩ := hx'
          have hj : j < k := by rw [← hkM y]; exact (List.getElem?_eq_some_iff.1 hm').1
          have hyd : d'.getD i default = y := by
            have : d'[i]? = some y := by simpa using hy
            simp [Array.getD_eq_getD_getElem?, this]
          obtain ⟨q1, q2⟩ := (hp y).2 j m' hm'
          refine ⟨q1, _, hc'in i j hi hj, (q2 Φ _).2 (by rw [hyd])⟩
        · have hx2 : (xs.map encM ++ ex)[i]? = some x := by
            rw [List.getElem?_append_right (by simp; omega)] at hx' ⊢
            simpa [hds'] using hx'
          obtain ⟨q1, v, q2, q3⟩ := hcell i x j m' hx2 hm'
          refine ⟨q1, v, ?_, q3⟩
          rw [hc'out _ (by have := Nat.mul_le_mul_right k (Nat.le_of_not_lt hi); omega)]
          exact q2
    obtain ⟨i1, s1⟩ := hi.turn (w' := putRowK encV k w R p.bo d') l (set_hit _ _ _) (.row t k (d'.toList.map encM ++ ex)) hpo hRp (by simp [putRowK]) hWo rfl rfl rfl (Nat.le_refl _) hown
    rw [set_set] at i1 s1
    obtain ⟨i2, s2⟩ := i1.grown (w' := sortWorldK encV k w R p.bo m d' os) rfl rfl rfl (by show w.drawn ≤ w.drawn + m; omega) (by show _ ≤ ((putRowK encV k w R p.bo d').heap ++ os).size; simp) (fun q hq => by
      show ((putRowK encV k w R p.bo d').heap ++ os)[q]? = _
      rw [Array.getElem?_append_left hq])
    refine ⟨.tuple #[], .tup [], _, Φ, rfl, .tup rfl (fun i m h => by simp at h), i2, s1.trans s2, rfl, d'.toList, hpm', ?_, rfl⟩
    refine List.pairwise_iff_getElem.2 fun i j hi hj hij => ?_
    have := hsort i j (Nat.zero_le _) hij (by rw [← hsz']; simpa using hj)
    rw [getElem!_pos _ _ (by simpa using hj), getElem!_pos _ _ (by simpa using hi)] at this
    simpa using this
  · omega
end Go.Proofs.Ytielcgplbnlgbaa
end

section
/- Layings of the library's functions in this translation, as the kit's own tool (lay-plain.mjs) prints them: no condition. -/
set_option linter.unusedVariables false
namespace Go.Proofs.Ytielcgplbnlgbaa
open Go.Shelf
def lay_sortN_ren : Go.Shelf.Ren := ⟨fun | 6 => 43 | 15 => 63 | 14 => 62 | 28 => 91 | 29 => 92 | 20 => 83 | 21 => 84 | 22 => 85 | 23 => 86 | 24 => 87 | 25 => 88 | 26 => 89 | 27 => 90 | 46 => 103 | 47 => 104 | 48 => 105 | 49 => 106 | 50 => 107 | 57 => 112 | n => n, fun | 22 => 22 | 24 => 49 | 25 => 62 | 3 => 3 | 39 => 75 | 0 => 0 | 53 => 30 | 55 => 52 | 4 => 4 | 46 => 91 | 45 => 90 | 50 => 76 | 5 => 5 | 9 => 9 | 66 => 114 | 70 => 118 | 76 => 123 | 77 => 124 | n => n, fun | n => n⟩
theorem lay_sortN : Go.Proofs.SlLaysF0.n6 Try.prog lay_sortN_ren := {
  mixed := by kernel_rfl
  f6 := ⟨Try.f43.name, by decide, Try.func43.trans (congrArg some (by kernel_rfl))⟩
  f14 := ⟨Try.f62.name, by decide, Try.func62.trans (congrArg some (by kernel_rfl))⟩
  f15 := Try.func63.trans (congrArg some (by kernel_rfl))
  f20 := ⟨Try.f83.name, by decide, Try.func83.trans (congrArg some (by kernel_rfl))⟩
  f21 := ⟨Try.f84.name, by decide, Try.func84.trans (congrArg some (by kernel_rfl))⟩
  f22 := ⟨Try.f85.name, by decide, Try.func85.trans (congrArg some (by kernel_rfl))⟩
  f23 := ⟨Try.f86.name, by decide, Try.func86.trans (congrArg some (by kernel_rfl))⟩
  f24 := ⟨Try.f87.name, by decide, Try.func87.trans (congrArg some (by kernel_rfl))⟩
  f25 := ⟨Try.f88.name, by decide, Try.func88.trans (congrArg some (by kernel_rfl))⟩
  f26 := ⟨Try.f89.name, by decide, Try.func89.trans (congrArg some (by kernel_rfl))⟩
  f27 := ⟨Try.f90.name, by decide, Try.func90.trans (congrArg some (by kernel_rfl))⟩
  f28 := Try.func91.trans (congrArg some (by kernel_rfl))
  f29 := Try.func92.trans (congrArg some (by kernel_rfl))
  f46 := ⟨Try.f103.name, by decide, Try.func103.trans (congrArg some (by kernel_rfl))⟩
  f47 := Try.func104.trans (congrArg some (by kernel_rfl))
  f48 := Try.func105.trans (congrArg some (by kernel_rfl))
  f49 := ⟨Try.f106.name, by decide, Try.func106.trans (congrArg some (by kernel_rfl))⟩
  f50 := ⟨Try.f107.name, by decide, Try.func107.trans (congrArg some (by kernel_rfl))⟩
  f57 := ⟨Try.f112.name, by decide, Try.func112.trans (congrArg some (by kernel_rfl))⟩
  t0 := Try.underlying0
  a0 := Try.isAgg0
  z0 := Try.sizeOf0
  v0 := Try.zeroValue0
  t3 := Try.underlying3
  a3 := Try.isAgg3
  z3 := Try.sizeOf3
  v3 := Try.zeroValue3
  t4 := Try.underlying4
  a4 := Try.isAgg4
  z4 := Try.sizeOf4
  v4 := Try.zeroValue4
  t5 := Try.underlying5
  a5 := Try.isAgg5
  z5 := Try.sizeOf5
  v5 := Try.zeroValue5
  t9 := Try.underlying9
  a9 := Try.isAgg9
  z9 := Try.sizeOf9
  v9 := Try.zeroValue9
  t22 := Try.underlying22
  a22 := Try.isAgg22
  z22 := Try.sizeOf22
  v22 := Try.zeroValue22
  t25 := Try.underlying62
  a25 := Try.isAgg62
  z25 := Try.sizeOf62
  v25 := Try.zeroValue62
  t39 := Try.underlying75
  a39 := Try.isAgg75
  z39 := Try.sizeOf75
  v39 := Try.zeroValue75
  t45 := Try.underlying90
  a45 := Try.isAgg90
  z45 := Try.sizeOf90
  v45 := Try.zeroValue90
  t46 := Try.underlying91
  a46 := Try.isAgg91
  z46 := Try.sizeOf91
  v46 := Try.zeroValue91
  t50 := Try.underlying76
  a50 := Try.isAgg76
  z50 := Try.sizeOf76
  v50 := Try.zeroValue76
  t53 := Try.underlying30
  a53 := Try.isAgg30
  z53 := Try.sizeOf30
  v53 := Try.zeroValue30
  t55 := Try.underlying52
  a55 := Try.isAgg52
  z55 := Try.sizeOf52
  v55 := Try.zeroValue52
  t66 := Try.underlying114
  a66 := Try.isAgg114
  z66 := Try.sizeOf114
  v66 := Try.zeroValue114
  t70 := Try.underlying118
  a70 := Try.isAgg118
  z70 := Try.sizeOf118
  v70 := Try.zeroValue118
  t76 := Try.underlying123
  a76 := Try.isAgg123
  z76 := Try.sizeOf123
  v76 := Try.zeroValue123
  t77 := Try.underlying124
  a77 := Try.isAgg124
  z77 := Try.sizeOf124
  v77 := Try.zeroValue124 }
end Go.Proofs.Ytielcgplbnlgbaa
end

section
/- Contract of slices.SortFunc at nodes: the conditions that the theorem names. -/
set_option linter.unusedVariables false
set_option linter.unusedSimpArgs false
namespace Go.Proofs.Ytielcgplbnlgbaa
open Go.Shelf Go.Sort

def ND.v0 (x : ND) : List Value := [.int .i64 x.op, .int .i64 x.n, .int .i64 x.v.kd, .int .i64 x.v.n, .string x.v.s]
instance : Inhabited ND := ⟨nd0⟩

theorem nd_plain : PlainC ND.c ND.v0 := fun x => ⟨rfl, fun j m h => by
  match j, h with
  | 0, h => simp at h; subst h; exact ⟨rfl, fun Φ v => ⟨fun r => r.inv_int, fun e => e ▸ .int _ _⟩⟩
  | 1, h => simp at h; subst h; exact ⟨rfl, fun Φ v => ⟨fun r => r.inv_int, fun e => e ▸ .int _ _⟩⟩
  | 2, h => simp at h; subst h; exact ⟨rfl, fun Φ v => ⟨fun r => r.inv_int, fun e => e ▸ .int _ _⟩⟩
  | 3, h => simp at h; subst h; exact ⟨rfl, fun Φ v => ⟨fun r => r.inv_int, fun e => e ▸ .int _ _⟩⟩
  | 4, h => simp at h; subst h; exact ⟨rfl, fun Φ v => ⟨fun r => r.inv_str, fun e => e ▸ .str _⟩⟩⟩

theorem nd_lt (x y : ND) : ltOf (fun x y : ND => ordI (cmpL x.key y.key)) x y = decide (lessK x.key y.key) := by
  have e : (ordI (cmpL x.key y.key) < 0) ↔ lessK x.key y.key := by
    unfold lessK
    cases cmpL x.key y.key <;> simp [ordI]
  unfold ltOf
  simp only [e]

theorem nd_swo : SWO (ltOf fun x y : ND => ordI (cmpL x.key y.key)) where
  irrefl x := by rw [nd_lt]; simp [lessK_irrefl]
  trans x y z h1 h2 := by rw [nd_lt] at *; simp only [decide_eq_true_eq] at *; exact lessK_trans h1 h2
  ntrans x y z h1 h2 := by
    rw [nd_lt] at *
    simp only [decide_eq_false_iff_not] at *
    intro h3
    by_cases e : y.key = z.key
    · rw [e] at h1; exact h1 h3
    · exact h1 (lessK_trans h3 (lessK_total h2 e))

theorem sort_pos (l : Nat) (xs : List ND) (hx : xs.length ≤ 1000000) (h0 : 0 < xs.length) (ex : List (List MV)) : MCalls Try.prog 43 [.vec 5 l 0 xs.length, .fn (.func 44) [] []] (St.none.set l (.row 49 5 (xs.map ND.c ++ ex)))
    (fun r σ' => r = .tup [] ∧ ∃ ys : List ND, ys.Perm xs ∧ Sorted ys ∧ σ' = St.none.set l (.row 49 5 (ys.map ND.c ++ ex))) :=
  (sort_any (P := Try.prog) (ρ := lay_sortN_ren) lay_sortN 5 (by omega) Try.isAgg49 Try.sizeOf49 ND.c ND.v0 (fun _ => rfl) nd_plain (fun x v hv => by simp [ND.v0] at hv; rcases hv with rfl | rfl | rfl | rfl | rfl <;> rfl) (fun x y => ordI (cmpL x.key y.key)) nd_swo 44
    lorder_call (enters_of Try.func44 (by kernel_rfl) rfl) ⟨_, Try.func43, rfl, by kernel_rfl⟩ l 49 xs ex h0 (by omega)).mono fun r σ' ⟨h1, ys, h2, h3, h4⟩ => ⟨h1, ys, h2, List.pairwise_iff_getElem.2 fun i j hi hj hij => by
      have h := List.pairwise_iff_getElem.1 h3 i j hi hj hij
      rw [nd_lt] at h
      simpa using h, h4⟩
end Go.Proofs.Ytielcgplbnlgbaa
end

section
/- Contracts of slices.SortFunc at nodes, at any length, and of logic.Atoms: the conditions that each theorem names. -/
set_option linter.unusedVariables false
set_option linter.unusedSimpArgs false
namespace Go.Proofs.Ytielcgplbnlgbaa
open Go.Shelf Go.Sort

theorem bitslen_call (n : Nat) (hn : n ≤ 1000000) : MCalls Try.prog 63 [.int .u64 n] St.none (fun r _ => r = .int .i64 (Lib.bitLen n)) := by
  refine ⟨⟨_, Try.func63, rfl, by kernel_rfl⟩, fun Φ w vs hi hr => ?_⟩
  have e0 : vs.getD 0 undef = .int .u64 n := (hr.2 0 _ rfl).inv_int
  have hvs : vs = #[.int .u64 n] := by
    have h2 := hr.1
    simp at h2
    refine Array.ext (by simpa using h2) fun i q1 q2 => ?_
    match i, q1, q2 with
    | 0, q1, _ => have := e0; simp [Array.getD, q1] at this; exact this
  subst hvs
  have h := Any.bits_Len (SlLaysF0.n15.bits (P := Try.prog) (ρ := lay_sortN_ren) { lay_sortN with }) (n : Int) w (by omega) (by omega)
  rw [Int.toNat_natCast] at h
  refine h.mono ?_
  rintro e w' ⟨rfl, rfl⟩
  exact ⟨_, _, _, Φ, rfl, .int _ _, hi, .refl _ _ _, rfl⟩

theorem ins_nil (l : Nat) (ex : List (List MV)) : MCalls Try.prog 83 [.vec 5 l 0 0, .int .i64 0, .int .i64 0, .fn (.func 44) [] []] (St.none.set l (.row 49 5 ex)) (fun r σ' => r = .tup [] ∧ σ' = St.none.set l (.row 49 5 ex)) := by
  refine (MCalls.body 53 [] Try.func83 rfl rfl rfl rfl ?_)
  repeat' (first | (with_reducible first | (refine wN fun nl hnl => ?_; revert hnl; (repeat refine wS fun _ _ => ?_); intro hnl) | refine wD (by decide +kernel) ?_ | refine wI (fun h => ?_) fun h => ?_ | refine wF (fun h => ?_) fun h => ?_ | refine wG (fun h => ?_) fun h => ?_ | refine wH (fun h => ?_) fun h => ?_ | ((first | refine mfork_bool (fun h => ?_) fun h => ?_ | refine mgfork_bool (fun h => ?_) fun h => ?_) <;> simp only [h])) | simp (maxSteps := 4000000) (disch := first | decide | assumption | omega | (simp only [wL]; omega)) only [go_sem, simprocAttr, Try.f83])
  refine mloop_intro (α := Unit) (fun _ => ⟨53, [(8, .int .i64 1), (0, .vec 5 l 0 0), (1, .int .i64 0), (2, .int .i64 0), (3, .fn (.func 44) [] [])], []⟩) (fun _ => St.none.set l (.row 49 5 ex)) (fun _ => True) (fun _ => 0) (.of (.less ?_ (St.le_refl _)) ⟨(), rfl, rfl, trivial⟩) ?_
  · simp (maxSteps := 4000000) (disch := first | decide | assumption | omega | (simp only [wL]; omega)) only [go_sem, simprocAttr, weak_int, weak_same]
  · intro _ _
    repeat' (first | (with_reducible first | (refine wN fun nl hnl => ?_; revert hnl; (repeat refine wS fun _ _ => ?_); intro hnl) | refine wD (by decide +kernel) ?_ | refine wI (fun h => ?_) fun h => ?_ | refine wF (fun h => ?_) fun h => ?_ | refine wG (fun h => ?_) fun h => ?_ | refine wH (fun h => ?_) fun h => ?_ | ((first | refine mfork_bool (fun h => ?_) fun h => ?_ | refine mgfork_bool (fun h => ?_) fun h => ?_) <;> simp only [h])) | simp (maxSteps := 4000000) (disch := first | decide | assumption | omega | (simp only [wL]; omega)) only [go_sem, simprocAttr])

theorem pdq_nil (l : Nat) (ex : List (List MV)) : MCalls Try.prog 62 [.vec 5 l 0 0, .int .i64 0, .int .i64 0, .int .i64 0, .fn (.func 44) [] []] (St.none.set l (.row 49 5 ex)) (fun r σ' => r = .tup [] ∧ σ' = St.none.set l (.row 49 5 ex)) := by
  refine (MCalls.body 148 [] Try.func62 rfl rfl rfl rfl ?_)
  repeat' (first | (with_reducible first | (refine wN fun nl hnl => ?_; revert hnl; (repeat refine wS fun _ _ => ?_); intro hnl) | refine wD (by decide +kernel) ?_ | refine wI (fun h => ?_) fun h => ?_ | refine wF (fun h => ?_) fun h => ?_ | refine wG (fun h => ?_) fun h => ?_ | refine wH (fun h => ?_) fun h => ?_ | ((first | refine mfork_bool (fun h => ?_) fun h => ?_ | refine mgfork_bool (fun h => ?_) fun h => ?_) <;> simp only [h])) | simp (maxSteps := 4000000) (disch := first | decide | assumption | omega | (simp only [wL]; omega)) only [go_sem, simprocAttr, Try.f62])
  refine mloop_intro (α := Unit) (fun _ => ⟨148, [(11, .bool true), (10, .bool true), (0, .vec 5 l 0 0), (1, .int .i64 0), (2, .int .i64 0), (3, .int .i64 0), (4, .fn (.func 44) [] [])], []⟩) (fun _ => St.none.set l (.row 49 5 ex)) (fun _ => True) (fun _ => 0) (.of (.less ?_ (St.le_refl _)) ⟨(), rfl, rfl, trivial⟩) ?_
  · simp (maxSteps := 4000000) (disch := first | decide | assumption | omega | (simp only [wL]; omega)) only [go_sem, simprocAttr, weak_int, weak_same]
  · intro _ _
    repeat' (first | (with_reducible refine use_same (ins_nil l ex) (St.le_refl _) ?_) | (with_reducible first | (refine wN fun nl hnl => ?_; revert hnl; (repeat refine wS fun _ _ => ?_); intro hnl) | refine wD (by decide +kernel) ?_ | refine wI (fun h => ?_) fun h => ?_ | refine wF (fun h => ?_) fun h => ?_ | refine wG (fun h => ?_) fun h => ?_ | refine wH (fun h => ?_) fun h => ?_ | ((first | refine mfork_bool (fun h => ?_) fun h => ?_ | refine mgfork_bool (fun h => ?_) fun h => ?_) <;> simp only [h])) | simp (maxSteps := 4000000) (disch := first | decide | assumption | omega | (simp only [wL]; omega)) only [go_sem, simprocAttr])

theorem sort_nil (l : Nat) (ex : List (List MV)) : MCalls Try.prog 43 [.vec 5 l 0 0, .fn (.func 44) [] []] (St.none.set l (.row 49 5 ex)) (fun r σ' => r = .tup [] ∧ σ' = St.none.set l (.row 49 5 ex)) := by
  refine (MCalls.body 14 [] Try.func43 rfl rfl rfl rfl ?_)
  have hb := bitslen_call 0 (by omega)
  rw [show Lib.bitLen 0 = 0 by decide] at hb
  repeat' (first | (with_reducible refine use_pure hb ?_) | (with_reducible first | (refine wN fun nl hnl => ?_; revert hnl; (repeat refine wS fun _ _ => ?_); intro hnl) | refine wD (by decide +kernel) ?_ | refine wI (fun h => ?_) fun h => ?_ | refine wF (fun h => ?_) fun h => ?_ | refine wG (fun h => ?_) fun h => ?_ | refine wH (fun h => ?_) fun h => ?_ | ((first | refine mfork_bool (fun h => ?_) fun h => ?_ | refine mgfork_bool (fun h => ?_) fun h => ?_) <;> simp only [h])) | simp (maxSteps := 4000000) (disch := first | decide | assumption | omega | (simp only [wL]; omega)) only [go_sem, simprocAttr, Try.f43])
  refine use_same (pdq_nil l ex) (St.le_refl _) ?_
  repeat' (first | (with_reducible first | (refine wN fun nl hnl => ?_; revert hnl; (repeat refine wS fun _ _ => ?_); intro hnl) | refine wD (by decide +kernel) ?_ | refine wI (fun h => ?_) fun h => ?_ | refine wF (fun h => ?_) fun h => ?_ | refine wG (fun h => ?_) fun h => ?_ | refine wH (fun h => ?_) fun h => ?_ | ((first | refine mfork_bool (fun h => ?_) fun h => ?_ | refine mgfork_bool (fun h => ?_) fun h => ?_) <;> simp only [h])) | simp (maxSteps := 4000000) (disch := first | decide | assumption | omega | (simp only [wL]; omega)) only [go_sem, simprocAttr])

theorem sort_call (l : Nat) (xs : List ND) (hx : xs.length ≤ 1000000) (ex : List (List MV)) : MCalls Try.prog 43 [.vec 5 l 0 xs.length, .fn (.func 44) [] []] (St.none.set l (.row 49 5 (xs.map ND.c ++ ex)))
    (fun r σ' => r = .tup [] ∧ ∃ ys : List ND, ys.Perm xs ∧ Sorted ys ∧ σ' = St.none.set l (.row 49 5 (ys.map ND.c ++ ex))) := by
  rcases Nat.eq_zero_or_pos xs.length with h | h
  · have : xs = [] := List.eq_nil_of_length_eq_zero h
    subst this
    exact (sort_nil l ex).mono fun r σ' ⟨h1, h2⟩ => ⟨h1, [], .refl _, List.Pairwise.nil, h2⟩
  · exact sort_pos l xs hx h ex
end Go.Proofs.Ytielcgplbnlgbaa
end

section
/- slices.SortFunc, as the logic says it: elements of one cell that may point into memory (rows of rows). -/
set_option linter.unusedVariables false
set_option linter.unusedSimpArgs false
namespace Go.Proofs.Ytielcgplbnlgbaa
open Go.Shelf Go.Sort

theorem swo_pull {X A : Type} {cf : X → X → Int} (h : SWO (ltOf cf)) (f : A → X) : SWO (ltOf fun x y : A => cf (f x) (f y)) where
  irrefl x := h.irrefl (f x)
  trans x y z := h.trans (f x) (f y) (f z)
  ntrans x y z := h.ntrans (f x) (f y) (f z)

theorem sort_any1 {X : Type} {P : Program} {ρ : Ren} (L : SlLaysF.n6 P ρ) (encM : X → MV) (hM : ∀ x, (encM x).isCell = true) (cf : X → X → Int) (hO : SWO (ltOf cf)) (g : Nat)
    (hg : ∀ x y, MCalls P g [encM x, encM y] St.none fun r _ => r = .int .i64 (cf x y)) (eg : ∀ args w, (callFunc g args).run P w = .ok (.enter g args) w)
    (hent : Enters P (ρ.f 6)) (l : Nat) (t : TypeId) (xs : List X) (ex : List (List MV)) (hn : 0 < xs.length) (hsz : xs.length < 4611686018427387904) :
    MCalls P (ρ.f 6) [.vec 1 l 0 xs.length, .fn (.func g) [] []] (St.none.set l (.row t 1 (xs.map (fun x => [encM x]) ++ ex))) fun r σ' =>
      r = .tup [] ∧ ∃ ys : List X, ys.Perm xs ∧ ys.Pairwise (fun a b => ltOf cf b a = false) ∧ σ' = St.none.set l (.row t 1 (ys.map (fun x => [encM x]) ++ ex)) := by
  refine ⟨hent, fun Φ w vs hi hr => ?_⟩
  obtain ⟨a, cap, p, e0, hpo, hpe, hcap, hncap, hblk⟩ := (hr.2 0 _ rfl).inv_vec
  obtain ⟨first, capv, e1, r1, r2⟩ := (hr.2 1 _ rfl).inv_fn
  have hf0 : first = #[] := by have := r1.1; simp at this; exact this
  have hc0 : capv = #[] := by have := r2.1; simp at this; exact this
  subst hf0 hc0
  have hvs : vs = #[.slice a xs.length cap, .func (.func g) #[] #[]] := by
    have h2 := hr.1
    simp at h2
    refine Array.ext (by simpa using h2) fun i q1 q2 => ?_
    match i, q1, q2 with
    | 0, q1, _ => have := e0; simp [Array.getD, q1] at this; exact this
    | 1, q1, _ => have := e1; simp [Array.getD, q1] at this; exact this
  obtain ⟨p', hp', hpe', hlen, hmax, hx, hmatch⟩ := hi.own l _ (set_hit _ _ _)
  rw [hpo] at hp'
  cases hp'
  rcases hblk with ⟨R, hR, ha⟩ | hc0
  · rw [hR] at hmatch
    obtain ⟨c, fz, hheap, hfz, hfit, hcell⟩ := hmatch
    simp only [Nat.zero_mul, Nat.add_zero] at ha
    subst ha
    have hRlt : R < w.heap.size := by
      obtain ⟨q, _⟩ := Array.getElem?_eq_some_iff.1 hheap; exact q
    have hRp : p.blk = some R := hR
    have hxs : ∀ i (h : i < xs.length), ∃ v, c[p.bo + i]? = some v ∧ Rel Φ v (encM xs[i]) := fun i h => by
      have h1 : (xs.map (fun x => [encM x]) ++ ex)[i]? = some [encM xs[i]] := by
        rw [List.getElem?_append_left (by simpa using h), List.getElem?_map, List.getElem?_eq_getElem h]; rfl
      obtain ⟨_, v, hv, hrel⟩ := hcell i _ 0 _ h1 rfl
      exact ⟨v, by simpa using hv, hrel⟩
    let A : Type := {q : Value × X // Rel Φ q.1 (encM q.2)}
    let el : _root_.Fin xs.length → A := fun i => ⟨((hxs i.1 i.2).choose, xs[i.1]), (hxs i.1 i.2).choose_spec.2⟩
    letI : Inhabited A := ⟨el ⟨0, hn⟩⟩
    let enc : A → Value := fun q => q.1.1
    let d : Array A := Array.ofFn el
    have hds : d.size = xs.length := by simp [d]
    have hdi : ∀ i (h : i < xs.length), d[i]! = el ⟨i, h⟩ := fun i h => by
      rw [getElem!_pos d i (by rw [hds]; exact h)]; simp [d]
    have hdx : d.toList.map (fun q => q.1.2) = xs := by
      refine List.ext_getElem (by simp [d]) fun i h1 h2 => ?_
      simp [d, el]
    have hnk : p.bo + xs.length ≤ c.size := by
      have : xs.length ≤ p.C := by have := hlen; simp at this; omega
      omega
    have hH : Holds enc w R p.bo d := fun i h => by
      have h' : i < xs.length := by rwa [hds] at h
      refine ⟨?_, ?_⟩
      · rw [hdi i h']
        show w.cell? _ = some (hxs i h').choose
        rw [← (hxs i h').choose_spec.1]
        simp only [World.cell?, hheap]
        rfl
      · simp only [World.frozen?, hheap]
        rcases hfz with h | h
        · simp; omega
        · simp; omega
    have hWo : ∀ (dk : Array A) q, q ≠ R → (putRow enc w R p.bo dk).heap[q]? = w.heap[q]? := fun dk q hq => by
      show (w.heap.modify R _)[q]? = _
      rw [Array.getElem?_modify, if_neg (Ne.symm hq)]
    have hWs : ∀ (m : Nat) (os : Array Obj) (dk : Array A) q, q < w.heap.size → (sortWorld enc w R p.bo m dk os).heap[q]? = (putRow enc w R p.bo dk).heap[q]? := fun m os dk q hq => by
      show ((putRow enc w R p.bo dk).heap ++ os)[q]? = _
      rw [Array.getElem?_append_left (by simpa [putRow, mapBlock] using hq)]
    have hinv : ∀ (m : Nat) (os : Array Obj) (dk : Array A), Inv Φ (sortWorld enc w R p.bo m dk os) St.none := fun m os dk => by
      refine ⟨fun l o h => by simp [St.none] at h, fun l l' o o' p p' R h => by simp [St.none] at h, fun a v h => ?_, fun l o p R a v h => by simp [St.none] at h, hi.fresh⟩
      have h1 := hi.snap a v h
      have h2 := hi.apart _ _ _ _ a v (set_hit _ _ _) hpo hRp h
      have hlt := World.block_lt_of_cell? w a h1
      rw [World.cell?_heap ((hWs m os dk a.block hlt).trans (hWo dk a.block h2))]
      exact h1
    have hcmp : CmpLays1 P g #[] enc (fun x y : A => cf x.1.2 y.1.2) R p.bo d.size w := fun m os dk hs x y => by
      refine ((hg x.1.2 y.1.2).2 Φ (sortWorld enc w R p.bo m dk os) _ (hinv m os dk) (?_ : Rels _ (#[enc x, enc y] ++ #[]) _)).mono ?_
      · refine ⟨by simp, fun i m hm => ?_⟩
        match i, hm with
        | 0, hm => simp at hm; subst hm; exact x.2
        | 1, hm => simp at hm; subst hm; exact y.2
      · rintro e w' ⟨v, mv, σ', Φ', he, hv, hi', hst, rfl⟩
        cases hv
        exact ⟨he, step_grow hst⟩
    have key := Any.slices_SortFunc L enc (fun x : A => x.2.oneCell (hM _)) _ (swo_pull hO fun x : A => x.1.2) g #[] R p.bo cap d w eg hcmp hH hRlt (by rw [hds]; exact hsz)
    subst hvs
    rw [← hds]
    refine key.mono ?_
    rintro e W' ⟨rfl, d', m, os, hperm, hsort, rfl⟩
    obtain ⟨hsz', _, hpm⟩ := hperm
    have hds' : d'.size = xs.length := by rw [hsz', hds]
    have hpm' : (d'.toList.map fun q : A => q.1.2).Perm xs := by
      have e1 : d'.extract 0 d.size = d' := by rw [← hsz']; simp
      have e2 : d.extract 0 d.size = d := by simp
      rw [e1, e2] at hpm
      rw [← hdx]
      exact hpm.map _
    let c' : Array Value := putCells enc p.bo d' c
    have hc's : c'.size = c.size := by simp [c', putCells]
    have hc'in : ∀ i, i < xs.length → c'[p.bo + i]? = some (enc d'[i]!) := fun i hi => by
      have hcs : p.bo + i < c.size := by omega
      simp only [c', putCells, Array.getElem?_mapIdx, Array.getElem?_eq_getElem hcs, Option.map_some]
      rw [if_pos (by omega), Nat.add_sub_cancel_left]
    have hc'out : ∀ q, p.bo + xs.length ≤ q → c'[q]? = c[q]? := fun q hq => by
      simp only [c', putCells, Array.getElem?_mapIdx]
      cases hcq : c[q]? with
      | none => rfl
      | some v => simp only [Option.map_some]; rw [if_neg (by omega)]
    have hW1 : (putRow enc w R p.bo d').heap[R]? = some (.cells c' t fz) := by
      show (w.heap.modify R _)[R]? = _
      rw [Array.getElem?_modify, if_pos rfl, hheap]
      rfl
    have hown : OwnOk Φ (putRow enc w R p.bo d') l (.row t 1 ((d'.toList.map fun q : A => q.1.2).map (fun x => [encM x]) ++ ex)) := by
      refine ⟨p, hpo, hpe', by simpa [hds'] using hlen, hmax, fun i x hx' => ?_, ?_⟩
      · by_cases hi : i < xs.length
        · rw [List.getElem?_append_left (by simpa [hds'] using hi), List.getElem?_map, Option.map_eq_some_iff] at hx'
          obtain ⟨y, _, rfl⟩ := hx'
          rfl
        · refine hx i x ?_
          rw [List.getElem?_append_right (by simp; omega)] at hx' ⊢
          simpa [hds'] using hx'
      · rw [hRp]
        refine ⟨c', fz, hW1, by rw [hc's]; exact hfz, by rw [hc's]; exact hfit, fun i x j m' hx' hm' => ?_⟩
        by_cases hi : i < xs.length
        · have hid : i < d'.size := by omega
          rw [List.getElem?_append_left (by simpa [hds'] using hi), List.getElem?_map, List.getElem?_map, Array.getElem?_toList, Array.getElem?_eq_getElem hid] at hx'
          simp only [Option.map_some, Option.some.injEq] at hx'
          subst hx'
          match j, hm' with
          | 0, hm' =>
            simp at hm'
            subst hm'
            refine ⟨hM _, _, by simpa using hc'in i hi, ?_⟩
            rw [getElem!_pos d' i hid]
            exact (d'[i]).2
        · have hx2 : (xs.map (fun x => [encM x]) ++ ex)[i]? = some x := by
            rw [List.getElem?_append_right (by simp; omega)] at hx' ⊢
            simpa [hds'] using hx'
          obtain ⟨q1, v, q2, q3⟩ := hcell i x j m' hx2 hm'
          refine ⟨q1, v, ?_, q3⟩
          rw [hc'out _ (by omega)]
          exact q2
    obtain ⟨i1, s1⟩ := hi.turn (w' := putRow enc w R p.bo d') l (set_hit _ _ _) (.row t 1 ((d'.toList.map fun q : A => q.1.2).map (fun x => [encM x]) ++ ex)) hpo hRp (by simp [putRow, mapBlock]) (fun q hq => hWo d' q hq) rfl rfl rfl (Nat.le_refl _) hown
    rw [set_set] at i1 s1
    obtain ⟨i2, s2⟩ := i1.grown (w' := sortWorld enc w R p.bo m d' os) rfl rfl rfl (by show w.drawn ≤ w.drawn + m; omega) (by show _ ≤ ((putRow enc w R p.bo d').heap ++ os).size; simp) (fun q hq => by
      show ((putRow enc w R p.bo d').heap ++ os)[q]? = _
      rw [Array.getElem?_append_left hq])
    refine ⟨.tuple #[], .tup [], _, Φ, rfl, .tup rfl (fun i m h => by simp at h), i2, s1.trans s2, rfl, _, hpm', ?_, rfl⟩
    refine List.pairwise_map.2 (List.pairwise_iff_getElem.2 fun i j hi hj hij => ?_)
    have := hsort i j (Nat.zero_le _) hij (by rw [← hsz']; simpa using hj)
    rw [getElem!_pos _ _ (by simpa using hj), getElem!_pos _ _ (by simpa using hi)] at this
    simpa [ltOf] using this
  · omega
end Go.Proofs.Ytielcgplbnlgbaa
end

section
/- Layings of the library's functions in this translation, as the kit's own tool (lay-plain.mjs) prints them: no condition. -/
set_option linter.unusedVariables false
namespace Go.Proofs.Ytielcgplbnlgbaa
open Go.Shelf
def lay_sortNN_ren : Go.Shelf.Ren := ⟨fun | 6 => 94 | 15 => 63 | 14 => 109 | 28 => 91 | 29 => 92 | 20 => 113 | 21 => 114 | 22 => 115 | 23 => 116 | 24 => 117 | 25 => 118 | 26 => 119 | 27 => 120 | 46 => 121 | 47 => 104 | 48 => 105 | 49 => 122 | 50 => 123 | 57 => 124 | n => n, fun | 22 => 45 | 24 => 22 | 25 => 51 | 3 => 3 | 39 => 75 | 0 => 0 | 53 => 30 | 55 => 52 | 4 => 4 | 46 => 91 | 45 => 90 | 50 => 76 | 5 => 5 | 9 => 9 | 66 => 114 | 70 => 118 | 76 => 123 | 77 => 124 | n => n, fun | n => n⟩
theorem lay_sortNN : Go.Proofs.SlLaysF.n6 Try.prog lay_sortNN_ren := {
  mixed := by kernel_rfl
  f6 := ⟨Try.f94.name, by decide, Try.func94.trans (congrArg some (by kernel_rfl))⟩
  f14 := ⟨Try.f109.name, by decide, Try.func109.trans (congrArg some (by kernel_rfl))⟩
  f15 := Try.func63.trans (congrArg some (by kernel_rfl))
  f20 := ⟨Try.f113.name, by decide, Try.func113.trans (congrArg some (by kernel_rfl))⟩
  f21 := ⟨Try.f114.name, by decide, Try.func114.trans (congrArg some (by kernel_rfl))⟩
  f22 := ⟨Try.f115.name, by decide, Try.func115.trans (congrArg some (by kernel_rfl))⟩
  f23 := ⟨Try.f116.name, by decide, Try.func116.trans (congrArg some (by kernel_rfl))⟩
  f24 := ⟨Try.f117.name, by decide, Try.func117.trans (congrArg some (by kernel_rfl))⟩
  f25 := ⟨Try.f118.name, by decide, Try.func118.trans (congrArg some (by kernel_rfl))⟩
  f26 := ⟨Try.f119.name, by decide, Try.func119.trans (congrArg some (by kernel_rfl))⟩
  f27 := ⟨Try.f120.name, by decide, Try.func120.trans (congrArg some (by kernel_rfl))⟩
  f28 := Try.func91.trans (congrArg some (by kernel_rfl))
  f29 := Try.func92.trans (congrArg some (by kernel_rfl))
  f46 := ⟨Try.f121.name, by decide, Try.func121.trans (congrArg some (by kernel_rfl))⟩
  f47 := Try.func104.trans (congrArg some (by kernel_rfl))
  f48 := Try.func105.trans (congrArg some (by kernel_rfl))
  f49 := ⟨Try.f122.name, by decide, Try.func122.trans (congrArg some (by kernel_rfl))⟩
  f50 := ⟨Try.f123.name, by decide, Try.func123.trans (congrArg some (by kernel_rfl))⟩
  f57 := ⟨Try.f124.name, by decide, Try.func124.trans (congrArg some (by kernel_rfl))⟩
  t0 := Try.underlying0
  a0 := Try.isAgg0
  z0 := Try.sizeOf0
  v0 := Try.zeroValue0
  t3 := Try.underlying3
  a3 := Try.isAgg3
  z3 := Try.sizeOf3
  v3 := Try.zeroValue3
  t4 := Try.underlying4
  a4 := Try.isAgg4
  z4 := Try.sizeOf4
  v4 := Try.zeroValue4
  t5 := Try.underlying5
  a5 := Try.isAgg5
  z5 := Try.sizeOf5
  v5 := Try.zeroValue5
  t9 := Try.underlying9
  a9 := Try.isAgg9
  z9 := Try.sizeOf9
  v9 := Try.zeroValue9
  t22 := Try.underlying45
  a22 := Try.isAgg45
  z22 := Try.sizeOf45
  v22 := Try.zeroValue45
  a24 := Try.isAgg22
  z24 := Try.sizeOf22
  t25 := Try.underlying51
  a25 := Try.isAgg51
  z25 := Try.sizeOf51
  v25 := Try.zeroValue51
  t39 := Try.underlying75
  a39 := Try.isAgg75
  z39 := Try.sizeOf75
  v39 := Try.zeroValue75
  t45 := Try.underlying90
  a45 := Try.isAgg90
  z45 := Try.sizeOf90
  v45 := Try.zeroValue90
  t46 := Try.underlying91
  a46 := Try.isAgg91
  z46 := Try.sizeOf91
  v46 := Try.zeroValue91
  t50 := Try.underlying76
  a50 := Try.isAgg76
  z50 := Try.sizeOf76
  v50 := Try.zeroValue76
  t53 := Try.underlying30
  a53 := Try.isAgg30
  z53 := Try.sizeOf30
  v53 := Try.zeroValue30
  t55 := Try.underlying52
  a55 := Try.isAgg52
  z55 := Try.sizeOf52
  v55 := Try.zeroValue52
  t66 := Try.underlying114
  a66 := Try.isAgg114
  z66 := Try.sizeOf114
  v66 := Try.zeroValue114
  t70 := Try.underlying118
  a70 := Try.isAgg118
  z70 := Try.sizeOf118
  v70 := Try.zeroValue118
  t76 := Try.underlying123
  a76 := Try.isAgg123
  z76 := Try.sizeOf123
  v76 := Try.zeroValue123
  t77 := Try.underlying124
  a77 := Try.isAgg124
  z77 := Try.sizeOf124
  v77 := Try.zeroValue124 }
end Go.Proofs.Ytielcgplbnlgbaa
end

section
/- Contract of slices.SortFunc at filters: the conditions that the theorem names. -/
set_option linter.unusedVariables false
set_option linter.unusedSimpArgs false
namespace Go.Proofs.Ytielcgplbnlgbaa
open Go.Shelf Go.Sort

theorem lift_sub {α : Type} {p : α → Prop} : ∀ (l : List α), (∀ x, x ∈ l → p x) → ∃ m : List {x // p x}, m.map Subtype.val = l
  | [], _ => ⟨[], rfl⟩
  | x :: l, h => by
    obtain ⟨m, hm⟩ := lift_sub l fun y hy => h y (List.mem_cons_of_mem _ hy)
    exact ⟨⟨x, h x (List.mem_cons_self ..)⟩ :: m, by rw [List.map_cons, hm]⟩

theorem ltF (x y : List ND) : ltOf (fun x y : List ND => ordI (cmpF x y)) x y = decide (cmpF x y = .lt) := by
  have e : (ordI (cmpF x y) < 0) ↔ cmpF x y = .lt := by
    cases cmpF x y <;> simp [ordI]
  unfold ltOf
  simp only [e]

theorem swoF : SWO (ltOf fun x y : List ND => ordI (cmpF x y)) where
  irrefl x := by rw [ltF, cmpF_eq.2 rfl]; rfl
  trans x y z h1 h2 := by rw [ltF] at *; simp only [decide_eq_true_eq] at *; exact cmpF_trans h1 h2
  ntrans x y z h1 h2 := by
    rw [ltF] at *
    simp only [decide_eq_false_iff_not] at *
    intro h3
    rcases h : cmpF z y with _ | _ | _
    · exact h1 (cmpF_trans h3 h)
    · rw [cmpF_eq] at h; subst h; exact h1 h3
    · rw [cmpF_swap] at h
      refine h2 ?_
      cases hh : cmpF y z <;> simp_all

theorem sortNN_pos (l : Nat) (ts : List T) (hb : ∀ t, t ∈ ts → t.fl.length ≤ 1000000) (hx : ts.length ≤ 1000000) (h0 : 0 < ts.length) (ex : List (List MV)) :
    MCalls Try.prog 94 [.vec 1 l 0 ts.length, .fn (.func 49) [] []] (St.none.set l (.row 22 1 (ts.map tcell ++ ex)))
      (fun r σ' => r = .tup [] ∧ ∃ ys : List T, ys.Perm ts ∧ ys.Pairwise (fun a b => cmpF b.fl a.fl ≠ .lt) ∧ σ' = St.none.set l (.row 22 1 (ys.map tcell ++ ex))) := by
  obtain ⟨xs, rfl⟩ := lift_sub ts hb
  have h := sort_any1 (P := Try.prog) (ρ := lay_sortNN_ren) lay_sortNN (fun x : {t : T // t.fl.length ≤ 1000000} => MV.lst 5 (x.1.fl.map ND.c) false) (fun _ => rfl) (fun x y => ordI (cmpF x.1.fl y.1.fl)) (swo_pull swoF fun x : {t : T // t.fl.length ≤ 1000000} => x.1.fl) 49
    (fun x y => pcompare_call _ _ x.2 y.2 false false) (enters_of Try.func49 (by kernel_rfl) rfl) ⟨_, Try.func94, rfl, by kernel_rfl⟩ l 22 xs ex (by simpa using h0) (by have := hx; simp at this; omega)
  rw [List.length_map, List.map_map]
  refine MCalls.mono h fun r σ' ⟨h1, ys, h2, h3, h4⟩ => ⟨h1, ys.map Subtype.val, h2.map _, ?_, by rw [List.map_map]; exact h4⟩
  refine List.pairwise_map.2 (h3.imp fun {a b} h => ?_)
  have := ltF b.1.fl a.1.fl
  simp only [ltOf] at this h
  rw [h] at this
  simpa using this.symm
end Go.Proofs.Ytielcgplbnlgbaa
end

section
/- Contracts of joined's closure, and of slices.SortFunc at no filters: the conditions that the theorems name. -/
set_option linter.unusedVariables false
set_option linter.unusedSimpArgs false
namespace Go.Proofs.Ytielcgplbnlgbaa

theorem joined1_call (a b : List ND) (la : a.length ≤ 1000000) (lb : b.length ≤ 1000000) (ta tb : Bool) : MCalls Try.prog 96 [.lst 5 (a.map ND.c) ta, .lst 5 (b.map ND.c) tb] St.none (fun r _ => r = .bool (decide (a = b))) := by
  refine (MCalls.body 9 [.tmp 4] Try.func96 rfl rfl rfl rfl ?_)
  have h := pcompare_call a b la lb ta tb
  have e : (ordI (cmpF a b) = 0) ↔ a = b := by rw [ordI_zero, cmpF_eq]
  repeat' (first | (with_reducible first | refine up h ?_) | (with_reducible first | (refine wT ?_; refine wN fun _ hnl => ?_; revert hnl; (repeat refine wS fun _ _ => ?_); intro hnl) | refine wD (by decide +kernel) ?_ | refine wI (fun h => ?_) fun h => ?_ | refine wF (fun h => ?_) fun h => ?_ | refine wG (fun h => ?_) fun h => ?_ | refine wH (fun h => ?_) fun h => ?_ | ((first | refine mfork_bool (fun h => ?_) fun h => ?_ | refine mgfork_bool (fun h => ?_) fun h => ?_) <;> simp only [h])) | simp (maxSteps := 4000000) (disch := first | decide | assumption | omega | (simp only [wL]; omega)) only [go_sem, simprocAttr, Try.f96])
  simp only [e]

theorem insNN_nil : MCalls Try.prog 113 [.nils, .int .i64 0, .int .i64 0, .fn (.func 49) [] []] St.none (fun r σ' => r = .tup [] ∧ σ' = St.none) := by
  refine (MCalls.body 53 [] Try.func113 rfl rfl rfl rfl ?_)
  repeat' (first | (with_reducible first | (refine wT ?_; refine wN fun _ hnl => ?_; revert hnl; (repeat refine wS fun _ _ => ?_); intro hnl) | refine wD (by decide +kernel) ?_ | refine wI (fun h => ?_) fun h => ?_ | refine wF (fun h => ?_) fun h => ?_ | refine wG (fun h => ?_) fun h => ?_ | refine wH (fun h => ?_) fun h => ?_ | ((first | refine mfork_bool (fun h => ?_) fun h => ?_ | refine mgfork_bool (fun h => ?_) fun h => ?_) <;> simp only [h])) | simp (maxSteps := 4000000) (disch := first | decide | assumption | omega | (simp only [wL]; omega)) only [go_sem, simprocAttr, Try.f113])
  refine mloop_intro (α := Unit) (fun _ => ⟨53, [(8, .int .i64 1), (0, .nils), (1, .int .i64 0), (2, .int .i64 0), (3, .fn (.func 49) [] [])], []⟩) (fun _ => St.none) (fun _ => True) (fun _ => 0) (.of (.less ?_ (St.le_refl _)) ⟨(), rfl, rfl, trivial⟩) ?_
  · simp (maxSteps := 4000000) (disch := first | decide | assumption | omega | (simp only [wL]; omega)) only [go_sem, simprocAttr, weak_int, weak_same]
  · intro _ _
    repeat' (first | (with_reducible first | (refine wT ?_; refine wN fun _ hnl => ?_; revert hnl; (repeat refine wS fun _ _ => ?_); intro hnl) | refine wD (by decide +kernel) ?_ | refine wI (fun h => ?_) fun h => ?_ | refine wF (fun h => ?_) fun h => ?_ | refine wG (fun h => ?_) fun h => ?_ | refine wH (fun h => ?_) fun h => ?_ | ((first | refine mfork_bool (fun h => ?_) fun h => ?_ | refine mgfork_bool (fun h => ?_) fun h => ?_) <;> simp only [h])) | simp (maxSteps := 4000000) (disch := first | decide | assumption | omega | (simp only [wL]; omega)) only [go_sem, simprocAttr])

theorem pdqNN_nil : MCalls Try.prog 109 [.nils, .int .i64 0, .int .i64 0, .int .i64 0, .fn (.func 49) [] []] St.none (fun r σ' => r = .tup [] ∧ σ' = St.none) := by
  refine (MCalls.body 148 [] Try.func109 rfl rfl rfl rfl ?_)
  repeat' (first | (with_reducible first | (refine wT ?_; refine wN fun _ hnl => ?_; revert hnl; (repeat refine wS fun _ _ => ?_); intro hnl) | refine wD (by decide +kernel) ?_ | refine wI (fun h => ?_) fun h => ?_ | refine wF (fun h => ?_) fun h => ?_ | refine wG (fun h => ?_) fun h => ?_ | refine wH (fun h => ?_) fun h => ?_ | ((first | refine mfork_bool (fun h => ?_) fun h => ?_ | refine mgfork_bool (fun h => ?_) fun h => ?_) <;> simp only [h])) | simp (maxSteps := 4000000) (disch := first | decide | assumption | omega | (simp only [wL]; omega)) only [go_sem, simprocAttr, Try.f109])
  refine mloop_intro (α := Unit) (fun _ => ⟨148, [(11, .bool true), (10, .bool true), (0, .nils), (1, .int .i64 0), (2, .int .i64 0), (3, .int .i64 0), (4, .fn (.func 49) [] [])], []⟩) (fun _ => St.none) (fun _ => True) (fun _ => 0) (.of (.less ?_ (St.le_refl _)) ⟨(), rfl, rfl, trivial⟩) ?_
  · simp (maxSteps := 4000000) (disch := first | decide | assumption | omega | (simp only [wL]; omega)) only [go_sem, simprocAttr, weak_int, weak_same]
  · intro _ _
    repeat' (first | (with_reducible refine use_same insNN_nil (St.le_refl _) ?_) | (with_reducible first | (refine wT ?_; refine wN fun _ hnl => ?_; revert hnl; (repeat refine wS fun _ _ => ?_); intro hnl) | refine wD (by decide +kernel) ?_ | refine wI (fun h => ?_) fun h => ?_ | refine wF (fun h => ?_) fun h => ?_ | refine wG (fun h => ?_) fun h => ?_ | refine wH (fun h => ?_) fun h => ?_ | ((first | refine mfork_bool (fun h => ?_) fun h => ?_ | refine mgfork_bool (fun h => ?_) fun h => ?_) <;> simp only [h])) | simp (maxSteps := 4000000) (disch := first | decide | assumption | omega | (simp only [wL]; omega)) only [go_sem, simprocAttr])

theorem sortNN_nil : MCalls Try.prog 94 [.nils, .fn (.func 49) [] []] St.none (fun r σ' => r = .tup [] ∧ σ' = St.none) := by
  refine (MCalls.body 14 [] Try.func94 rfl rfl rfl rfl ?_)
  have hb := bitslen_call 0 (by omega)
  rw [show Lib.bitLen 0 = 0 by decide] at hb
  repeat' (first | (with_reducible first | refine up hb ?_) | (with_reducible first | (refine wT ?_; refine wN fun _ hnl => ?_; revert hnl; (repeat refine wS fun _ _ => ?_); intro hnl) | refine wD (by decide +kernel) ?_ | refine wI (fun h => ?_) fun h => ?_ | refine wF (fun h => ?_) fun h => ?_ | refine wG (fun h => ?_) fun h => ?_ | refine wH (fun h => ?_) fun h => ?_ | ((first | refine mfork_bool (fun h => ?_) fun h => ?_ | refine mgfork_bool (fun h => ?_) fun h => ?_) <;> simp only [h])) | simp (maxSteps := 4000000) (disch := first | decide | assumption | omega | (simp only [wL]; omega)) only [go_sem, simprocAttr, Try.f94])
  refine use_same pdqNN_nil (St.le_refl _) ?_
  repeat' (first | (with_reducible first | (refine wT ?_; refine wN fun _ hnl => ?_; revert hnl; (repeat refine wS fun _ _ => ?_); intro hnl) | refine wD (by decide +kernel) ?_ | refine wI (fun h => ?_) fun h => ?_ | refine wF (fun h => ?_) fun h => ?_ | refine wG (fun h => ?_) fun h => ?_ | refine wH (fun h => ?_) fun h => ?_ | ((first | refine mfork_bool (fun h => ?_) fun h => ?_ | refine mgfork_bool (fun h => ?_) fun h => ?_) <;> simp only [h])) | simp (maxSteps := 4000000) (disch := first | decide | assumption | omega | (simp only [wL]; omega)) only [go_sem, simprocAttr])
end Go.Proofs.Ytielcgplbnlgbaa
end

section
/- Contract of slices.CompactFunc at filters: the conditions that the theorem names. -/
set_option linter.unusedVariables false
set_option linter.unusedSimpArgs false
namespace Go.Proofs.Ytielcgplbnlgbaa

def compF : List (List ND) → List (List ND)
  | [] => []
  | [x] => [x]
  | x :: y :: r => if y = x then compF (x :: r) else x :: compF (y :: r)

theorem compF_snoc : ∀ (n : Nat) (l : List (List ND)), l.length ≤ n → ∀ y x, compF (l ++ [y, x]) = if x = y then compF (l ++ [y]) else compF (l ++ [y]) ++ [x]
  | _, [], _, y, x => by
    simp only [List.nil_append, compF]
    split <;> rfl
  | n, [z], _, y, x => by
    by_cases h1 : y = z <;> by_cases h2 : x = y
    · subst h1 h2; simp [compF]
    · subst h1; simp [compF, h2]
    · subst h2; simp [compF, h1]
    · simp [compF, h1, h2]
  | 0, _ :: _ :: _, h, _, _ => by simp at h
  | n + 1, z :: w :: r, h, y, x => by
    simp only [List.length_cons] at h
    have e1 := compF_snoc n (z :: r) (by simp; omega) y x
    have e2 := compF_snoc n (w :: r) (by simp; omega) y x
    simp only [List.cons_append] at e1 e2 ⊢
    by_cases hwz : w = z
    · have a : ∀ t, compF (z :: w :: t) = compF (z :: t) := fun t => by rw [compF, if_pos hwz]
      rw [a, a, e1]
    · have a : ∀ t, compF (z :: w :: t) = z :: compF (w :: t) := fun t => by rw [compF, if_neg hwz]
      rw [a, a, e2]
      split <;> simp

theorem comp_stepF {xs : List (List ND)} {j : Nat} (h0 : 0 < j) (h : j < xs.length) : compF (xs.take (j + 1)) = if xs.getD j [] = xs.getD (j - 1) [] then compF (xs.take j) else compF (xs.take j) ++ [xs.getD j []] := by
  obtain ⟨i, rfl⟩ : ∃ i, j = i + 1 := ⟨j - 1, by omega⟩
  have e1 : xs.take (i + 1) = xs.take i ++ [xs.getD i []] := by rw [List.take_succ_eq_append_getElem (by omega), getD_of_lt ([] : List ND) (by omega)]
  have e2 : xs.take (i + 1 + 1) = xs.take i ++ [xs.getD i [], xs.getD (i + 1) []] := by rw [List.take_succ_eq_append_getElem h, e1, getD_of_lt ([] : List ND) h]; simp
  rw [e2, e1, compF_snoc _ _ (Nat.le_refl _)]
  rfl

theorem drop_getF {A B : List (List ND)} {m j : Nat} (h : A.drop m = B.drop m) (hj : m ≤ j) : A.getD j [] = B.getD j [] := by
  have e : ∀ l : List (List ND), l.getD j [] = ((l.drop m)[j - m]?).getD [] := fun l => by
    rw [List.getElem?_drop, List.getD_eq_getElem?_getD, show m + (j - m) = j by omega]
  rw [e, e, h]

theorem take_set_succF {A : List (List ND)} {q : Nat} (h : q < A.length) (x : List ND) : (A.set q x).take (q + 1) = A.take q ++ [x] := by
  rw [List.take_succ_eq_append_getElem (by simpa using h), List.take_set, List.set_eq_of_length_le (by simp; omega)]
  simp

set_option maxHeartbeats 4000000 in
theorem compNN_call (l : Nat) (xs : List (List ND)) (hb : ∀ x, x ∈ xs → x.length ≤ 1000000) (hx : xs.length ≤ 1000000) (ex : List (List MV)) : MCalls Try.prog 95 [.vec 1 l 0 xs.length, .fn (.func 96) [] []] (St.none.set l (.row 22 1 (xs.map lcell ++ ex)))
    (fun r σ' => ∃ ex', r = .vec 1 l 0 (compF xs).length ∧ σ' = St.none.set l (.row 22 1 ((compF xs).map lcell ++ ex'))) := by
  refine (MCalls.body 66 [.tmp 4] Try.func95 rfl rfl rfl rfl ?_)
  by_cases h2 : xs.length < 2
  · have hc : compF xs = xs := by
      match xs, h2 with
      | [], _ => simp [compF]
      | [x], _ => simp [compF]
      | _ :: _ :: _, h2 => simp at h2; omega
    rw [hc]
    repeat' (first | (with_reducible first | (refine wT ?_; refine wN fun _ hnl => ?_; revert hnl; (repeat refine wS fun _ _ => ?_); intro hnl) | refine wD (by decide +kernel) ?_ | refine wI (fun h => ?_) fun h => ?_ | refine wF (fun h => ?_) fun h => ?_ | refine wG (fun h => ?_) fun h => ?_ | refine wH (fun h => ?_) fun h => ?_ | ((first | refine mfork_bool (fun h => ?_) fun h => ?_ | refine mgfork_bool (fun h => ?_) fun h => ?_) <;> simp only [h])) | simp (maxSteps := 4000000) (disch := first | decide | assumption | omega | (simp only [wL]; omega)) only [go_sem, simprocAttr, Try.f95])
    exact ⟨ex, rfl⟩
  · repeat' (first | (with_reducible first | (refine wT ?_; refine wN fun _ hnl => ?_; revert hnl; (repeat refine wS fun _ _ => ?_); intro hnl) | refine wD (by decide +kernel) ?_ | refine wI (fun h => ?_) fun h => ?_ | refine wF (fun h => ?_) fun h => ?_ | refine wG (fun h => ?_) fun h => ?_ | refine wH (fun h => ?_) fun h => ?_ | ((first | refine mfork_bool (fun h => ?_) fun h => ?_ | refine mgfork_bool (fun h => ?_) fun h => ?_) <;> simp only [h])) | simp (maxSteps := 4000000) (disch := first | decide | assumption | omega | (simp only [wL]; omega)) only [go_sem, simprocAttr, Try.f95])
    refine mloop_intro (α := Nat) (fun k => ⟨66, [(5, .int .i64 (k : Int)), (0, .vec 1 l 0 xs.length), (1, .fn (.func 96) [] [])], []⟩) (fun _ => St.none.set l (.row 22 1 (xs.map lcell ++ ex))) (fun k => 1 ≤ k ∧ k ≤ xs.length ∧ compF (xs.take k) = xs.take k) (fun k => xs.length - k) (.of (.less ?_ (St.le_refl _)) ⟨1, rfl, rfl, by omega, by omega, ?_⟩) ?_
    · simp (maxSteps := 4000000) (disch := first | decide | assumption | omega | (simp only [wL]; omega)) only [go_sem, simprocAttr, weak_int, weak_same]
      all_goals first | rfl | omega
    · match xs, h2 with
      | x :: _ :: _, _ => simp [compF]
      | [], h => simp at h
      | [_], h => simp at h
    · rintro k ⟨h3, h4, h5⟩
      by_cases hk : k < xs.length
      · have hk1 : ((k : Int) - 1).toNat = k - 1 := by omega
        have hcs := comp_stepF (xs := xs) (j := k) (by omega) hk
        by_cases he : xs.getD k [] = xs.getD (k - 1) []
        · rw [if_pos he] at hcs
          rw [h5] at hcs
          have hj := joined1_call (xs.getD k []) (xs.getD (k - 1) []) (hb _ (getD_mem [] hk)) (hb _ (getD_mem [] (by omega))) false false
          rw [decide_eq_true he] at hj
          repeat' (first | (with_reducible refine mdraw_know mixed (by decide +kernel) (fun g ms => if g = 96 then some ⟨[], fun v => v = .bool true, none⟩ else none) ?_) | (with_reducible refine know_pure rfl hj ?_) | (with_reducible first | (refine wT ?_; refine wN fun _ hnl => ?_; revert hnl; (repeat refine wS fun _ _ => ?_); intro hnl) | refine wD (by decide +kernel) ?_ | refine wI (fun h => ?_) fun h => ?_ | refine wF (fun h => ?_) fun h => ?_ | refine wG (fun h => ?_) fun h => ?_ | refine wH (fun h => ?_) fun h => ?_ | ((first | refine mfork_bool (fun h => ?_) fun h => ?_ | refine mgfork_bool (fun h => ?_) fun h => ?_) <;> simp only [h])) | simp (maxSteps := 4000000) (disch := first | decide | assumption | omega | (simp only [wL]; omega)) only [go_sem, simprocAttr, getD_mapd ([] : List ND), hk1])
          refine mloop_intro (α := Nat × Nat × List (List ND)) (fun a => ⟨66, [(5, .int .i64 (a.1 : Int)), (6, .vec 1 l k (xs.length - k)), (7, .int .i64 (a.2.1 : Int)), (0, .vec 1 l 0 xs.length), (1, .fn (.func 96) [] [])], []⟩) (fun a => St.none.set l (.row 22 1 (a.2.2.map lcell ++ ex)))
            (fun a => 1 ≤ a.2.1 ∧ a.2.1 ≤ xs.length - k ∧ a.2.2.length = xs.length ∧ a.1 < k + a.2.1 ∧ a.1 = (compF (xs.take (k + a.2.1))).length ∧ a.2.2.take a.1 = compF (xs.take (k + a.2.1)) ∧ a.2.2.drop (k + a.2.1 - 1) = xs.drop (k + a.2.1 - 1) ∧ ∀ x, x ∈ a.2.2 → x.length ≤ 1000000) (fun a => xs.length - k - a.2.1) ?_ ?_
          · refine .of (.less ?_ (St.le_refl _)) ⟨(k, 1, xs), rfl, rfl, by simp only; omega, by simp only; omega, rfl, by simp only; omega, ?_, ?_, rfl, hb⟩
            · simp (maxSteps := 4000000) (disch := first | decide | assumption | omega | (simp only [wL]; omega)) only [go_sem, simprocAttr, weak_int, weak_same]
              all_goals first | rfl | omega
            · simp only; rw [hcs, List.length_take]; omega
            · simp only; rw [hcs]
          · rintro ⟨q, k2, A⟩ ⟨g1, g2, g3, g4, g5, g6, g7, g8⟩
            simp only at g1 g2 g3 g4 g5 g6 g7 g8 ⊢
            by_cases hk2 : k2 < xs.length - k
            · have hk21 : ((k2 : Int) - 1).toNat = k2 - 1 := by omega
              have hcs2 := comp_stepF (xs := xs) (j := k + k2) (by omega) (by omega)
              have v1 := drop_getF g7 (show k + k2 - 1 ≤ k + k2 by omega)
              have v2 := drop_getF g7 (show k + k2 - 1 ≤ k + (k2 - 1) by omega)
              have v3 : k + k2 - 1 = k + (k2 - 1) := by omega
              have hd : A.drop (k + k2) = xs.drop (k + k2) := by
                have := congrArg (List.drop 1) g7
                rw [List.drop_drop, List.drop_drop, show k + k2 - 1 + 1 = k + k2 by omega] at this
                exact this
              rw [v3, ← v1, ← v2] at hcs2
              have hq : q < A.length := by omega
              have hj := joined1_call (A.getD (k + k2) []) (A.getD (k + (k2 - 1)) []) (g8 _ (getD_mem [] (by omega))) (g8 _ (getD_mem [] (by omega))) false false
              repeat' (first | (with_reducible refine mdraw_know mixed (by decide +kernel) (fun g ms => if g = 96 then some ⟨[], fun v => v = .bool (decide (A.getD (k + k2) [] = A.getD (k + (k2 - 1)) [])), none⟩ else none) ?_) | (with_reducible refine know_pure rfl hj ?_) | (with_reducible first | (refine wT ?_; refine wN fun _ hnl => ?_; revert hnl; (repeat refine wS fun _ _ => ?_); intro hnl) | refine wD (by decide +kernel) ?_ | refine wI (fun h => ?_) fun h => ?_ | refine wF (fun h => ?_) fun h => ?_ | refine wG (fun h => ?_) fun h => ?_ | refine wH (fun h => ?_) fun h => ?_ | ((first | refine mfork_bool (fun h => ?_) fun h => ?_ | refine mgfork_bool (fun h => ?_) fun h => ?_) <;> simp only [h])) | simp (maxSteps := 4000000) (disch := first | decide | assumption | omega | (simp only [wL]; omega)) only [go_sem, simprocAttr, getD_mapd ([] : List ND), hk21])
              · have hne : ¬ A.getD (k + k2) [] = A.getD (k + (k2 - 1)) [] := h
                rw [if_neg hne] at hcs2
                refine .of (.less (l1 := [(5, .int .i64 ((q + 1 : Nat) : Int)), (6, .vec 1 l k (xs.length - k)), (7, .int .i64 ((k2 + 1 : Nat) : Int)), (0, .vec 1 l 0 xs.length), (1, .fn (.func 96) [] [])]) (σ1 := St.none.set l (.row 22 1 ((A.set q (A.getD (k + k2) [])).map lcell ++ ex))) ?_ (St.set_le (St.none_le _) ((set_hit _ _ _).trans ?_)))
                  ⟨(q + 1, k2 + 1, A.set q (A.getD (k + k2) [])), rfl, rfl, ⟨by simp only; omega, by simp only; omega, by simpa using g3, by simp only; omega, ?_, ?_, ?_, fun y hy => (List.mem_or_eq_of_mem_set hy).elim (g8 y) fun e => e ▸ g8 _ (getD_mem [] (by omega))⟩, by simp only; omega⟩
                · simp (maxSteps := 4000000) (disch := first | decide | assumption | omega | (simp only [wL]; omega)) only [go_sem, simprocAttr, weak_int, weak_same]
                  all_goals omega
                · show some (MObj.row 22 1 ((A.map lcell ++ ex).set q (lcell (A.getD (k + k2) [])))) = _
                  rw [List.set_append_left _ _ (by rw [List.length_map]; exact hq), ← List.map_set]
                · show q + 1 = (compF (xs.take (k + k2 + 1))).length
                  rw [hcs2, List.length_append, ← g5]; rfl
                · show (A.set q _).take (q + 1) = compF (xs.take (k + k2 + 1))
                  rw [take_set_succF hq, hcs2, g6]
                · show (A.set q _).drop (k + k2 + 1 - 1) = xs.drop (k + k2 + 1 - 1)
                  rw [Nat.add_sub_cancel, List.drop_set_of_lt g4, hd]
              · have heq := (Classical.not_not.1 h)
                rw [if_pos heq] at hcs2
                refine .of (.less (l1 := [(5, .int .i64 (q : Int)), (6, .vec 1 l k (xs.length - k)), (7, .int .i64 ((k2 + 1 : Nat) : Int)), (0, .vec 1 l 0 xs.length), (1, .fn (.func 96) [] [])]) ?_ (St.le_refl _))
                  ⟨(q, k2 + 1, A), rfl, rfl, ⟨by simp only; omega, by simp only; omega, g3, by simp only; omega, ?_, ?_, ?_, g8⟩, by simp only; omega⟩
                · simp (maxSteps := 4000000) (disch := first | decide | assumption | omega | (simp only [wL]; omega)) only [go_sem, simprocAttr, weak_int, weak_same]
                  all_goals omega
                · show q = (compF (xs.take (k + k2 + 1))).length
                  rw [hcs2, ← g5]
                · show A.take q = compF (xs.take (k + k2 + 1))
                  rw [hcs2, g6]
                · show A.drop (k + k2 + 1 - 1) = xs.drop (k + k2 + 1 - 1)
                  rw [Nat.add_sub_cancel, hd]
            · have : k2 = xs.length - k := by omega
              subst this
              rw [show k + (xs.length - k) = xs.length by omega, List.take_length] at g5 g6
              repeat' (first | (with_reducible first | (refine wT ?_; refine wN fun _ hnl => ?_; revert hnl; (repeat refine wS fun _ _ => ?_); intro hnl) | refine wD (by decide +kernel) ?_ | refine wI (fun h => ?_) fun h => ?_ | refine wF (fun h => ?_) fun h => ?_ | refine wG (fun h => ?_) fun h => ?_ | refine wH (fun h => ?_) fun h => ?_ | ((first | refine mfork_bool (fun h => ?_) fun h => ?_ | refine mgfork_bool (fun h => ?_) fun h => ?_) <;> simp only [h])) | simp (maxSteps := 4000000) (disch := first | decide | assumption | omega | (simp only [wL]; omega)) only [go_sem, simprocAttr])
              refine ⟨List.replicate (xs.length - q) [MV.nils] ++ List.drop (q + (List.replicate (xs.length - q) [MV.nils]).length) (A.map lcell ++ ex), by rw [g5], ?_⟩
              show St.none.set l (.row 22 1 (List.take q (A.map lcell ++ ex) ++ List.replicate (xs.length - q) [MV.nils] ++ List.drop (q + (List.replicate (xs.length - q) [MV.nils]).length) (A.map lcell ++ ex))) = _
              rw [List.append_assoc, List.take_append_of_le_length (by rw [List.length_map]; omega), ← List.map_take, g6]
        · rw [if_neg he, h5] at hcs
          have hj := joined1_call (xs.getD k []) (xs.getD (k - 1) []) (hb _ (getD_mem [] hk)) (hb _ (getD_mem [] (by omega))) false false
          rw [decide_eq_false he] at hj
          repeat' (first | (with_reducible refine mdraw_know mixed (by decide +kernel) (fun g ms => if g = 96 then some ⟨[], fun v => v = .bool false, none⟩ else none) ?_) | (with_reducible refine know_pure rfl hj ?_) | (with_reducible first | (refine wT ?_; refine wN fun _ hnl => ?_; revert hnl; (repeat refine wS fun _ _ => ?_); intro hnl) | refine wD (by decide +kernel) ?_ | refine wI (fun h => ?_) fun h => ?_ | refine wF (fun h => ?_) fun h => ?_ | refine wG (fun h => ?_) fun h => ?_ | refine wH (fun h => ?_) fun h => ?_ | ((first | refine mfork_bool (fun h => ?_) fun h => ?_ | refine mgfork_bool (fun h => ?_) fun h => ?_) <;> simp only [h])) | simp (maxSteps := 4000000) (disch := first | decide | assumption | omega | (simp only [wL]; omega)) only [go_sem, simprocAttr, getD_mapd ([] : List ND), hk1])
          refine .of (.less (l1 := [(5, .int .i64 ((k + 1 : Nat) : Int)), (0, .vec 1 l 0 xs.length), (1, .fn (.func 96) [] [])]) ?_ (St.le_refl _)) ⟨k + 1, rfl, rfl, ⟨by omega, by omega, ?_⟩, by omega⟩
          · simp (maxSteps := 4000000) (disch := first | decide | assumption | omega | (simp only [wL]; omega)) only [go_sem, simprocAttr, weak_int, weak_same]
            all_goals omega
          · rw [hcs, List.take_succ_eq_append_getElem hk, ← getD_of_lt ([] : List ND) hk]
      · have : k = xs.length := by omega
        subst this
        rw [List.take_length] at h5
        rw [h5]
        repeat' (first | (with_reducible first | (refine wT ?_; refine wN fun _ hnl => ?_; revert hnl; (repeat refine wS fun _ _ => ?_); intro hnl) | refine wD (by decide +kernel) ?_ | refine wI (fun h => ?_) fun h => ?_ | refine wF (fun h => ?_) fun h => ?_ | refine wG (fun h => ?_) fun h => ?_ | refine wH (fun h => ?_) fun h => ?_ | ((first | refine mfork_bool (fun h => ?_) fun h => ?_ | refine mgfork_bool (fun h => ?_) fun h => ?_) <;> simp only [h])) | simp (maxSteps := 4000000) (disch := first | decide | assumption | omega | (simp only [wL]; omega)) only [go_sem, simprocAttr])
        exact ⟨ex, rfl⟩
end Go.Proofs.Ytielcgplbnlgbaa
end

section
/- Sorted and compacted filters are the form's list: plain Lean. -/
set_option linter.unusedVariables false
set_option linter.unusedSimpArgs false
namespace Go.Proofs.Ytielcgplbnlgbaa

theorem comp_sorted : ∀ (n : Nat) (ys : List T), ys.length ≤ n → (∀ y, y ∈ ys → y.ok) → ys.Pairwise (fun a b => cmpF b.fl a.fl ≠ .lt) →
    ∃ zs : List T, compF (ys.map T.fl) = zs.map T.fl ∧ RisF zs ∧ ∀ z, z ∈ zs ↔ z ∈ ys
  | _, [], _, _, _ => ⟨[], by simp [compF], List.Pairwise.nil, fun _ => Iff.rfl⟩
  | _, [x], _, _, _ => ⟨[x], by simp [compF], List.pairwise_singleton _ _, fun _ => Iff.rfl⟩
  | 0, _ :: _ :: _, h, _, _ => by simp at h
  | n + 1, x :: y :: r, h, ho, hs => by
    simp only [List.length_cons] at h
    obtain ⟨h1, h2⟩ := List.pairwise_cons.1 hs
    obtain ⟨h3, h4⟩ := List.pairwise_cons.1 h2
    by_cases e : y.fl = x.fl
    · have e' : y = x := fl_eq (ho y (by simp)) (ho x (by simp)) e
      subst e'
      obtain ⟨zs, c1, c2, c3⟩ := comp_sorted n (y :: r) (by simp only [List.length_cons]; omega) (fun z hz => ho z (List.mem_cons_of_mem _ hz)) h2
      refine ⟨zs, ?_, c2, fun z => (c3 z).trans ?_⟩
      · rw [← c1]; simp [compF]
      · simp
    · obtain ⟨zs, c1, c2, c3⟩ := comp_sorted n (y :: r) (by simp only [List.length_cons]; omega) (fun z hz => ho z (List.mem_cons_of_mem _ hz)) h2
      have hxy : lessF x y := by
        cases hc : cmpF x.fl y.fl with
        | lt => exact hc
        | eq => exact absurd (cmpF_eq.1 hc).symm e
        | gt => exact absurd (cmpF_gt.1 hc) (h1 y (by simp))
      refine ⟨x :: zs, ?_, List.pairwise_cons.2 ⟨fun z hz => ?_, c2⟩, fun z => ?_⟩
      · show compF (x.fl :: y.fl :: r.map T.fl) = x.fl :: zs.map T.fl
        rw [← c1]; simp [compF, e]
      · rcases List.mem_cons.1 ((c3 z).1 hz) with rfl | hz
        · exact hxy
        · cases hc : cmpF y.fl z.fl with
          | lt => exact lessF_trans hxy hc
          | eq => unfold lessF; rw [← cmpF_eq.1 hc]; exact hxy
          | gt => exact absurd (cmpF_gt.1 hc) (h3 z hz)
      · rw [List.mem_cons, List.mem_cons, c3]

/-- What the program sorts and compacts is what the document sorts in. -/
theorem comp_sortT {ts ys : List T} (ho : ∀ y, y ∈ ts → y.ok) (hp : ys.Perm ts) (hs : ys.Pairwise (fun a b => cmpF b.fl a.fl ≠ .lt)) : compF (ys.map T.fl) = (sortT ts).map T.fl := by
  obtain ⟨zs, c1, c2, c3⟩ := comp_sorted ys.length ys (Nat.le_refl _) (fun y hy => ho y (hp.mem_iff.1 hy)) hs
  rw [c1, risF_unique c2 (sortT_rising ho) fun z => (c3 z).trans (hp.mem_iff.trans (mem_sortT ho).symm)]
end Go.Proofs.Ytielcgplbnlgbaa
end

section
/- The program's search for a filter and its opposite is the document's: plain Lean. -/
set_option linter.unusedVariables false
set_option linter.unusedSimpArgs false
namespace Go.Proofs.Ytielcgplbnlgbaa

theorem NF.not_root {x : T} (h : NF x) (e : x.root.op = 10) : ∃ z, x = .one (nd 10) (.leaf z) := by
  cases h with
  | cst op h => simp only [T.root, nd] at e; omega
  | atom z h0 h1 => simp only [T.root] at e; rw [e, parts_10] at h0; cases h0
  | nota x h0 h1 => exact ⟨x, rfl⟩
  | join op hop l h2 =>
    match l, h2 with
    | x :: y :: r, _ => simp only [foldO, T.root, nd] at e; omega
    | [], h2 => simp at h2
    | [_], h2 => simp at h2

theorem agst_search {l : List T} (h : ∀ y, y ∈ l → NF y) : agst l = l.any fun x => decide (x.root.op = 10) && l.any fun y => decide (y.fl = x.fl.drop 1) := by
  rw [Bool.eq_iff_iff]
  simp only [agst, List.any_eq_true, Bool.and_eq_true, decide_eq_true_eq]
  constructor
  · rintro ⟨a, ha, b, hb, h1, h2⟩
    refine ⟨b, hb, ?_, a, ha, ?_⟩
    · have := T.fl_kids b
      rw [h2] at this
      have := (List.cons.inj this).1
      rw [← this]; rfl
    · rw [h2]; rfl
  · rintro ⟨x, hx, h1, y, hy, h2⟩
    obtain ⟨z, rfl⟩ := (h x hx).not_root h1
    refine ⟨y, hy, _, hx, ?_, ?_⟩
    · rw [h2]; simp [T.fl]
    · rw [h2]; simp [T.fl]
end Go.Proofs.Ytielcgplbnlgbaa
end

section
/- Contract of the program's Kids: the conditions that the theorem names. -/
set_option linter.unusedVariables false
set_option linter.unusedSimpArgs false
namespace Go.Proofs.Ytielcgplbnlgbaa

theorem endS_two2 (x : ND) (a b : T) (hb : b.ok) : endS (x :: (a.fl ++ b.fl)) ((1 + a.fl.length : Nat) : Int) = ((1 + a.fl.length + b.fl.length : Nat) : Int) := by
  have := endS_fl hb (x :: a.fl) []
  simpa [Nat.add_comm, Nat.add_left_comm, Nat.add_assoc] using this

/-- What Kids holds at a round. -/
def pkO (a b : T) : Nat → Nat → MV
  | 0, _ => .nils
  | i + 1, q => .vec 1 q 0 (i + 1)
def pkS (a b : T) (ex : List (List MV)) : Nat → Nat → St
  | 0, _ => St.none
  | i + 1, q => St.none.set q (.row 22 1 ([tcell a, tcell b].take (i + 1) ++ ex))
def pkF (a b : T) : Nat → Nat
  | 0 => 1
  | 1 => 1 + a.fl.length
  | _ => 1 + a.fl.length + b.fl.length

set_option maxHeartbeats 2000000 in
theorem pkids_call (z : ND) (a b : T) (hz : parts z.op = 2) (ha : a.ok) (hb : b.ok) (hl : (T.two z a b).fl.length ≤ 1000) (tt : Bool) :
    MCalls Try.prog 66 [.lst 5 ((T.two z a b).fl.map ND.c) tt, .int .i64 0] St.none (fun r _ => r = .lst 1 [tcell a, tcell b] false) := by
  refine MCalls.seen (MCalls.body 42 [.tmp 4] Try.func66 rfl rfl rfl rfl ?_)
  have hll : 1 + a.fl.length + b.fl.length ≤ 1000 := by simp only [T.fl, List.length_cons, List.length_append] at hl; omega
  have hp := parts_call z.op
  rw [hz] at hp
  have he1 := pend_call (z :: (a.fl ++ b.fl)) (by simp only [T.fl] at hl; omega) tt 1
  rw [endS_two z a b ha] at he1
  have he2 := pend_call (z :: (a.fl ++ b.fl)) (by simp only [T.fl] at hl; omega) tt ((1 + a.fl.length : Nat) : Int)
  rw [endS_two2 z a b hb] at he2
  have hs1 : List.drop 1 (List.take (1 + a.fl.length) (z.c :: List.map ND.c (a.fl ++ b.fl))) = List.map ND.c a.fl := by
    rw [Nat.add_comm, List.take_succ_cons, List.drop_succ_cons, List.drop_zero, List.map_append, List.take_append_of_le_length (by rw [List.length_map]; omega), List.take_of_length_le (by rw [List.length_map]; omega)]
  have hs2 : List.drop (1 + a.fl.length) (List.take (1 + a.fl.length + b.fl.length) (z.c :: List.map ND.c (a.fl ++ b.fl))) = List.map ND.c b.fl := by
    rw [List.take_of_length_le (by simp only [List.length_cons, List.length_map, List.length_append]; omega), Nat.add_comm, List.drop_succ_cons, List.map_append, List.drop_append_of_le_length (by rw [List.length_map]; omega), List.drop_of_length_le (by rw [List.length_map]; omega), List.nil_append]
  have hc1 {t : Bool} := clone_call a.fl (by omega) a.fl_pos t
  have hc2 {t : Bool} := clone_call b.fl (by omega) b.fl_pos t
  simp only [List.map_cons] at he1 he2
  simp only [T.fl, List.map_cons] at hl ⊢
  repeat' (first | (with_reducible first | refine up hp ?_) | (with_reducible first | (refine wT ?_; (first | ((fail_if_success (have := nl1)); refine wN fun nl1 hnl => ?_) | ((fail_if_success (have := nl2)); refine wN fun nl2 hnl => ?_) | refine wN fun _ hnl => ?_); revert hnl; (repeat refine wS fun _ _ => ?_); intro hnl) | refine wD (by decide +kernel) ?_ | refine wI (fun h => ?_) fun h => ?_ | refine wF (fun h => ?_) fun h => ?_ | refine wG (fun h => ?_) fun h => ?_ | refine wH (fun h => ?_) fun h => ?_ | ((first | refine mfork_bool (fun h => ?_) fun h => ?_ | refine mgfork_bool (fun h => ?_) fun h => ?_) <;> simp only [h])) | simp (maxSteps := 4000000) (disch := first | decide | assumption | omega | (simp only [wL]; omega)) only [go_sem, simprocAttr, Try.f66])
  refine mloop_intro (α := Nat × Nat × List (List MV)) (fun s => ⟨42, [(24, .int .i64 (s.1 : Int)), (23, .int .i64 2), (6, .int .i64 ((pkF a b s.1 : Nat) : Int)), (5, pkO a b s.1 s.2.1), (0, .lst 5 (z.c :: List.map ND.c (a.fl ++ b.fl)) tt), (1, .int .i64 0)], []⟩)
    (fun s => pkS a b s.2.2 s.1 s.2.1) (fun s => s.1 ≤ 2) (fun s => 2 - s.1) ?_ ?_
  · refine .of (.less ?_ (St.le_refl _)) ⟨(0, 0, []), rfl, rfl, Nat.zero_le _⟩
    simp (maxSteps := 4000000) (disch := first | decide | assumption | omega | (simp only [wL]; omega)) only [go_sem, simprocAttr, weak_int, weak_same]
    all_goals repeat' first | rfl | exact .same _ | refine ⟨?_, ?_⟩
  · rintro ⟨i, q, ex⟩ hi
    simp only at hi ⊢
    match i, hi with
    | 0, _ =>
      rw [show pkF a b 0 = 1 from rfl, show pkO a b 0 q = .nils from rfl, show pkS a b ex 0 q = St.none from rfl]
      repeat' (first | (with_reducible first | refine up he1 ?_ | refine up hc1 ?_) | (with_reducible first | (refine wT ?_; (first | ((fail_if_success (have := nl1)); refine wN fun nl1 hnl => ?_) | ((fail_if_success (have := nl2)); refine wN fun nl2 hnl => ?_) | refine wN fun _ hnl => ?_); revert hnl; (repeat refine wS fun _ _ => ?_); intro hnl) | refine wD (by decide +kernel) ?_ | refine wI (fun h => ?_) fun h => ?_ | refine wF (fun h => ?_) fun h => ?_ | refine wG (fun h => ?_) fun h => ?_ | refine wH (fun h => ?_) fun h => ?_ | ((first | refine mfork_bool (fun h => ?_) fun h => ?_ | refine mgfork_bool (fun h => ?_) fun h => ?_) <;> simp only [h])) | simp (maxSteps := 4000000) (disch := first | decide | assumption | omega | (simp only [wL]; omega)) only [go_sem, simprocAttr, hs1])
      refine .of (.less ?_ (St.set_le (St.none_le _) (set_hit _ _ _))) ⟨(1, nl2, []), rfl, rfl, Nat.le_of_ble_eq_true rfl, Nat.le_of_ble_eq_true rfl⟩
      simp (maxSteps := 4000000) (disch := first | decide | assumption | omega | (simp only [wL]; omega)) only [go_sem, simprocAttr, weak_int, weak_same]
      all_goals repeat' first | rfl | exact .same _ | refine ⟨?_, ?_⟩
    | 1, _ =>
      rw [show pkF a b 1 = 1 + a.fl.length from rfl, show pkO a b 1 q = .vec 1 q 0 1 from rfl, show pkS a b ex 1 q = St.none.set q (.row 22 1 (tcell a :: ex)) from rfl]
      repeat' (first | (with_reducible first | refine up he2 ?_ | refine up hc2 ?_) | (with_reducible first | (refine wT ?_; (first | ((fail_if_success (have := nl1)); refine wN fun nl1 hnl => ?_) | ((fail_if_success (have := nl2)); refine wN fun nl2 hnl => ?_) | refine wN fun _ hnl => ?_); revert hnl; (repeat refine wS fun _ _ => ?_); intro hnl) | refine wD (by decide +kernel) ?_ | refine wI (fun h => ?_) fun h => ?_ | refine wF (fun h => ?_) fun h => ?_ | refine wG (fun h => ?_) fun h => ?_ | refine wH (fun h => ?_) fun h => ?_ | ((first | refine mfork_bool (fun h => ?_) fun h => ?_ | refine mgfork_bool (fun h => ?_) fun h => ?_) <;> simp only [h])) | simp (maxSteps := 4000000) (disch := first | decide | assumption | omega | (simp only [wL]; omega)) only [go_sem, simprocAttr, hs2])
      · have hex : ex = [] := List.eq_nil_of_length_eq_zero h
        subst hex
        refine .of (.less ?_ (St.set_le (St.none_le _) (set_hit _ _ _))) ⟨(2, nl2, []), rfl, rfl, Nat.le_of_ble_eq_true rfl, Nat.le_of_ble_eq_true rfl⟩
        simp (maxSteps := 4000000) (disch := first | decide | assumption | omega | (simp only [wL]; omega)) only [go_sem, simprocAttr, weak_int, weak_same]
        all_goals repeat' first | rfl | exact .same _ | refine ⟨?_, ?_⟩
      · refine .of (.less ?_ (St.set_le (St.none_le _) (set_hit _ _ _))) ⟨(2, nl2, List.drop 1 ex), rfl, rfl, Nat.le_of_ble_eq_true rfl, Nat.le_of_ble_eq_true rfl⟩
        simp (maxSteps := 4000000) (disch := first | decide | assumption | omega | (simp only [wL]; omega)) only [go_sem, simprocAttr, weak_int, weak_same]
        all_goals repeat' first | rfl | exact .same _ | refine ⟨?_, ?_⟩
    | 2, _ =>
      rw [show pkF a b 2 = 1 + a.fl.length + b.fl.length from rfl, show pkO a b 2 q = .vec 1 q 0 2 from rfl, show pkS a b ex 2 q = St.none.set q (.row 22 1 (tcell a :: tcell b :: ex)) from rfl]
      repeat' (first | (with_reducible first | (refine wT ?_; (first | ((fail_if_success (have := nl1)); refine wN fun nl1 hnl => ?_) | ((fail_if_success (have := nl2)); refine wN fun nl2 hnl => ?_) | refine wN fun _ hnl => ?_); revert hnl; (repeat refine wS fun _ _ => ?_); intro hnl) | refine wD (by decide +kernel) ?_ | refine wI (fun h => ?_) fun h => ?_ | refine wF (fun h => ?_) fun h => ?_ | refine wG (fun h => ?_) fun h => ?_ | refine wH (fun h => ?_) fun h => ?_ | ((first | refine mfork_bool (fun h => ?_) fun h => ?_ | refine mgfork_bool (fun h => ?_) fun h => ?_) <;> simp only [h])) | simp (maxSteps := 4000000) (disch := first | decide | assumption | omega | (simp only [wL]; omega)) only [go_sem, simprocAttr])
      exact .vec (lo := 0) (n := 2) (set_hit _ _ _) (by simp only [List.length_cons]; omega)
end Go.Proofs.Ytielcgplbnlgbaa
end

section
/- Contracts of the library's search in a sorted list: the conditions that each theorem names. -/
set_option linter.unusedVariables false
set_option linter.unusedSimpArgs false
namespace Go.Proofs.Ytielcgplbnlgbaa

theorem posK_eq {l : List ND} {x : ND} {i : Nat} (h0 : i ≤ l.length) (h1 : ∀ q, q < i → lessK (l.getD q nd0).key x.key) (h2 : ∀ q, i ≤ q → q < l.length → ¬ lessK (l.getD q nd0).key x.key) : posK l x = i := by
  unfold posK
  by_cases hi : i < l.length
  · rw [List.findIdx_eq hi]
    refine ⟨?_, fun j hj => ?_⟩
    · have := h2 i (Nat.le_refl _) hi
      rw [getD_of_lt nd0 hi] at this
      simpa using this
    · have := h1 j hj
      rw [getD_of_lt nd0 (by omega)] at this
      simpa using this
  · have : i = l.length := by omega
    rw [this]
    refine List.findIdx_eq_length_of_false fun y hy => ?_
    obtain ⟨j, hj, rfl⟩ := List.mem_iff_getElem.1 hy
    have := h1 j (by omega)
    rw [getD_of_lt nd0 hj] at this
    simpa using this

theorem rising_lt {l : List ND} (h : Rising (l.map ND.key)) {a b : Nat} (hab : a < b) (hb : b < l.length) : lessK (l.getD a nd0).key (l.getD b nd0).key := by
  have := (List.pairwise_iff_getElem.1 h) a b (by simp; omega) (by simp; omega) hab
  simp only [List.getElem_map] at this
  rw [getD_of_lt nd0 (by omega), getD_of_lt nd0 hb]
  exact this

theorem half (i j : Nat) : Int.fdiv ((i : Int) + j) (2 ^ (min 1 64 : Nat)) = (((i + j) / 2 : Nat) : Int) := by
  rw [show ((2 : Int) ^ (min 1 64 : Nat)) = 2 by decide, Int.fdiv_eq_ediv_of_nonneg _ (by omega)]
  omega

theorem ordI_neg {o : Ordering} : ordI o < 0 ↔ o = .lt := by cases o <;> simp [ordI]

theorem mem_of_key {l : List ND} {x : ND} {i : Nat} (hi : i < l.length) (he : (l.getD i nd0).key = x.key) : x ∈ l := by
  have := ND.key_inj he
  rw [← this]
  exact getD_mem nd0 hi

theorem key_of_mem {l : List ND} {x : ND} {i : Nat} (h : Rising (l.map ND.key)) (hx : x ∈ l) (h1 : ∀ q, q < i → lessK (l.getD q nd0).key x.key) (h2 : ∀ q, i ≤ q → q < l.length → ¬ lessK (l.getD q nd0).key x.key) : i < l.length ∧ (l.getD i nd0).key = x.key := by
  obtain ⟨q, hq, rfl⟩ := List.mem_iff_getElem.1 hx
  have e := getD_of_lt nd0 hq
  rw [← e] at h1 h2 ⊢
  have hiq : i ≤ q := Nat.le_of_not_lt fun hlt => lessK_irrefl (h1 q hlt)
  rcases Nat.lt_or_ge i q with hlt | hge
  · exact absurd (rising_lt h hlt hq) (h2 i (Nat.le_refl _) (by omega))
  · have : i = q := by omega
    subst this
    exact ⟨hq, rfl⟩

theorem bsearch_call (l : List ND) (hl : l.length ≤ 1000000) (t : Bool) (x : ND) (h : Rising (l.map ND.key)) :
    MCalls Try.prog 64 [.lst 5 (l.map ND.c) t, .agg x.c, .fn (.func 44) [] []] St.none (fun r _ => r = .tup [.int .i64 (posK l x), .bool (decide (x ∈ l))]) := by
  refine (MCalls.body 49 [.tmp 6, .tmp 7] Try.func64 rfl rfl rfl rfl ?_)
  repeat' (first | (with_reducible first | (refine wN fun nl hnl => ?_; revert hnl; (repeat refine wS fun _ _ => ?_); intro hnl) | refine wD (by decide +kernel) ?_ | refine wI (fun h => ?_) fun h => ?_ | refine wF (fun h => ?_) fun h => ?_ | refine wG (fun h => ?_) fun h => ?_ | refine wH (fun h => ?_) fun h => ?_ | ((first | refine mfork_bool (fun h => ?_) fun h => ?_ | refine mgfork_bool (fun h => ?_) fun h => ?_) <;> simp only [h])) | simp (maxSteps := 4000000) (disch := first | decide | assumption | omega | (simp only [wL]; omega)) only [go_sem, simprocAttr, Try.f64])
  refine mloop_intro (α := Nat × Nat) (fun a => ⟨49, [(9, .int .i64 (a.1 : Int)), (10, .int .i64 (a.2 : Int)), (8, .int .i64 (l.length : Int)), (4, .ptr nl 0 0), (0, .lst 5 (l.map ND.c) t), (2, .fn (.func 44) [] [])], []⟩)
    (fun _ => St.none.set nl (.row 49 5 [x.c])) (fun a => a.1 ≤ a.2 ∧ a.2 ≤ l.length ∧ (∀ q, q < a.1 → lessK (l.getD q nd0).key x.key) ∧ (∀ q, a.2 ≤ q → q < l.length → ¬ lessK (l.getD q nd0).key x.key)) (fun a => a.2 - a.1) (.of (.less ?_ (St.le_refl _)) ⟨(0, l.length), rfl, rfl, by simp; omega⟩) ?_
  · simp (maxSteps := 4000000) (disch := first | decide | assumption | omega | (simp only [wL]; omega)) only [go_sem, simprocAttr, weak_int, weak_same]
    all_goals first | rfl | omega | simp
  · rintro ⟨i, j⟩ ⟨h1, h2, h3, h4⟩
    simp only at h1 h2 h3 h4 ⊢
    by_cases hij : i < j
    · have hh := half i j
      have hm1 : i ≤ (i + j) / 2 := by omega
      have hm2 : (i + j) / 2 < j := by omega
      obtain ⟨m, hm⟩ : ∃ m, (i + j) / 2 = m := ⟨_, rfl⟩
      rw [hm] at hh hm1 hm2
      have hml : m < l.length := by omega
      have hord := lorder_call (l.getD m nd0) x
      by_cases hless : lessK (l.getD m nd0).key x.key
      · have ho : ordI (cmpL (l.getD m nd0).key x.key) = -1 := by rw [show cmpL (l.getD m nd0).key x.key = .lt from hless]; rfl
        rw [ho] at hord
        repeat' (first | (with_reducible refine mdraw_know mixed (by decide +kernel) (fun g ms => if g = 44 then some ⟨[], fun v => v = .int .i64 (-1), none⟩ else none) ?_) | (with_reducible refine know_pure rfl hord ?_) | (with_reducible first | (refine wN fun nl hnl => ?_; revert hnl; (repeat refine wS fun _ _ => ?_); intro hnl) | refine wD (by decide +kernel) ?_ | refine wI (fun h => ?_) fun h => ?_ | refine wF (fun h => ?_) fun h => ?_ | refine wG (fun h => ?_) fun h => ?_ | refine wH (fun h => ?_) fun h => ?_ | ((first | refine mfork_bool (fun h => ?_) fun h => ?_ | refine mgfork_bool (fun h => ?_) fun h => ?_) <;> simp only [h])) | simp (maxSteps := 4000000) (disch := first | decide | assumption | omega | (simp only [wL]; omega)) only [go_sem, simprocAttr, getD_mapd nd0, hh])
        refine .of (.less (l1 := [(9, .int .i64 ((m + 1 : Nat) : Int)), (10, .int .i64 (j : Int)), (8, .int .i64 (l.length : Int)), (4, .ptr nl 0 0), (0, .lst 5 (l.map ND.c) t), (2, .fn (.func 44) [] [])]) ?_ (St.le_refl _)) ⟨(m + 1, j), rfl, rfl, ⟨by simp only; omega, h2, fun q hq => ?_, h4⟩, by simp only; omega⟩
        · simp (maxSteps := 4000000) (disch := first | decide | assumption | omega | (simp only [wL]; omega)) only [go_sem, simprocAttr, weak_int, weak_same]
          all_goals omega
        · simp only at hq
          rcases Nat.lt_or_ge q m with hlt | hge
          · exact lessK_trans (rising_lt h hlt hml) hless
          · have : q = m := by omega
            rw [this]; exact hless
      · have ho : ¬ ordI (cmpL (l.getD m nd0).key x.key) < 0 := fun hh => hless (ordI_neg.1 hh)
        repeat' (first | (with_reducible refine mdraw_know mixed (by decide +kernel) (fun g ms => if g = 44 then some ⟨[], fun v => v = .int .i64 (ordI (cmpL (l.getD m nd0).key x.key)), none⟩ else none) ?_) | (with_reducible refine know_pure rfl hord ?_) | (with_reducible first | (refine wN fun nl hnl => ?_; revert hnl; (repeat refine wS fun _ _ => ?_); intro hnl) | refine wD (by decide +kernel) ?_ | refine wI (fun h => ?_) fun h => ?_ | refine wF (fun h => ?_) fun h => ?_ | refine wG (fun h => ?_) fun h => ?_ | refine wH (fun h => ?_) fun h => ?_ | ((first | refine mfork_bool (fun h => ?_) fun h => ?_ | refine mgfork_bool (fun h => ?_) fun h => ?_) <;> simp only [h])) | simp (maxSteps := 4000000) (disch := first | decide | assumption | omega | (simp only [wL]; omega)) only [go_sem, simprocAttr, getD_mapd nd0, hh])
        refine .of (.less (l1 := [(9, .int .i64 (i : Int)), (10, .int .i64 (m : Int)), (8, .int .i64 (l.length : Int)), (4, .ptr nl 0 0), (0, .lst 5 (l.map ND.c) t), (2, .fn (.func 44) [] [])]) ?_ (St.le_refl _)) ⟨(i, m), rfl, rfl, ⟨hm1, by simp only; omega, h3, fun q hq hql => ?_⟩, by simp only; omega⟩
        · simp (maxSteps := 4000000) (disch := first | decide | assumption | omega | (simp only [wL]; omega)) only [go_sem, simprocAttr, weak_int, weak_same]
        · simp only at hq
          rcases Nat.lt_or_ge m q with hlt | hge
          · exact fun hl2 => hless (lessK_trans (rising_lt h hlt hql) hl2)
          · have : q = m := by omega
            rw [this]; exact hless
    · have : i = j := by omega
      subst this
      have hp := posK_eq h2 h3 h4
      rw [hp]
      by_cases hil : i < l.length
      · have hord := lorder_call (l.getD i nd0) x
        repeat' (first | (with_reducible refine mdraw_know mixed (by decide +kernel) (fun g ms => if g = 44 then some ⟨[], fun v => v = .int .i64 (ordI (cmpL (l.getD i nd0).key x.key)), none⟩ else none) ?_) | (with_reducible refine know_pure rfl hord ?_) | (with_reducible first | (refine wN fun nl hnl => ?_; revert hnl; (repeat refine wS fun _ _ => ?_); intro hnl) | refine wD (by decide +kernel) ?_ | refine wI (fun h => ?_) fun h => ?_ | refine wF (fun h => ?_) fun h => ?_ | refine wG (fun h => ?_) fun h => ?_ | refine wH (fun h => ?_) fun h => ?_ | ((first | refine mfork_bool (fun h => ?_) fun h => ?_ | refine mgfork_bool (fun h => ?_) fun h => ?_) <;> simp only [h])) | simp (maxSteps := 4000000) (disch := first | decide | assumption | omega | (simp only [wL]; omega)) only [go_sem, simprocAttr, getD_mapd nd0])
        have : (ordI (cmpL (l.getD i nd0).key x.key) = 0) ↔ x ∈ l := by
          rw [ordI_zero, cmpL_eq]
          exact ⟨fun he => mem_of_key hil he, fun hx => (key_of_mem h hx h3 h4).2⟩
        simp only [this]
      · repeat' (first | (with_reducible refine mdraw_know mixed (by decide +kernel) (fun g ms => none) ?_) | (with_reducible first | (refine wN fun nl hnl => ?_; revert hnl; (repeat refine wS fun _ _ => ?_); intro hnl) | refine wD (by decide +kernel) ?_ | refine wI (fun h => ?_) fun h => ?_ | refine wF (fun h => ?_) fun h => ?_ | refine wG (fun h => ?_) fun h => ?_ | refine wH (fun h => ?_) fun h => ?_ | ((first | refine mfork_bool (fun h => ?_) fun h => ?_ | refine mgfork_bool (fun h => ?_) fun h => ?_) <;> simp only [h])) | simp (maxSteps := 4000000) (disch := first | decide | assumption | omega | (simp only [wL]; omega)) only [go_sem, simprocAttr, getD_mapd nd0])
        have : ¬ x ∈ l := fun hx => hil (key_of_mem h hx h3 h4).1
        simp [this]
end Go.Proofs.Ytielcgplbnlgbaa
end

section
/- Contract of logic.Atoms: the conditions that the theorem names. -/
set_option linter.unusedVariables false
set_option linter.unusedSimpArgs false
namespace Go.Proofs.Ytielcgplbnlgbaa

theorem filt_succ {m : List ND} {k : Nat} (h : k < m.length) : (m.take (k + 1)).filter isAtom = (m.take k).filter isAtom ++ (if isAtom (m.getD k nd0) = true then [m.getD k nd0] else []) := by
  rw [List.take_succ_eq_append_getElem h, List.filter_append, getD_of_lt nd0 h]
  congr 1
  cases e : isAtom m[k] <;> simp [e]

theorem filt_le (m : List ND) (k : Nat) : ((m.take k).filter isAtom).length ≤ k :=
  Nat.le_trans (List.length_filter_le ..) (by simp; omega)

set_option maxHeartbeats 4000000 in
theorem atoms_call (ls : List (List ND)) (t : Bool) (hl : ls.length ≤ 1000) (hs : ∀ l, l ∈ ls → l.length ≤ 1000) : MCalls Try.prog 23 [.lst 1 (ls.map fun l => [.lst 5 (l.map ND.c) false]) t] St.none (fun r _ => r = .lst 5 ((atomsS ls.flatten).map ND.c) false) := by
  refine MCalls.seen (MCalls.body 36 [.tmp 2] Try.func23 rfl rfl rfl rfl ?_)
  have hc := concat_call ls t hl hs
  have htot := flat_le hs (i := ls.length) (Nat.le_refl _)
  rw [List.take_length] at htot
  obtain ⟨m, hm⟩ : ∃ m, ls.flatten = m := ⟨_, rfl⟩
  rw [hm] at hc htot ⊢
  have hml : m.length ≤ 1000000 := by omega
  repeat' (first | (with_reducible refine use_pure hc ?_) | (with_reducible first | (refine wN fun nl hnl => ?_; revert hnl; (repeat refine wS fun _ _ => ?_); intro hnl) | refine wD (by decide +kernel) ?_ | refine wI (fun h => ?_) fun h => ?_ | refine wF (fun h => ?_) fun h => ?_ | refine wG (fun h => ?_) fun h => ?_ | refine wH (fun h => ?_) fun h => ?_ | ((first | refine mfork_bool (fun h => ?_) fun h => ?_ | refine mgfork_bool (fun h => ?_) fun h => ?_) <;> simp only [h])) | simp (maxSteps := 4000000) (disch := first | decide | assumption | omega | (simp only [wL]; omega)) only [go_sem, simprocAttr, Try.f23])
  refine mloop_intro (α := Nat × Nat × List (List MV)) (fun a => ⟨36, [(9, .int .i64 (a.1 : Int)), (8, .int .i64 (m.length : Int)), (7, .lst 5 (m.map ND.c) false), (3, .vec 5 a.2.1 0 ((m.take a.1).filter isAtom).length)], []⟩)
    (fun a => St.none.set a.2.1 (.row 49 5 (((m.take a.1).filter isAtom).map ND.c ++ a.2.2))) (fun a => a.1 ≤ m.length) (fun a => m.length - a.1) ?_ ?_
  · refine Gh.row 49 5 (fun k => [(9, .int .i64 0), (8, .int .i64 (m.length : Int)), (7, .lst 5 (m.map ND.c) false), (3, .vec 5 k 0 0)]) (fun k p hp => ?_) fun k hk => .done ⟨(0, k, []), rfl, rfl, Nat.zero_le _⟩
    simp only [List.mem_cons, List.not_mem_nil, or_false] at hp
    rcases hp with rfl | rfl | rfl | rfl
    · exact .inl rfl
    · exact .inl rfl
    · exact .inl rfl
    · exact .inr ⟨rfl, .inl rfl⟩
  · rintro ⟨k, q, ex⟩ hk
    simp only at hk ⊢
    by_cases hlt : k < m.length
    · have hfl := filt_le m k
      have hsucc := filt_succ hlt
      cases ha : isAtom (m.getD k nd0)
      · rw [ha, if_neg (by simp), List.append_nil] at hsucc
        have hn : parts (m.getD k nd0).op ≠ 0 ∨ (parts (m.getD k nd0).op = 0 ∧ (m.getD k nd0).op = 1) ∨ (parts (m.getD k nd0).op = 0 ∧ (m.getD k nd0).op ≠ 1 ∧ (m.getD k nd0).op = 2) := by
          simp only [isAtom, decide_eq_false_iff_not] at ha
          rcases Classical.em (parts (m.getD k nd0).op = 0) with h0 | h0
          · rcases Classical.em ((m.getD k nd0).op = 1) with h1 | h1
            · exact .inr (.inl ⟨h0, h1⟩)
            · rcases Classical.em ((m.getD k nd0).op = 2) with h2 | h2
              · exact .inr (.inr ⟨h0, h1, h2⟩)
              · exact absurd ⟨h0, h1, h2⟩ ha
          · exact .inl h0
        rcases hn with a1 | ⟨a1, a2⟩ | ⟨a1, a2, a3⟩
        · repeat' (first | (with_reducible refine use_pure (parts_call _) ?_) | (with_reducible first | (refine wN fun nl hnl => ?_; revert hnl; (repeat refine wS fun _ _ => ?_); intro hnl) | refine wD (by decide +kernel) ?_ | refine wI (fun h => ?_) fun h => ?_ | refine wF (fun h => ?_) fun h => ?_ | refine wG (fun h => ?_) fun h => ?_ | refine wH (fun h => ?_) fun h => ?_ | ((first | refine mfork_bool (fun h => ?_) fun h => ?_ | refine mgfork_bool (fun h => ?_) fun h => ?_) <;> simp only [h])) | simp (maxSteps := 4000000) (disch := first | decide | assumption | omega | (simp only [wL]; omega)) only [go_sem, simprocAttr, getD_mapd nd0, a1])
          all_goals refine .of (.less (l1 := [(9, .int .i64 ((k + 1 : Nat) : Int)), (8, .int .i64 (m.length : Int)), (7, .lst 5 (m.map ND.c) false), (3, .vec 5 q 0 ((m.take (k + 1)).filter isAtom).length)]) (σ1 := St.none.set q (.row 49 5 (((m.take (k + 1)).filter isAtom).map ND.c ++ ex))) ?_ (St.set_le (St.none_le _) ((set_miss _ _ _ _ (by assumption)).trans ((set_hit _ _ _).trans ?_)))) ⟨(k + 1, q, ex), rfl, rfl, by simp only; omega, by simp only; omega⟩
          all_goals first | rfl | (rw [hsucc]; done) | (rw [hsucc]; simp (maxSteps := 4000000) (disch := first | decide | assumption | omega | (simp only [wL]; omega)) only [go_sem, simprocAttr, weak_int, weak_same]; done) | (rw [hsucc]; simp (maxSteps := 4000000) (disch := first | decide | assumption | omega | (simp only [wL]; omega)) only [go_sem, simprocAttr, weak_int, weak_same]; omega)
        · repeat' (first | (with_reducible refine use_pure (parts_call _) ?_) | (with_reducible first | (refine wN fun nl hnl => ?_; revert hnl; (repeat refine wS fun _ _ => ?_); intro hnl) | refine wD (by decide +kernel) ?_ | refine wI (fun h => ?_) fun h => ?_ | refine wF (fun h => ?_) fun h => ?_ | refine wG (fun h => ?_) fun h => ?_ | refine wH (fun h => ?_) fun h => ?_ | ((first | refine mfork_bool (fun h => ?_) fun h => ?_ | refine mgfork_bool (fun h => ?_) fun h => ?_) <;> simp only [h])) | simp (maxSteps := 4000000) (disch := first | decide | assumption | omega | (simp only [wL]; omega)) only [go_sem, simprocAttr, getD_mapd nd0, a1, a2])
          all_goals refine .of (.less (l1 := [(9, .int .i64 ((k + 1 : Nat) : Int)), (8, .int .i64 (m.length : Int)), (7, .lst 5 (m.map ND.c) false), (3, .vec 5 q 0 ((m.take (k + 1)).filter isAtom).length)]) (σ1 := St.none.set q (.row 49 5 (((m.take (k + 1)).filter isAtom).map ND.c ++ ex))) ?_ (St.set_le (St.none_le _) ((set_miss _ _ _ _ (by assumption)).trans ((set_hit _ _ _).trans ?_)))) ⟨(k + 1, q, ex), rfl, rfl, by simp only; omega, by simp only; omega⟩
          all_goals first | rfl | (rw [hsucc]; done) | (rw [hsucc]; simp (maxSteps := 4000000) (disch := first | decide | assumption | omega | (simp only [wL]; omega)) only [go_sem, simprocAttr, weak_int, weak_same]; done) | (rw [hsucc]; simp (maxSteps := 4000000) (disch := first | decide | assumption | omega | (simp only [wL]; omega)) only [go_sem, simprocAttr, weak_int, weak_same]; omega)
        · repeat' (first | (with_reducible refine use_pure (parts_call _) ?_) | (with_reducible first | (refine wN fun nl hnl => ?_; revert hnl; (repeat refine wS fun _ _ => ?_); intro hnl) | refine wD (by decide +kernel) ?_ | refine wI (fun h => ?_) fun h => ?_ | refine wF (fun h => ?_) fun h => ?_ | refine wG (fun h => ?_) fun h => ?_ | refine wH (fun h => ?_) fun h => ?_ | ((first | refine mfork_bool (fun h => ?_) fun h => ?_ | refine mgfork_bool (fun h => ?_) fun h => ?_) <;> simp only [h])) | simp (maxSteps := 4000000) (disch := first | decide | assumption | omega | (simp only [wL]; omega)) only [go_sem, simprocAttr, getD_mapd nd0, a1, a2, a3])
          all_goals refine .of (.less (l1 := [(9, .int .i64 ((k + 1 : Nat) : Int)), (8, .int .i64 (m.length : Int)), (7, .lst 5 (m.map ND.c) false), (3, .vec 5 q 0 ((m.take (k + 1)).filter isAtom).length)]) (σ1 := St.none.set q (.row 49 5 (((m.take (k + 1)).filter isAtom).map ND.c ++ ex))) ?_ (St.set_le (St.none_le _) ((set_miss _ _ _ _ (by assumption)).trans ((set_hit _ _ _).trans ?_)))) ⟨(k + 1, q, ex), rfl, rfl, by simp only; omega, by simp only; omega⟩
          all_goals first | rfl | (rw [hsucc]; done) | (rw [hsucc]; simp (maxSteps := 4000000) (disch := first | decide | assumption | omega | (simp only [wL]; omega)) only [go_sem, simprocAttr, weak_int, weak_same]; done) | (rw [hsucc]; simp (maxSteps := 4000000) (disch := first | decide | assumption | omega | (simp only [wL]; omega)) only [go_sem, simprocAttr, weak_int, weak_same]; omega)
      · rw [ha, if_pos rfl] at hsucc
        have ha' := ha
        simp only [isAtom, decide_eq_true_eq] at ha'
        obtain ⟨a1, a2, a3⟩ := ha'
        repeat' (first | (with_reducible refine use_pure (parts_call _) ?_) | (with_reducible first | (refine wN fun nl hnl => ?_; revert hnl; (repeat refine wS fun _ _ => ?_); intro hnl) | refine wD (by decide +kernel) ?_ | refine wI (fun h => ?_) fun h => ?_ | refine wF (fun h => ?_) fun h => ?_ | refine wG (fun h => ?_) fun h => ?_ | refine wH (fun h => ?_) fun h => ?_ | ((first | refine mfork_bool (fun h => ?_) fun h => ?_ | refine mgfork_bool (fun h => ?_) fun h => ?_) <;> simp only [h])) | simp (maxSteps := 4000000) (disch := first | decide | assumption | omega | (simp only [wL]; omega)) only [go_sem, simprocAttr, getD_mapd nd0, a1])
        · have hex : ex = [] := List.eq_nil_of_length_eq_zero (by omega)
          subst hex
          refine .of (.less (l1 := [(9, .int .i64 ((k + 1 : Nat) : Int)), (8, .int .i64 (m.length : Int)), (7, .lst 5 (m.map ND.c) false), (3, .vec 5 nl 0 ((m.take (k + 1)).filter isAtom).length)]) (σ1 := St.none.set nl (.row 49 5 (((m.take (k + 1)).filter isAtom).map ND.c ++ []))) ?_ (St.set_le (St.none_le _) ((set_hit _ _ _).trans ?_))) ⟨(k + 1, nl, []), rfl, rfl, by simp only; omega, by simp only; omega⟩
          · rw [hsucc, List.length_append]
            simp (maxSteps := 4000000) (disch := first | decide | assumption | omega | (simp only [wL]; omega)) only [go_sem, simprocAttr, weak_int, weak_same]
            all_goals omega
          · rw [hsucc, List.map_append]
            rw [List.append_nil, List.append_nil]; rfl
        · refine .of (.less (l1 := [(9, .int .i64 ((k + 1 : Nat) : Int)), (8, .int .i64 (m.length : Int)), (7, .lst 5 (m.map ND.c) false), (3, .vec 5 nl 0 ((m.take (k + 1)).filter isAtom).length)]) (σ1 := St.none.set nl (.row 49 5 (((m.take (k + 1)).filter isAtom).map ND.c ++ ex.drop 1))) ?_ (St.set_le (St.none_le _) ((set_hit _ _ _).trans ?_))) ⟨(k + 1, nl, ex.drop 1), rfl, rfl, by simp only; omega, by simp only; omega⟩
          · rw [hsucc, List.length_append]
            simp (maxSteps := 4000000) (disch := first | decide | assumption | omega | (simp only [wL]; omega)) only [go_sem, simprocAttr, weak_int, weak_same]
            all_goals omega
          · rw [hsucc, List.map_append]
            exact congrArg (fun r => some (MObj.row 49 5 r)) (app_flat _ _ [(m.getD k nd0).c] _ _ (by rw [List.length_map]) rfl)
    · have : k = m.length := by omega
      subst this
      repeat' (first | (with_reducible first | (refine wN fun nl hnl => ?_; revert hnl; (repeat refine wS fun _ _ => ?_); intro hnl) | refine wD (by decide +kernel) ?_ | refine wI (fun h => ?_) fun h => ?_ | refine wF (fun h => ?_) fun h => ?_ | refine wG (fun h => ?_) fun h => ?_ | refine wH (fun h => ?_) fun h => ?_ | ((first | refine mfork_bool (fun h => ?_) fun h => ?_ | refine mgfork_bool (fun h => ?_) fun h => ?_) <;> simp only [h])) | simp (maxSteps := 4000000) (disch := first | decide | assumption | omega | (simp only [wL]; omega)) only [go_sem, simprocAttr, List.take_length])
      refine use_frame (sort_call q (m.filter isAtom) (Nat.le_trans (List.length_filter_le ..) hml) ex) (St.le_refl _) ?_
      rintro v σ' ⟨rfl, ys, hperm, hsort, rfl⟩ -
      have hyl := hperm.length_eq
      repeat' (first | (with_reducible first | (refine wN fun nl hnl => ?_; revert hnl; (repeat refine wS fun _ _ => ?_); intro hnl) | refine wD (by decide +kernel) ?_ | refine wI (fun h => ?_) fun h => ?_ | refine wF (fun h => ?_) fun h => ?_ | refine wG (fun h => ?_) fun h => ?_ | refine wH (fun h => ?_) fun h => ?_ | ((first | refine mfork_bool (fun h => ?_) fun h => ?_ | refine mgfork_bool (fun h => ?_) fun h => ?_) <;> simp only [h])) | simp (maxSteps := 4000000) (disch := first | decide | assumption | omega | (simp only [wL]; omega)) only [go_sem, simprocAttr, over_set, over_none, minus_set, minus_none, hyl.symm])
      have hy2 : ys.length ≤ 1000000 := by rw [hyl]; exact Nat.le_trans (List.length_filter_le ..) hml
      refine use_frame (compact_call q ys hy2 ex) (St.le_refl _) ?_
      rintro v σ' ⟨ex', rfl, rfl⟩ -
      rw [comp_atoms hperm hsort]
      repeat' (first | (with_reducible first | (refine wN fun nl hnl => ?_; revert hnl; (repeat refine wS fun _ _ => ?_); intro hnl) | refine wD (by decide +kernel) ?_ | refine wI (fun h => ?_) fun h => ?_ | refine wF (fun h => ?_) fun h => ?_ | refine wG (fun h => ?_) fun h => ?_ | refine wH (fun h => ?_) fun h => ?_ | ((first | refine mfork_bool (fun h => ?_) fun h => ?_ | refine mgfork_bool (fun h => ?_) fun h => ?_) <;> simp only [h])) | simp (maxSteps := 4000000) (disch := first | decide | assumption | omega | (simp only [wL]; omega)) only [go_sem, simprocAttr, over_set, over_none, minus_set, minus_none])
      have hv := View.vec (σ := St.none.set q (.row 49 5 ((atomsS m).map ND.c ++ ex'))) (l := q) (lo := 0) (n := (atomsS m).length) (set_hit _ _ _) (by rw [List.length_append, List.length_map]; omega)
      have e : (((atomsS m).map ND.c ++ ex').drop 0).take (atomsS m).length = (atomsS m).map ND.c := by
        rw [List.drop_zero, List.take_append_of_le_length (by rw [List.length_map]; omega), List.take_of_length_le (by rw [List.length_map]; omega)]
      rw [e] at hv
      exact hv
end Go.Proofs.Ytielcgplbnlgbaa
end

section
/- Contracts of the reference's atom and Has: the conditions that the theorems name. -/
set_option linter.unusedVariables false
set_option linter.unusedSimpArgs false
namespace Go.Proofs.Ytielcgplbnlgbaa

theorem ratom_call (x : ND) : MCalls Try.prog 35 [.agg x.c] St.none (fun r _ => r = .bool (atomR x)) := by
  refine (MCalls.body 11 [.tmp 2] Try.func35 rfl rfl rfl rfl ?_)
  obtain ⟨op, n, kd, vn, s⟩ := x
  repeat' (first | (with_reducible first | (refine wN fun nl hnl => ?_; revert hnl; (repeat refine wS fun _ _ => ?_); intro hnl) | refine wD (by decide +kernel) ?_ | refine wI (fun h => ?_) fun h => ?_ | refine wF (fun h => ?_) fun h => ?_ | refine wG (fun h => ?_) fun h => ?_ | refine wH (fun h => ?_) fun h => ?_ | ((first | refine mfork_bool (fun h => ?_) fun h => ?_ | refine mgfork_bool (fun h => ?_) fun h => ?_) <;> simp only [h])) | simp (maxSteps := 4000000) (disch := first | decide | assumption | omega | (simp only [wL]; omega)) only [go_sem, simprocAttr, Try.f35])
  all_goals simp [atomR, *]
  all_goals omega

/-- Bit n of s. -/
def hasB (s : Nat) (n : Int) : Bool := decide (0 ≤ n ∧ n ≤ 31 ∧ s / 2 ^ n.toNat % 2 = 1)

theorem half_pow (s : Nat) (k : Nat) : s / 2 ^ k / 2 = s / 2 ^ (k + 1) := by
  rw [Nat.pow_succ, Nat.div_div_eq_div_mul]

set_option maxHeartbeats 2000000 in
theorem rhas_call (s : Nat) (n : Int) (h1 : s < 4294967296) : MCalls Try.prog 47 [.int .u32 (s : Int), .int .i64 n] St.none (fun r _ => r = .bool (hasB s n)) := by
  refine (MCalls.body 22 [.tmp 4] Try.func47 rfl rfl rfl rfl ?_)
  by_cases hn : n < 0 ∨ 31 < n
  · repeat' (first | (with_reducible first | (refine wN fun nl hnl => ?_; revert hnl; (repeat refine wS fun _ _ => ?_); intro hnl) | refine wD (by decide +kernel) ?_ | refine wI (fun h => ?_) fun h => ?_ | refine wF (fun h => ?_) fun h => ?_ | refine wG (fun h => ?_) fun h => ?_ | refine wH (fun h => ?_) fun h => ?_ | ((first | refine mfork_bool (fun h => ?_) fun h => ?_ | refine mgfork_bool (fun h => ?_) fun h => ?_) <;> simp only [h])) | simp (maxSteps := 4000000) (disch := first | decide | assumption | omega | (simp only [wL]; omega)) only [go_sem, simprocAttr, Try.f47])
    all_goals simp only [hasB, MV.bool.injEq, Bool.false_eq, decide_eq_false_iff_not]
    all_goals omega
  · obtain ⟨m, rfl⟩ : ∃ m : Nat, n = m := ⟨n.toNat, by omega⟩
    repeat' (first | (with_reducible first | (refine wN fun nl hnl => ?_; revert hnl; (repeat refine wS fun _ _ => ?_); intro hnl) | refine wD (by decide +kernel) ?_ | refine wI (fun h => ?_) fun h => ?_ | refine wF (fun h => ?_) fun h => ?_ | refine wG (fun h => ?_) fun h => ?_ | refine wH (fun h => ?_) fun h => ?_ | ((first | refine mfork_bool (fun h => ?_) fun h => ?_ | refine mgfork_bool (fun h => ?_) fun h => ?_) <;> simp only [h])) | simp (maxSteps := 4000000) (disch := first | decide | assumption | omega | (simp only [wL]; omega)) only [go_sem, simprocAttr, Try.f47])
    refine mloop_intro (α := Nat) (fun a => ⟨22, [(5, .int .i64 (a : Int)), (0, .int .u32 ((s / 2 ^ a : Nat) : Int)), (1, .int .i64 (m : Int))], []⟩) (fun _ => St.none)
      (fun a => a ≤ m) (fun a => m - a) (.of (.less ?_ (St.le_refl _)) ⟨0, rfl, rfl, Nat.zero_le _⟩) ?_
    · simp (maxSteps := 4000000) (disch := first | decide | assumption | omega | (simp only [wL]; omega)) only [go_sem, simprocAttr, weak_int, weak_same, Nat.pow_zero, Nat.div_one]
      all_goals rfl
    · intro k hk
      have hk : k ≤ m := hk
      have hb : s / 2 ^ k < 4294967296 := Nat.lt_of_le_of_lt (Nat.div_le_self ..) h1
      by_cases hlt : k < m
      · repeat' (first | (with_reducible first | (refine wN fun nl hnl => ?_; revert hnl; (repeat refine wS fun _ _ => ?_); intro hnl) | refine wD (by decide +kernel) ?_ | refine wI (fun h => ?_) fun h => ?_ | refine wF (fun h => ?_) fun h => ?_ | refine wG (fun h => ?_) fun h => ?_ | refine wH (fun h => ?_) fun h => ?_ | ((first | refine mfork_bool (fun h => ?_) fun h => ?_ | refine mgfork_bool (fun h => ?_) fun h => ?_) <;> simp only [h])) | simp (maxSteps := 4000000) (disch := first | decide | assumption | omega | (simp only [wL]; omega)) only [go_sem, simprocAttr, Nat.add_zero])
        refine .of (.less (l1 := [(5, .int .i64 ((k + 1 : Nat) : Int)), (0, .int .u32 ((s / 2 ^ (k + 1) : Nat) : Int)), (1, .int .i64 (m : Int))]) ?_ (St.le_refl _)) ⟨k + 1, rfl, rfl, by omega, by omega⟩
        rw [← half_pow]
        have ew : IntKind.u32.wrap (((s / 2 ^ k : Nat) : Int).tdiv 2) = ((s / 2 ^ k / 2 : Nat) : Int) := by
          generalize s / 2 ^ k = w at hb ⊢
          have e2 : ((w : Int)).tdiv 2 = ((w / 2 : Nat) : Int) := by
            rw [Int.tdiv_eq_ediv_of_nonneg (by omega)]
            omega
          rw [e2]
          simp only [IntKind.wrap, IntKind.signed, IntKind.bits]
          simp
          omega
        simp (maxSteps := 4000000) (disch := first | decide | assumption | omega | (simp only [wL]; omega)) only [go_sem, simprocAttr, weak_int, weak_same, ew]
        all_goals rfl
      · have : k = m := by omega
        subst this
        repeat' (first | (with_reducible first | (refine wN fun nl hnl => ?_; revert hnl; (repeat refine wS fun _ _ => ?_); intro hnl) | refine wD (by decide +kernel) ?_ | refine wI (fun h => ?_) fun h => ?_ | refine wF (fun h => ?_) fun h => ?_ | refine wG (fun h => ?_) fun h => ?_ | refine wH (fun h => ?_) fun h => ?_ | ((first | refine mfork_bool (fun h => ?_) fun h => ?_ | refine mgfork_bool (fun h => ?_) fun h => ?_) <;> simp only [h])) | simp (maxSteps := 4000000) (disch := first | decide | assumption | omega | (simp only [wL]; omega)) only [go_sem, simprocAttr])
        simp only [hasB, Int.toNat_natCast, MV.bool.injEq]
        have e2 : (((s / 2 ^ k : Nat) : Int).tmod 2) = ((s / 2 ^ k % 2 : Nat) : Int) := by
          generalize s / 2 ^ k = w at hb ⊢
          rw [Int.tmod_eq_emod_of_nonneg (by omega)]
          omega
        refine decide_eq_decide.mpr ?_
        rw [e2]
        generalize s / 2 ^ k % 2 = w
        omega

theorem cmpF_one (x y : ND) : cmpF [x] [y] = cmpL x.key y.key := by
  simp only [cmpF]
  cases h : cmpL x.key y.key <;> simp_all

theorem insN_len (x : ND) : ∀ l : List ND, (insN x l).length ≤ l.length + 1
  | [] => by simp [insN]
  | y :: l => by
    have := insN_len x l
    simp only [insN]
    repeat' split
    all_goals simp
    all_goals omega

theorem foldl_len : ∀ (l acc : List ND), (l.foldl (fun acc x => insN x acc) acc).length ≤ acc.length + l.length
  | [], acc => by simp
  | x :: l, acc => by
    have h1 := foldl_len l (insN x acc)
    have h2 := insN_len x acc
    simp only [List.foldl_cons, List.length_cons]
    omega

theorem mem_foldl {z : ND} : ∀ {l acc : List ND}, z ∈ l.foldl (fun acc x => insN x acc) acc → z ∈ acc ∨ z ∈ l
  | [], acc, h => .inl h
  | x :: l, acc, h => by
    rcases mem_foldl (l := l) h with h | h
    · rcases mem_insN.1 h with h | h
      · exact .inr (List.mem_cons.2 (.inl h))
      · exact .inl h
    · exact .inr (List.mem_cons.2 (.inr h))

theorem insN_pos (x : ND) : ∀ (l : List ND) (i : Nat), i ≤ l.length → (∀ q, q < i → lessK (l.getD q nd0).key x.key) → insN x l = l.take i ++ insN x (l.drop i)
  | l, 0, _, _ => by simp
  | [], i + 1, h, _ => by simp at h
  | y :: l, i + 1, h, hq => by
    have h0 := hq 0 (by omega)
    have ih := insN_pos x l i (by simp at h; omega) (fun q hlt => by have := hq (q + 1) (by omega); simpa using this)
    simp only [List.getD_cons_zero] at h0
    rw [List.take_succ_cons, List.drop_succ_cons, List.cons_append, ← ih]
    simp only [insN]
    rw [if_pos h0]
end Go.Proofs.Ytielcgplbnlgbaa
end

section
/- Contracts of the document's Says: the conditions that the theorem names. -/
set_option linter.unusedVariables false
set_option linter.unusedSimpArgs false
namespace Go.Proofs.Ytielcgplbnlgbaa

theorem hasB_bit {s i : Nat} (h : i ≤ 31) : hasB s (i : Int) = s.testBit i := by
  rw [hasB, Nat.testBit_eq_decide_div_mod_eq, Int.toNat_natCast]
  exact decide_eq_decide.mpr ⟨fun h => h.2.2, fun h => ⟨by omega, by omega, h⟩⟩

theorem asg_at {l : List ND} (h : Rising (l.map ND.key)) {i : Nat} (hi : i < l.length) (on : Nat) : asg l on (l.getD i nd0) = on.testBit i := by
  have hp : posK l (l.getD i nd0) = i := posK_eq (Nat.le_of_lt hi) (fun q hq => rising_lt h hq hi) (fun q hq hl => by
    rcases Nat.lt_or_ge i q with h1 | h1
    · exact lessK_asymm (rising_lt h h1 hl)
    · rw [show q = i by omega]; exact lessK_irrefl)
  rw [asg, hp, decide_eq_true (getD_mem nd0 hi), Bool.true_and]

theorem not_mem_of {l : List ND} {x : ND} (h : ∀ q, q < l.length → l.getD q nd0 ≠ x) : ¬ x ∈ l := fun hx => by
  obtain ⟨q, hq, e⟩ := List.mem_iff_getElem.1 hx
  exact h q hq (by rw [getD_of_lt nd0 hq]; exact e)

set_option maxHeartbeats 8000000 in
theorem rsays_call (al : List ND) (la : al.length ≤ 32) (hr : Rising (al.map ND.key)) (ta : Bool) (on : Nat) (hon : on < 4294967296) : ∀ (t : T), t.ok → t.fl.length ≤ 1000 → ∀ (tt : Bool),
    MCalls Try.prog 25 [.lst 5 (t.fl.map ND.c) tt, .lst 5 (al.map ND.c) ta, .int .u32 (on : Int)] St.none (fun r _ => r = .bool (t.sem (asg al on)))
  | .leaf x, h, hl, tt => by
    refine (MCalls.body 81 [.tmp 6] Try.func25 rfl rfl rfl rfl ?_)
    have hk := rkids_call (.leaf x) h hl tt
    have hp : x.op ≠ 10 ∧ x.op ≠ 11 ∧ x.op ≠ 12 := by
      refine ⟨fun e => ?_, fun e => ?_, fun e => ?_⟩ <;> (simp only [T.ok, e] at h; revert h; decide)
    obtain ⟨p1, p2, p3⟩ := hp
    simp only [T.fl, T.kl, T.kids, List.map_cons, List.map_nil] at hk ⊢
    by_cases h1 : x.op = 1
    · repeat' (first | (with_reducible refine use_pure hk ?_) | (with_reducible first | (refine wT ?_; refine wN fun _ hnl => ?_; revert hnl; (repeat refine wS fun _ _ => ?_); intro hnl) | refine wD (by decide +kernel) ?_ | refine wI (fun h => ?_) fun h => ?_ | refine wF (fun h => ?_) fun h => ?_ | refine wG (fun h => ?_) fun h => ?_ | refine wH (fun h => ?_) fun h => ?_ | ((first | refine mfork_bool (fun h => ?_) fun h => ?_ | refine mgfork_bool (fun h => ?_) fun h => ?_) <;> simp only [h])) | simp (maxSteps := 4000000) (disch := first | decide | assumption | omega | (simp only [wL]; omega)) only [go_sem, simprocAttr, Try.f25])
      simp [T.sem, h1]
    · by_cases h2 : x.op = 2
      · repeat' (first | (with_reducible refine use_pure hk ?_) | (with_reducible first | (refine wT ?_; refine wN fun _ hnl => ?_; revert hnl; (repeat refine wS fun _ _ => ?_); intro hnl) | refine wD (by decide +kernel) ?_ | refine wI (fun h => ?_) fun h => ?_ | refine wF (fun h => ?_) fun h => ?_ | refine wG (fun h => ?_) fun h => ?_ | refine wH (fun h => ?_) fun h => ?_ | ((first | refine mfork_bool (fun h => ?_) fun h => ?_ | refine mgfork_bool (fun h => ?_) fun h => ?_) <;> simp only [h])) | simp (maxSteps := 4000000) (disch := first | decide | assumption | omega | (simp only [wL]; omega)) only [go_sem, simprocAttr, Try.f25])
        simp [T.sem, h1, h2]
      · have e : (T.leaf x).sem (asg al on) = asg al on x := by simp [T.sem, h1, h2]
        rw [e]
        repeat' (first | (with_reducible refine use_pure hk ?_) | (with_reducible first | (refine wT ?_; refine wN fun _ hnl => ?_; revert hnl; (repeat refine wS fun _ _ => ?_); intro hnl) | refine wD (by decide +kernel) ?_ | refine wI (fun h => ?_) fun h => ?_ | refine wF (fun h => ?_) fun h => ?_ | refine wG (fun h => ?_) fun h => ?_ | refine wH (fun h => ?_) fun h => ?_ | ((first | refine mfork_bool (fun h => ?_) fun h => ?_ | refine mgfork_bool (fun h => ?_) fun h => ?_) <;> simp only [h])) | simp (maxSteps := 4000000) (disch := first | decide | assumption | omega | (simp only [wL]; omega)) only [go_sem, simprocAttr, Try.f25])
        refine mloop_intro (α := Nat) (fun i => ⟨81, [(8, .int .i64 (i : Int)), (0, .lst 5 [x.c] tt), (1, .lst 5 (al.map ND.c) ta), (2, .int .u32 (on : Int))], []⟩)
          (fun _ => St.none) (fun i => i ≤ al.length ∧ ∀ q, q < i → al.getD q nd0 ≠ x) (fun i => al.length - i) (.of (.less ?_ (St.le_refl _)) ⟨0, rfl, rfl, Nat.zero_le _, fun q hq => absurd hq (Nat.not_lt_zero _)⟩) ?_
        · simp (maxSteps := 4000000) (disch := first | decide | assumption | omega | (simp only [wL]; omega)) only [go_sem, simprocAttr, weak_int, weak_same]
          all_goals rfl
        · rintro i ⟨hi, hq⟩
          by_cases hlt : i < al.length
          · have hhas := rhas_call on (i : Int) hon
            rw [hasB_bit (by omega)] at hhas
            repeat' (first | (with_reducible refine use_pure hhas ?_) | (with_reducible first | (refine wT ?_; refine wN fun _ hnl => ?_; revert hnl; (repeat refine wS fun _ _ => ?_); intro hnl) | refine wD (by decide +kernel) ?_ | refine wI (fun h => ?_) fun h => ?_ | refine wF (fun h => ?_) fun h => ?_ | refine wG (fun h => ?_) fun h => ?_ | refine wH (fun h => ?_) fun h => ?_ | ((first | refine mfork_bool (fun h => ?_) fun h => ?_ | refine mgfork_bool (fun h => ?_) fun h => ?_) <;> simp only [h])) | simp (maxSteps := 4000000) (disch := first | decide | assumption | omega | (simp only [wL]; omega)) only [go_sem, simprocAttr, getD_mapd nd0])
            · have := nd_ext h
              rw [← this, asg_at hr hlt]
            · refine .of (.less ?_ (St.le_refl _)) ⟨i + 1, rfl, rfl, ⟨by omega, fun q hq' => ?_⟩, by omega⟩
              · simp (maxSteps := 4000000) (disch := first | decide | assumption | omega | (simp only [wL]; omega)) only [go_sem, simprocAttr, weak_int, weak_same]
                all_goals rfl
              · rcases Nat.lt_or_ge q i with h3 | h3
                · exact hq q h3
                · rw [show q = i by omega]
                  intro e
                  exact h (by rw [e]; exact ⟨rfl, rfl, rfl, rfl, rfl⟩)
          · have hie : i = al.length := by omega
            subst hie
            repeat' (first | (with_reducible first | (refine wT ?_; refine wN fun _ hnl => ?_; revert hnl; (repeat refine wS fun _ _ => ?_); intro hnl) | refine wD (by decide +kernel) ?_ | refine wI (fun h => ?_) fun h => ?_ | refine wF (fun h => ?_) fun h => ?_ | refine wG (fun h => ?_) fun h => ?_ | refine wH (fun h => ?_) fun h => ?_ | ((first | refine mfork_bool (fun h => ?_) fun h => ?_ | refine mgfork_bool (fun h => ?_) fun h => ?_) <;> simp only [h])) | simp (maxSteps := 4000000) (disch := first | decide | assumption | omega | (simp only [wL]; omega)) only [go_sem, simprocAttr, getD_mapd nd0])
            rw [asg, decide_eq_false (not_mem_of hq), Bool.false_and]
  | .one x a, h, hl, tt => by
    refine (MCalls.body 81 [.tmp 6] Try.func25 rfl rfl rfl rfl ?_)
    have hk := rkids_call (.one x a) h hl tt
    have h1 := parts_one h.1
    have hla : a.fl.length ≤ 1000 := by simp only [T.fl, List.length_cons] at hl; omega
    have ih := rsays_call al la hr ta on hon a h.2 hla false
    simp only [T.fl, T.kl, T.kids, List.map_cons, List.map_nil] at hk ⊢
    repeat' (first | (with_reducible refine use_pure hk ?_) | (with_reducible refine use_pure ih ?_) | (with_reducible first | (refine wT ?_; refine wN fun _ hnl => ?_; revert hnl; (repeat refine wS fun _ _ => ?_); intro hnl) | refine wD (by decide +kernel) ?_ | refine wI (fun h => ?_) fun h => ?_ | refine wF (fun h => ?_) fun h => ?_ | refine wG (fun h => ?_) fun h => ?_ | refine wH (fun h => ?_) fun h => ?_ | ((first | refine mfork_bool (fun h => ?_) fun h => ?_ | refine mgfork_bool (fun h => ?_) fun h => ?_) <;> simp only [h])) | simp (maxSteps := 4000000) (disch := first | decide | assumption | omega | (simp only [wL]; omega)) only [go_sem, simprocAttr, Try.f25, h1])
    simp [T.sem]
  | .two x a b, h, hl, tt => by
    refine (MCalls.body 81 [.tmp 6] Try.func25 rfl rfl rfl rfl ?_)
    have hk := rkids_call (.two x a b) h hl tt
    have hla : a.fl.length ≤ 1000 ∧ b.fl.length ≤ 1000 := by simp only [T.fl, List.length_cons, List.length_append] at hl; omega
    have iha := rsays_call al la hr ta on hon a h.2.1 hla.1 false
    have ihb := rsays_call al la hr ta on hon b h.2.2 hla.2 false
    simp only [T.fl, T.kl, T.kids, List.map_cons, List.map_nil] at hk ⊢
    rcases parts_two h.1 with h1 | h1
    · repeat' (first | (with_reducible refine use_pure hk ?_) | (with_reducible refine use_pure iha ?_) | (with_reducible refine use_pure ihb ?_) | (with_reducible first | (refine wT ?_; refine wN fun _ hnl => ?_; revert hnl; (repeat refine wS fun _ _ => ?_); intro hnl) | refine wD (by decide +kernel) ?_ | refine wI (fun h => ?_) fun h => ?_ | refine wF (fun h => ?_) fun h => ?_ | refine wG (fun h => ?_) fun h => ?_ | refine wH (fun h => ?_) fun h => ?_ | ((first | refine mfork_bool (fun h => ?_) fun h => ?_ | refine mgfork_bool (fun h => ?_) fun h => ?_) <;> simp only [h])) | simp (maxSteps := 4000000) (disch := first | decide | assumption | omega | (simp only [wL]; omega)) only [go_sem, simprocAttr, Try.f25, h1])
      all_goals simp [T.sem, *]
    · repeat' (first | (with_reducible refine use_pure hk ?_) | (with_reducible refine use_pure iha ?_) | (with_reducible refine use_pure ihb ?_) | (with_reducible first | (refine wT ?_; refine wN fun _ hnl => ?_; revert hnl; (repeat refine wS fun _ _ => ?_); intro hnl) | refine wD (by decide +kernel) ?_ | refine wI (fun h => ?_) fun h => ?_ | refine wF (fun h => ?_) fun h => ?_ | refine wG (fun h => ?_) fun h => ?_ | refine wH (fun h => ?_) fun h => ?_ | ((first | refine mfork_bool (fun h => ?_) fun h => ?_ | refine mgfork_bool (fun h => ?_) fun h => ?_) <;> simp only [h])) | simp (maxSteps := 4000000) (disch := first | decide | assumption | omega | (simp only [wL]; omega)) only [go_sem, simprocAttr, Try.f25, h1])
      all_goals simp [T.sem, *]
end Go.Proofs.Ytielcgplbnlgbaa
end

section
/- Contract of the reference's Atoms (UNDER WAY): the conditions that the theorem names. -/
set_option linter.unusedVariables false
set_option linter.unusedSimpArgs false
namespace Go.Proofs.Ytielcgplbnlgbaa

theorem insN_at {acc : List ND} {x : ND} {i : Nat} (hi : i ≤ acc.length) (hq : ∀ q, q < i → lessK (acc.getD q nd0).key x.key) (h1 : i < acc.length → ¬ lessK (acc.getD i nd0).key x.key ∧ acc.getD i nd0 ≠ x) : insN x acc = acc.take i ++ [x] ++ acc.drop i := by
  rw [insN_pos x acc i hi hq, List.append_assoc]
  congr 1
  by_cases h : i < acc.length
  · obtain ⟨h2, h3⟩ := h1 h
    rw [drop_getD nd0 h]
    simp only [insN]
    rw [if_neg h2, if_neg h3]
    rfl
  · rw [List.drop_eq_nil_of_le (by omega)]
    rfl
theorem insN_there {acc : List ND} {x : ND} {i : Nat} (hi : i < acc.length) (hq : ∀ q, q < i → lessK (acc.getD q nd0).key x.key) (h1 : acc.getD i nd0 = x) : insN x acc = acc := by
  rw [insN_pos x acc i (Nat.le_of_lt hi) hq, drop_getD nd0 hi, h1]
  simp only [insN]
  rw [if_neg lessK_irrefl, if_pos trivial, ← h1, ← drop_getD nd0 hi, List.take_append_drop]
theorem ord_less {x y : ND} : ordI (cmpF [x] [y]) < 0 ↔ lessK x.key y.key := by
  rw [cmpF_one]; unfold lessK; cases cmpL x.key y.key <;> simp [ordI]
theorem fold_succ {l : List ND} {k : Nat} (h : k < l.length) (hat : atomR (l.getD k nd0) = true) : ((l.take (k + 1)).filter atomR).foldl (fun acc x => insN x acc) [] = insN (l.getD k nd0) (((l.take k).filter atomR).foldl (fun acc x => insN x acc) []) := by
  rw [getD_of_lt nd0 h] at hat ⊢
  rw [List.take_succ_eq_append_getElem h, List.filter_append, List.foldl_append]
  simp [hat]

set_option maxHeartbeats 4000000 in
theorem ratoms_call (a b : List ND) (ta tb : Bool) (la : a.length ≤ 100000) (lb : b.length ≤ 100000) (ha : ∀ x, x ∈ a → x.v.s.size ≤ 1000000) (hb : ∀ x, x ∈ b → x.v.s.size ≤ 1000000) :
    MCalls Try.prog 14 [.lst 5 (a.map ND.c) ta, .lst 5 (b.map ND.c) tb] St.none (fun r _ => r = .lst 5 ((((a ++ b).filter atomR).foldl (fun acc x => insN x acc) []).map ND.c) false) := by
  refine MCalls.seen (MCalls.body 82 [.tmp 4] Try.func14 rfl rfl rfl rfl ?_)
  repeat' (first | (with_reducible first | (refine wN fun nl hnl => ?_; revert hnl; (repeat refine wS fun _ _ => ?_); intro hnl) | refine wD (by decide +kernel) ?_ | refine wI (fun h => ?_) fun h => ?_ | refine wF (fun h => ?_) fun h => ?_ | refine wG (fun h => ?_) fun h => ?_ | refine wH (fun h => ?_) fun h => ?_ | ((first | refine mfork_bool (fun h => ?_) fun h => ?_ | refine mgfork_bool (fun h => ?_) fun h => ?_) <;> simp only [h])) | simp (maxSteps := 4000000) (disch := first | decide | assumption | omega | (simp only [wL]; omega)) only [go_sem, simprocAttr, Try.f14])
  refine mloop_intro (α := Nat × List ND) (fun a1 => ⟨82, [(7, .int .i64 (a1.1 : Int)), (6, .lst 5 (a1.2.map ND.c) false), (5, .lst 5 ((a ++ b).map ND.c) false)], []⟩)
    (fun _ => St.none) (fun a1 => a1.1 ≤ a.length + b.length ∧ a1.2 = (((a ++ b).take a1.1).filter atomR).foldl (fun acc x => insN x acc) []) (fun a1 => a.length + b.length - a1.1) ?_ ?_
  · refine .step (Ghost.freeze (l1 := [(7, .int .i64 0), (6, .lst 5 [] false), (5, .lst 5 ((a ++ b).map ND.c) false)]) _ (St.le_refl _) (σ1 := St.none) (St.none_le _) (fun k o hk => by cases hk) ?_) (.done ⟨(0, []), rfl, rfl, Nat.zero_le _, rfl⟩)
    simp (maxSteps := 4000000) (disch := first | decide | assumption | omega | (simp only [wL]; omega)) only [go_sem, simprocAttr, weak_same]
    all_goals exact ⟨.same _, .vecAll (set_hit _ _ _) rfl, .vecAll ((set_miss _ _ _ _ (by assumption)).trans (set_hit _ _ _)) (by simp)⟩
  · rintro ⟨k, acc⟩ ⟨hk, hacc⟩
    simp only at hk hacc ⊢
    by_cases hlt : k < a.length + b.length
    · have hm : (a ++ b).length = a.length + b.length := List.length_append ..
      cases hat : atomR ((a ++ b).getD k nd0)
      · repeat' (first | (with_reducible refine use_pure (ratom_call _) ?_) | (with_reducible first | (refine wN fun nl hnl => ?_; revert hnl; (repeat refine wS fun _ _ => ?_); intro hnl) | refine wD (by decide +kernel) ?_ | refine wI (fun h => ?_) fun h => ?_ | refine wF (fun h => ?_) fun h => ?_ | refine wG (fun h => ?_) fun h => ?_ | refine wH (fun h => ?_) fun h => ?_ | ((first | refine mfork_bool (fun h => ?_) fun h => ?_ | refine mgfork_bool (fun h => ?_) fun h => ?_) <;> simp only [h])) | simp (maxSteps := 4000000) (disch := first | decide | assumption | omega | (simp only [wL]; omega)) only [go_sem, simprocAttr, getD_mapd nd0, hat, hm, hlt])
        refine .of (.less (l1 := [(7, .int .i64 ((k + 1 : Nat) : Int)), (6, .lst 5 (acc.map ND.c) false), (5, .lst 5 ((a ++ b).map ND.c) false)]) ?_ (St.le_refl _)) ⟨(k + 1, acc), rfl, rfl, ⟨by simp only; omega, ?_⟩, by simp only; omega⟩
        · simp (maxSteps := 4000000) (disch := first | decide | assumption | omega | (simp only [wL]; omega)) only [go_sem, simprocAttr, weak_int, weak_same]
          all_goals rfl
        · simp only
          rw [List.take_succ_eq_append_getElem (by omega), List.filter_append, List.foldl_append, ← hacc]
          rw [getD_of_lt nd0 (by omega)] at hat
          simp [hat]
      · repeat' (first | (with_reducible refine use_pure (ratom_call _) ?_) | (with_reducible first | (refine wN fun nl hnl => ?_; revert hnl; (repeat refine wS fun _ _ => ?_); intro hnl) | refine wD (by decide +kernel) ?_ | refine wI (fun h => ?_) fun h => ?_ | refine wF (fun h => ?_) fun h => ?_ | refine wG (fun h => ?_) fun h => ?_ | refine wH (fun h => ?_) fun h => ?_ | ((first | refine mfork_bool (fun h => ?_) fun h => ?_ | refine mgfork_bool (fun h => ?_) fun h => ?_) <;> simp only [h])) | simp (maxSteps := 4000000) (disch := first | decide | assumption | omega | (simp only [wL]; omega)) only [go_sem, simprocAttr, getD_mapd nd0, hat, hm, hlt])
        refine mloop_intro (α := Nat) (fun i => ⟨82, [(8, .int .i64 (i : Int)), (7, .int .i64 (k : Int)), (6, .lst 5 (acc.map ND.c) false), (5, .lst 5 ((a ++ b).map ND.c) false)], []⟩)
          (fun _ => St.none) (fun i => i ≤ acc.length ∧ ∀ q, q < i → lessK (acc.getD q nd0).key ((a ++ b).getD k nd0).key) (fun i => acc.length - i) (.of (.less ?_ (St.le_refl _)) ⟨0, rfl, rfl, Nat.zero_le _, by omega⟩) ?_
        · simp (maxSteps := 4000000) (disch := first | decide | assumption | omega | (simp only [wL]; omega)) only [go_sem, simprocAttr, weak_int, weak_same]
          all_goals rfl
        · rintro i ⟨hi, hq⟩
          have hkl : k < (a ++ b).length := by omega
          have hal : acc.length ≤ 200000 := by
            have h1 := foldl_len (((a ++ b).take k).filter atomR) []
            have h2 := List.length_filter_le atomR ((a ++ b).take k)
            have h3 : ((a ++ b).take k).length ≤ k := by rw [List.length_take]; omega
            rw [← hacc] at h1
            simp only [List.length_nil] at h1
            omega
          by_cases hia : i < acc.length
          · have hsz : ∀ x, x ∈ a ++ b → x.v.s.size ≤ 1000000 := fun x hx => (List.mem_append.1 hx).elim (ha x) (hb x)
            have hin : ∀ x, x ∈ acc → x ∈ a ++ b := fun x hx => by
              rw [hacc] at hx
              rcases mem_foldl hx with h | h
              · cases h
              · exact List.mem_of_mem_take (List.mem_filter.1 h).1
            have hrc := rcompare_call [acc.getD i nd0] [(a ++ b).getD k nd0] (by simp) (by simp) (fun x hx => by rw [List.mem_singleton.1 hx]; exact hsz _ (hin _ (by rw [getD_of_lt nd0 hia]; exact List.getElem_mem hia))) (fun x hx => by rw [List.mem_singleton.1 hx]; exact hsz _ (by rw [getD_of_lt nd0 (by omega)]; exact List.getElem_mem _)) (false && decide (i + 1 = acc.length)) (false && decide (k + 1 = a.length + b.length))
            simp only [List.map_cons, List.map_nil] at hrc
            have one : ∀ (l : List ND) (q : Nat), q < l.length → (l.take (q + 1)).drop q = [l.getD q nd0] := fun l q h => by
              rw [List.take_succ_eq_append_getElem h, List.drop_append_of_le_length (by simp; omega), List.drop_of_length_le (by simp; omega), getD_of_lt nd0 h]; rfl
            have hd1 := one acc i hia
            have hd2 := one (a ++ b) k hkl
            repeat' (first | (with_reducible first | (refine wN fun nl hnl => ?_; revert hnl; (repeat refine wS fun _ _ => ?_); intro hnl) | refine wD (by decide +kernel) ?_ | refine wI (fun h => ?_) fun h => ?_ | refine wF (fun h => ?_) fun h => ?_ | refine wG (fun h => ?_) fun h => ?_ | refine wH (fun h => ?_) fun h => ?_ | ((first | refine mfork_bool (fun h => ?_) fun h => ?_ | refine mgfork_bool (fun h => ?_) fun h => ?_) <;> simp only [h])) | simp (maxSteps := 4000000) (disch := first | decide | assumption | omega | (simp only [wL]; omega)) only [go_sem, simprocAttr, getD_mapd nd0, hm])
            refine mdraw_know mixed (by decide +kernel) (fun g ms => if g = 36 then some ⟨[], fun v => v = .int .i64 (ordI (cmpF [acc.getD i nd0] [(a ++ b).getD k nd0])), none⟩ else none) ?_
            repeat' (first | (with_reducible refine know_pure rfl hrc ?_) | (with_reducible first | (refine wN fun nl hnl => ?_; revert hnl; (repeat refine wS fun _ _ => ?_); intro hnl) | refine wD (by decide +kernel) ?_ | refine wI (fun h => ?_) fun h => ?_ | refine wF (fun h => ?_) fun h => ?_ | refine wG (fun h => ?_) fun h => ?_ | refine wH (fun h => ?_) fun h => ?_ | ((first | refine mfork_bool (fun h => ?_) fun h => ?_ | refine mgfork_bool (fun h => ?_) fun h => ?_) <;> simp only [h])) | simp (maxSteps := 4000000) (disch := first | decide | assumption | omega | (simp only [wL]; omega)) only [go_sem, simprocAttr, getD_mapd nd0, hm, hd1, hd2])
            · refine .of (.less ?_ (St.le_refl _)) ⟨i + 1, rfl, rfl, ⟨by omega, fun q hq' => ?_⟩, by omega⟩
              · simp (maxSteps := 4000000) (disch := first | decide | assumption | omega | (simp only [wL]; omega)) only [go_sem, simprocAttr, weak_int, weak_same]
                all_goals rfl
              · rcases Nat.lt_or_ge q i with hlt' | hge
                · exact hq q hlt'
                · have : q = i := by omega
                  subst this
                  exact ord_less.1 h
            · refine .of (.less ?_ (St.le_refl _)) ⟨(k + 1, acc), rfl, rfl, ⟨by simp only; omega, ?_⟩, by simp only; omega⟩
              · simp (maxSteps := 4000000) (disch := first | decide | assumption | omega | (simp only [wL]; omega)) only [go_sem, simprocAttr, weak_int, weak_same]
                all_goals rfl
              · simp only
                rw [fold_succ hkl hat, ← hacc, insN_there hia hq (nd_ext h)]
            · have hnl : ¬ ordI (cmpF [acc.getD i nd0] [(a ++ b).getD k nd0]) < 0 := by assumption
              have hins := insN_at hi hq (fun _ => ⟨fun hl => hnl (ord_less.2 hl), fun e => h (by rw [e]; exact ⟨rfl, rfl, rfl, rfl, rfl⟩)⟩)
              refine .of (Ghost.freeze _ (St.le_refl _) (St.none_le _) (fun k o hk => by cases hk) ?_) ⟨(k + 1, insN ((a ++ b).getD k nd0) acc), rfl, rfl, ⟨by simp only; omega, ?_⟩, by simp only; omega⟩
              · have e : (insN ((a ++ b).getD k nd0) acc).map ND.c = List.map ND.c (List.take i acc) ++ [((a ++ b).getD k nd0).c] ++ List.map ND.c (List.drop i acc) := by
                  rw [hins, List.map_append, List.map_append]; rfl
                simp only [e]
                intro p hp
                simp only [List.mem_cons, List.not_mem_nil, or_false] at hp
                rcases hp with rfl | rfl | rfl
                · exact .same _
                · exact .vecAll (set_hit _ _ _) (by simp only [List.length_append, List.length_map, List.length_take, List.length_drop, List.length_cons, List.length_nil])
                · exact .same _
              · simp only
                rw [fold_succ hkl hat, ← hacc]
          · have hia' : i = acc.length := by omega
            subst hia'
            have hins := insN_at hi hq (fun h => absurd h hia)
            repeat' (first | (with_reducible first | (refine wN fun nl hnl => ?_; revert hnl; (repeat refine wS fun _ _ => ?_); intro hnl) | refine wD (by decide +kernel) ?_ | refine wI (fun h => ?_) fun h => ?_ | refine wF (fun h => ?_) fun h => ?_ | refine wG (fun h => ?_) fun h => ?_ | refine wH (fun h => ?_) fun h => ?_ | ((first | refine mfork_bool (fun h => ?_) fun h => ?_ | refine mgfork_bool (fun h => ?_) fun h => ?_) <;> simp only [h])) | simp (maxSteps := 4000000) (disch := first | decide | assumption | omega | (simp only [wL]; omega)) only [go_sem, simprocAttr, getD_mapd nd0, hm])
            refine mdraw_know mixed (by decide +kernel) (fun g ms => none) ?_
            repeat' (first | (with_reducible first | (refine wN fun nl hnl => ?_; revert hnl; (repeat refine wS fun _ _ => ?_); intro hnl) | refine wD (by decide +kernel) ?_ | refine wI (fun h => ?_) fun h => ?_ | refine wF (fun h => ?_) fun h => ?_ | refine wG (fun h => ?_) fun h => ?_ | refine wH (fun h => ?_) fun h => ?_ | ((first | refine mfork_bool (fun h => ?_) fun h => ?_ | refine mgfork_bool (fun h => ?_) fun h => ?_) <;> simp only [h])) | simp (maxSteps := 4000000) (disch := first | decide | assumption | omega | (simp only [wL]; omega)) only [go_sem, simprocAttr, getD_mapd nd0, hm, List.take_length, List.drop_length, Nat.min_self])
            refine .of (Ghost.freeze _ (St.le_refl _) (St.none_le _) (fun k o hk => by cases hk) ?_) ⟨(k + 1, insN ((a ++ b).getD k nd0) acc), rfl, rfl, ⟨by simp only; omega, ?_⟩, by simp only; omega⟩
            · have e : (insN ((a ++ b).getD k nd0) acc).map ND.c = List.map ND.c acc ++ [((a ++ b).getD k nd0).c] := by
                rw [hins, List.take_length, List.drop_length, List.append_nil, List.map_append]; rfl
              simp only [e]
              intro p hp
              simp only [List.mem_cons, List.not_mem_nil, or_false] at hp
              rcases hp with rfl | rfl | rfl
              · exact .same _
              · exact .vecAll ((set_hit _ _ _).trans (by first | rfl | (rw [List.append_nil]; rfl))) (by simp only [List.length_append, List.length_map, List.length_cons, List.length_nil])
              · exact .same _
            · simp only
              rw [fold_succ hkl (by assumption), ← hacc]
    · have : k = (a ++ b).length := by rw [List.length_append]; omega
      repeat' (first | (with_reducible first | (refine wN fun nl hnl => ?_; revert hnl; (repeat refine wS fun _ _ => ?_); intro hnl) | refine wD (by decide +kernel) ?_ | refine wI (fun h => ?_) fun h => ?_ | refine wF (fun h => ?_) fun h => ?_ | refine wG (fun h => ?_) fun h => ?_ | refine wH (fun h => ?_) fun h => ?_ | ((first | refine mfork_bool (fun h => ?_) fun h => ?_ | refine mgfork_bool (fun h => ?_) fun h => ?_) <;> simp only [h])) | simp (maxSteps := 4000000) (disch := first | decide | assumption | omega | (simp only [wL]; omega)) only [go_sem, simprocAttr, List.take_length, List.length_append])
      rw [hacc, this, List.take_length]
      exact .same _
end Go.Proofs.Ytielcgplbnlgbaa
end

section
/- Contracts of the document's Implies and Equal: the conditions that the theorems name. -/
set_option linter.unusedVariables false
set_option linter.unusedSimpArgs false
namespace Go.Proofs.Ytielcgplbnlgbaa

theorem ratoms_eq {l : List ND} (h : ∀ x, x ∈ l → ndOk x = true) : (l.filter atomR).foldl (fun acc x => insN x acc) [] = atomsS l := by
  rw [atomsS, List.filter_congr fun x hx => (atom_same (h x hx)).symm]
theorem atoms_swap (a b : List ND) : atomsS (b ++ a) = atomsS (a ++ b) :=
  nd_unique (atoms_rising _) (atoms_rising _) fun x => by rw [mem_atoms, mem_atoms, List.mem_append, List.mem_append, Or.comm]

/-- A tree that is fit, as it comes in. -/
structure FT (t : T) : Prop where
  good : Good t
  len : t.fl.length ≤ 63
  size : ∀ x, x ∈ t.fl → x.v.s.size ≤ 1000000
theorem FT.fit {t : T} (h : FT t) : fitS t.fl = true := by
  have hp := t.fl_pos
  have e := endS_fl h.good.1 [] []
  simp only [List.nil_append, List.append_nil, List.length_nil, Nat.zero_add] at e
  simp only [fitS, Bool.and_eq_true, decide_eq_true_eq, List.all_eq_true]
  exact ⟨⟨⟨List.length_pos_iff.1 hp, h.len⟩, e⟩, h.good.2⟩
theorem FT.of {l : List ND} (h : fitS l = true) (hs : ∀ x, x ∈ l → x.v.s.size ≤ 1000000) : ∃ t : T, l = t.fl ∧ FT t := by
  obtain ⟨t, ht, e, hl, hn⟩ := fit_tree h
  subst e
  exact ⟨t, rfl, ⟨⟨ht, hn⟩, hl, hs⟩⟩

theorem ft_atoms {s t : T} (hs : FT s) (ht : FT t) : ((s.fl ++ t.fl).filter atomR).foldl (fun acc x => insN x acc) [] = atomsS (s.fl ++ t.fl) :=
  ratoms_eq fun x hx => (List.mem_append.1 hx).elim (hs.good.2 x) (ht.good.2 x)

def impV (s t : T) : MV := if (atomsS (s.fl ++ t.fl)).length ≤ 10 then .tup [.bool (impB (atomsS (s.fl ++ t.fl)) s t), .int .i64 0] else .tup [.bool false, .int .i64 4]

theorem rimplies_not (a b : List ND) (ta tb : Bool) (h : (fitS a && fitS b) = false) : MCalls Try.prog 16 [.lst 5 (a.map ND.c) ta, .lst 5 (b.map ND.c) tb] St.none (fun r _ => r = .tup [.bool false, .int .i64 1]) := by
  refine (MCalls.body 50 [.tmp 4, .tmp 5] Try.func16 rfl rfl rfl rfl ?_)
  have h1 := rfit_call a ta
  have h2 := rfit_call b tb
  cases ha : fitS a <;> cases hb : fitS b
  · rw [ha] at h1; rw [hb] at h2
    repeat' (first | (with_reducible refine use_pure h1 ?_) | (with_reducible refine use_pure h2 ?_) | (with_reducible first | (refine wT ?_; refine wN fun _ hnl => ?_; revert hnl; (repeat refine wS fun _ _ => ?_); intro hnl) | refine wD (by decide +kernel) ?_ | refine wI (fun h => ?_) fun h => ?_ | refine wF (fun h => ?_) fun h => ?_ | refine wG (fun h => ?_) fun h => ?_ | refine wH (fun h => ?_) fun h => ?_ | ((first | refine mfork_bool (fun h => ?_) fun h => ?_ | refine mgfork_bool (fun h => ?_) fun h => ?_) <;> simp only [h])) | simp (maxSteps := 4000000) (disch := first | decide | assumption | omega | (simp only [wL]; omega)) only [go_sem, simprocAttr, Try.f16])
  · rw [ha] at h1; rw [hb] at h2
    repeat' (first | (with_reducible refine use_pure h1 ?_) | (with_reducible refine use_pure h2 ?_) | (with_reducible first | (refine wT ?_; refine wN fun _ hnl => ?_; revert hnl; (repeat refine wS fun _ _ => ?_); intro hnl) | refine wD (by decide +kernel) ?_ | refine wI (fun h => ?_) fun h => ?_ | refine wF (fun h => ?_) fun h => ?_ | refine wG (fun h => ?_) fun h => ?_ | refine wH (fun h => ?_) fun h => ?_ | ((first | refine mfork_bool (fun h => ?_) fun h => ?_ | refine mgfork_bool (fun h => ?_) fun h => ?_) <;> simp only [h])) | simp (maxSteps := 4000000) (disch := first | decide | assumption | omega | (simp only [wL]; omega)) only [go_sem, simprocAttr, Try.f16])
  · rw [ha] at h1; rw [hb] at h2
    repeat' (first | (with_reducible refine use_pure h1 ?_) | (with_reducible refine use_pure h2 ?_) | (with_reducible first | (refine wT ?_; refine wN fun _ hnl => ?_; revert hnl; (repeat refine wS fun _ _ => ?_); intro hnl) | refine wD (by decide +kernel) ?_ | refine wI (fun h => ?_) fun h => ?_ | refine wF (fun h => ?_) fun h => ?_ | refine wG (fun h => ?_) fun h => ?_ | refine wH (fun h => ?_) fun h => ?_ | ((first | refine mfork_bool (fun h => ?_) fun h => ?_ | refine mgfork_bool (fun h => ?_) fun h => ?_) <;> simp only [h])) | simp (maxSteps := 4000000) (disch := first | decide | assumption | omega | (simp only [wL]; omega)) only [go_sem, simprocAttr, Try.f16])
  · rw [ha, hb] at h; cases h

set_option maxHeartbeats 4000000 in
theorem rimplies_fit (s t : T) (hs : FT s) (ht : FT t) (ta tb : Bool) : MCalls Try.prog 16 [.lst 5 (s.fl.map ND.c) ta, .lst 5 (t.fl.map ND.c) tb] St.none (fun r _ => r = impV s t) := by
  refine (MCalls.body 50 [.tmp 4, .tmp 5] Try.func16 rfl rfl rfl rfl ?_)
  have h1 := rfit_call s.fl ta
  have h2 := rfit_call t.fl tb
  rw [hs.fit] at h1
  rw [ht.fit] at h2
  have hls := hs.len
  have hlt := ht.len
  have h3 := ratoms_call s.fl t.fl ta tb (by omega) (by omega) hs.size ht.size
  rw [ft_atoms hs ht] at h3
  have hr := atoms_rising (s.fl ++ t.fl)
  unfold impV
  generalize atomsS (s.fl ++ t.fl) = l at h3 hr ⊢
  by_cases h10 : l.length ≤ 10
  · rw [if_pos h10]
    have hp10 : 2 ^ l.length ≤ 1024 := by simpa using Nat.pow_le_pow_right (n := 2) (by omega) h10
    repeat' (first | (with_reducible refine use_pure h1 ?_) | (with_reducible refine use_pure h2 ?_) | (with_reducible refine use_pure h3 ?_) | (with_reducible first | (refine wT ?_; refine wN fun _ hnl => ?_; revert hnl; (repeat refine wS fun _ _ => ?_); intro hnl) | refine wD (by decide +kernel) ?_ | refine wI (fun h => ?_) fun h => ?_ | refine wF (fun h => ?_) fun h => ?_ | refine wG (fun h => ?_) fun h => ?_ | refine wH (fun h => ?_) fun h => ?_ | ((first | refine mfork_bool (fun h => ?_) fun h => ?_ | refine mgfork_bool (fun h => ?_) fun h => ?_) <;> simp only [h])) | simp (maxSteps := 4000000) (disch := first | decide | assumption | omega | (simp only [wL]; omega)) only [go_sem, simprocAttr, Try.f16])
    refine mloop_intro (α := Nat) (fun i => ⟨50, [(8, .int .i64 (i : Int)), (7, .int .i64 ((2 ^ i : Nat) : Int)), (6, .lst 5 (l.map ND.c) false), (0, .lst 5 (s.fl.map ND.c) ta), (1, .lst 5 (t.fl.map ND.c) tb)], []⟩)
      (fun _ => St.none) (fun i => i ≤ l.length) (fun i => l.length - i) (.of (.less ?_ (St.le_refl _)) ⟨0, rfl, rfl, Nat.zero_le _⟩) ?_
    · simp (maxSteps := 4000000) (disch := first | decide | assumption | omega | (simp only [wL]; omega)) only [go_sem, simprocAttr, weak_int, weak_same]
      all_goals first | exact ⟨rfl, rfl⟩ | rfl
    · intro i hi
      have hi : i ≤ l.length := hi
      by_cases hlt' : i < l.length
      · have hpi : 2 ^ i ≤ 512 := by simpa using Nat.pow_le_pow_right (n := 2) (by omega) (show i ≤ 9 by omega)
        have hp1 : ((2 ^ (i + 1) : Nat) : Int) = ((2 ^ i : Nat) : Int) * 2 := by rw [Nat.pow_succ]; exact_mod_cast rfl
        obtain ⟨m, hm⟩ : ∃ m : Nat, 2 ^ i = m := ⟨_, rfl⟩
        rw [hm] at hpi hp1
        repeat' (first | (with_reducible first | (refine wT ?_; refine wN fun _ hnl => ?_; revert hnl; (repeat refine wS fun _ _ => ?_); intro hnl) | refine wD (by decide +kernel) ?_ | refine wI (fun h => ?_) fun h => ?_ | refine wF (fun h => ?_) fun h => ?_ | refine wG (fun h => ?_) fun h => ?_ | refine wH (fun h => ?_) fun h => ?_ | ((first | refine mfork_bool (fun h => ?_) fun h => ?_ | refine mgfork_bool (fun h => ?_) fun h => ?_) <;> simp only [h])) | simp (maxSteps := 4000000) (disch := first | decide | assumption | omega | (simp only [wL]; omega)) only [go_sem, simprocAttr, hm])
        refine .of (.less ?_ (St.le_refl _)) ⟨i + 1, rfl, rfl, by omega, by omega⟩
        simp (maxSteps := 4000000) (disch := first | decide | assumption | omega | (simp only [wL]; omega)) only [go_sem, simprocAttr, weak_int, weak_same, hp1]
        all_goals rfl
      · have hie : i = l.length := by omega
        subst hie
        obtain ⟨m, hm⟩ : ∃ m : Nat, 2 ^ l.length = m := ⟨_, rfl⟩
        rw [hm] at hp10
        repeat' (first | (with_reducible first | (refine wT ?_; refine wN fun _ hnl => ?_; revert hnl; (repeat refine wS fun _ _ => ?_); intro hnl) | refine wD (by decide +kernel) ?_ | refine wI (fun h => ?_) fun h => ?_ | refine wF (fun h => ?_) fun h => ?_ | refine wG (fun h => ?_) fun h => ?_ | refine wH (fun h => ?_) fun h => ?_ | ((first | refine mfork_bool (fun h => ?_) fun h => ?_ | refine mgfork_bool (fun h => ?_) fun h => ?_) <;> simp only [h])) | simp (maxSteps := 4000000) (disch := first | decide | assumption | omega | (simp only [wL]; omega)) only [go_sem, simprocAttr, hm])
        refine mloop_intro (α := Nat) (fun on => ⟨50, [(9, .int .i64 (on : Int)), (7, .int .i64 (m : Int)), (6, .lst 5 (l.map ND.c) false), (0, .lst 5 (s.fl.map ND.c) ta), (1, .lst 5 (t.fl.map ND.c) tb)], []⟩)
          (fun _ => St.none) (fun on => on ≤ m ∧ ∀ q, q < on → (!s.sem (asg l q) || t.sem (asg l q)) = true) (fun on => m - on) (.of (.less ?_ (St.le_refl _)) ⟨0, rfl, rfl, Nat.zero_le _, fun q hq => absurd hq (Nat.not_lt_zero _)⟩) ?_
        · simp (maxSteps := 4000000) (disch := first | decide | assumption | omega | (simp only [wL]; omega)) only [go_sem, simprocAttr, weak_int, weak_same]
          all_goals rfl
        · rintro on ⟨hon, hq⟩
          by_cases hom : on < m
          · have c1 := rsays_call l (by omega) hr false on (by omega) s hs.good.1 (by omega) ta
            have c2 := rsays_call l (by omega) hr false on (by omega) t ht.good.1 (by omega) tb
            have next : (!s.sem (asg l on) || t.sem (asg l on)) = true → ∀ q, q < on + 1 → (!s.sem (asg l q) || t.sem (asg l q)) = true := fun h q hq' => by
              rcases Nat.lt_or_ge q on with h3 | h3
              · exact hq q h3
              · rw [show q = on by omega]; exact h
            cases e1 : s.sem (asg l on)
            · rw [e1] at c1 next
              repeat' (first | (with_reducible refine use_pure c1 ?_) | (with_reducible refine use_pure c2 ?_) | (with_reducible first | (refine wT ?_; refine wN fun _ hnl => ?_; revert hnl; (repeat refine wS fun _ _ => ?_); intro hnl) | refine wD (by decide +kernel) ?_ | refine wI (fun h => ?_) fun h => ?_ | refine wF (fun h => ?_) fun h => ?_ | refine wG (fun h => ?_) fun h => ?_ | refine wH (fun h => ?_) fun h => ?_ | ((first | refine mfork_bool (fun h => ?_) fun h => ?_ | refine mgfork_bool (fun h => ?_) fun h => ?_) <;> simp only [h])) | simp (maxSteps := 4000000) (disch := first | decide | assumption | omega | (simp only [wL]; omega)) only [go_sem, simprocAttr])
              refine .of (.less ?_ (St.le_refl _)) ⟨on + 1, rfl, rfl, ⟨by omega, next rfl⟩, by omega⟩
              simp (maxSteps := 4000000) (disch := first | decide | assumption | omega | (simp only [wL]; omega)) only [go_sem, simprocAttr, weak_int, weak_same]
              all_goals rfl
            · cases e2 : t.sem (asg l on)
              · rw [e1] at c1; rw [e2] at c2
                have hf : impB l s t = false := by
                  rw [impB, decide_eq_false_iff_not]
                  intro hall
                  have := hall on (by omega)
                  rw [e1, e2] at this
                  cases this
                rw [hf]
                repeat' (first | (with_reducible refine use_pure c1 ?_) | (with_reducible refine use_pure c2 ?_) | (with_reducible first | (refine wT ?_; refine wN fun _ hnl => ?_; revert hnl; (repeat refine wS fun _ _ => ?_); intro hnl) | refine wD (by decide +kernel) ?_ | refine wI (fun h => ?_) fun h => ?_ | refine wF (fun h => ?_) fun h => ?_ | refine wG (fun h => ?_) fun h => ?_ | refine wH (fun h => ?_) fun h => ?_ | ((first | refine mfork_bool (fun h => ?_) fun h => ?_ | refine mgfork_bool (fun h => ?_) fun h => ?_) <;> simp only [h])) | simp (maxSteps := 4000000) (disch := first | decide | assumption | omega | (simp only [wL]; omega)) only [go_sem, simprocAttr])
              · rw [e1] at c1 next; rw [e2] at c2 next
                repeat' (first | (with_reducible refine use_pure c1 ?_) | (with_reducible refine use_pure c2 ?_) | (with_reducible first | (refine wT ?_; refine wN fun _ hnl => ?_; revert hnl; (repeat refine wS fun _ _ => ?_); intro hnl) | refine wD (by decide +kernel) ?_ | refine wI (fun h => ?_) fun h => ?_ | refine wF (fun h => ?_) fun h => ?_ | refine wG (fun h => ?_) fun h => ?_ | refine wH (fun h => ?_) fun h => ?_ | ((first | refine mfork_bool (fun h => ?_) fun h => ?_ | refine mgfork_bool (fun h => ?_) fun h => ?_) <;> simp only [h])) | simp (maxSteps := 4000000) (disch := first | decide | assumption | omega | (simp only [wL]; omega)) only [go_sem, simprocAttr])
                refine .of (.less ?_ (St.le_refl _)) ⟨on + 1, rfl, rfl, ⟨by omega, next rfl⟩, by omega⟩
                simp (maxSteps := 4000000) (disch := first | decide | assumption | omega | (simp only [wL]; omega)) only [go_sem, simprocAttr, weak_int, weak_same]
                all_goals rfl
          · have hoe : on = m := by omega
            subst hoe
            have hf : impB l s t = true := by
              rw [impB, decide_eq_true_eq, hm]; exact hq
            rw [hf]
            repeat' (first | (with_reducible first | (refine wT ?_; refine wN fun _ hnl => ?_; revert hnl; (repeat refine wS fun _ _ => ?_); intro hnl) | refine wD (by decide +kernel) ?_ | refine wI (fun h => ?_) fun h => ?_ | refine wF (fun h => ?_) fun h => ?_ | refine wG (fun h => ?_) fun h => ?_ | refine wH (fun h => ?_) fun h => ?_ | ((first | refine mfork_bool (fun h => ?_) fun h => ?_ | refine mgfork_bool (fun h => ?_) fun h => ?_) <;> simp only [h])) | simp (maxSteps := 4000000) (disch := first | decide | assumption | omega | (simp only [wL]; omega)) only [go_sem, simprocAttr])
  · rw [if_neg h10]
    repeat' (first | (with_reducible refine use_pure h1 ?_) | (with_reducible refine use_pure h2 ?_) | (with_reducible refine use_pure h3 ?_) | (with_reducible first | (refine wT ?_; refine wN fun _ hnl => ?_; revert hnl; (repeat refine wS fun _ _ => ?_); intro hnl) | refine wD (by decide +kernel) ?_ | refine wI (fun h => ?_) fun h => ?_ | refine wF (fun h => ?_) fun h => ?_ | refine wG (fun h => ?_) fun h => ?_ | refine wH (fun h => ?_) fun h => ?_ | ((first | refine mfork_bool (fun h => ?_) fun h => ?_ | refine mgfork_bool (fun h => ?_) fun h => ?_) <;> simp only [h])) | simp (maxSteps := 4000000) (disch := first | decide | assumption | omega | (simp only [wL]; omega)) only [go_sem, simprocAttr, Try.f16])

def eqV' (s t : T) : MV := if (atomsS (s.fl ++ t.fl)).length ≤ 10 then .tup [.bool (impB (atomsS (s.fl ++ t.fl)) s t && impB (atomsS (s.fl ++ t.fl)) t s), .int .i64 0] else .tup [.bool false, .int .i64 4]

theorem requal_not (a b : List ND) (ta tb : Bool) (h : (fitS a && fitS b) = false) : MCalls Try.prog 18 [.lst 5 (a.map ND.c) ta, .lst 5 (b.map ND.c) tb] St.none (fun r _ => r = .tup [.bool false, .int .i64 1]) := by
  refine (MCalls.body 27 [.tmp 4, .tmp 5] Try.func18 rfl rfl rfl rfl ?_)
  have h1 := rimplies_not a b ta tb h
  have h2 := rimplies_not b a tb ta (by rw [Bool.and_comm]; exact h)
  repeat' (first | (with_reducible refine use_pure h1 ?_) | (with_reducible refine use_pure h2 ?_) | (with_reducible first | (refine wT ?_; refine wN fun _ hnl => ?_; revert hnl; (repeat refine wS fun _ _ => ?_); intro hnl) | refine wD (by decide +kernel) ?_ | refine wI (fun h => ?_) fun h => ?_ | refine wF (fun h => ?_) fun h => ?_ | refine wG (fun h => ?_) fun h => ?_ | refine wH (fun h => ?_) fun h => ?_ | ((first | refine mfork_bool (fun h => ?_) fun h => ?_ | refine mgfork_bool (fun h => ?_) fun h => ?_) <;> simp only [h])) | simp (maxSteps := 4000000) (disch := first | decide | assumption | omega | (simp only [wL]; omega)) only [go_sem, simprocAttr, Try.f18])

theorem requal_fit (s t : T) (hs : FT s) (ht : FT t) (ta tb : Bool) : MCalls Try.prog 18 [.lst 5 (s.fl.map ND.c) ta, .lst 5 (t.fl.map ND.c) tb] St.none (fun r _ => r = eqV' s t) := by
  refine (MCalls.body 27 [.tmp 4, .tmp 5] Try.func18 rfl rfl rfl rfl ?_)
  have h1 := rimplies_fit s t hs ht ta tb
  have h2 := rimplies_fit t s ht hs tb ta
  unfold impV at h1 h2
  unfold eqV'
  rw [atoms_swap] at h2
  by_cases h10 : (atomsS (s.fl ++ t.fl)).length ≤ 10
  · rw [if_pos h10] at h1 h2 ⊢
    cases e1 : impB (atomsS (s.fl ++ t.fl)) s t <;> cases e2 : impB (atomsS (s.fl ++ t.fl)) t s <;> rw [e1] at h1 <;> rw [e2] at h2
    all_goals repeat' (first | (with_reducible refine use_pure h1 ?_) | (with_reducible refine use_pure h2 ?_) | (with_reducible first | (refine wT ?_; refine wN fun _ hnl => ?_; revert hnl; (repeat refine wS fun _ _ => ?_); intro hnl) | refine wD (by decide +kernel) ?_ | refine wI (fun h => ?_) fun h => ?_ | refine wF (fun h => ?_) fun h => ?_ | refine wG (fun h => ?_) fun h => ?_ | refine wH (fun h => ?_) fun h => ?_ | ((first | refine mfork_bool (fun h => ?_) fun h => ?_ | refine mgfork_bool (fun h => ?_) fun h => ?_) <;> simp only [h])) | simp (maxSteps := 4000000) (disch := first | decide | assumption | omega | (simp only [wL]; omega)) only [go_sem, simprocAttr, Try.f18])
  · rw [if_neg h10] at h1 h2 ⊢
    repeat' (first | (with_reducible refine use_pure h1 ?_) | (with_reducible refine use_pure h2 ?_) | (with_reducible first | (refine wT ?_; refine wN fun _ hnl => ?_; revert hnl; (repeat refine wS fun _ _ => ?_); intro hnl) | refine wD (by decide +kernel) ?_ | refine wI (fun h => ?_) fun h => ?_ | refine wF (fun h => ?_) fun h => ?_ | refine wG (fun h => ?_) fun h => ?_ | refine wH (fun h => ?_) fun h => ?_ | ((first | refine mfork_bool (fun h => ?_) fun h => ?_ | refine mgfork_bool (fun h => ?_) fun h => ?_) <;> simp only [h])) | simp (maxSteps := 4000000) (disch := first | decide | assumption | omega | (simp only [wL]; omega)) only [go_sem, simprocAttr, Try.f18])

theorem few_call (s t : T) (hs : FT s) (ht : FT t) (ta tb : Bool) : MCalls Try.prog 13 [.lst 5 (s.fl.map ND.c) ta, .lst 5 (t.fl.map ND.c) tb] St.none (fun r _ => r = .bool (decide ((atomsS (s.fl ++ t.fl)).length ≤ 6))) := by
  refine (MCalls.body 10 [.tmp 4] Try.func13 rfl rfl rfl rfl ?_)
  have hls := hs.len
  have hlt := ht.len
  have h3 := ratoms_call s.fl t.fl ta tb (by omega) (by omega) hs.size ht.size
  rw [ft_atoms hs ht] at h3
  repeat' (first | (with_reducible refine use_pure h3 ?_) | (with_reducible first | (refine wT ?_; refine wN fun _ hnl => ?_; revert hnl; (repeat refine wS fun _ _ => ?_); intro hnl) | refine wD (by decide +kernel) ?_ | refine wI (fun h => ?_) fun h => ?_ | refine wF (fun h => ?_) fun h => ?_ | refine wG (fun h => ?_) fun h => ?_ | refine wH (fun h => ?_) fun h => ?_ | ((first | refine mfork_bool (fun h => ?_) fun h => ?_ | refine mgfork_bool (fun h => ?_) fun h => ?_) <;> simp only [h])) | simp (maxSteps := 4000000) (disch := first | decide | assumption | omega | (simp only [wL]; omega)) only [go_sem, simprocAttr, Try.f13])
  simp only [MV.bool.injEq, decide_eq_decide]
  omega

def largeS (l : List ND) : Bool := decide (100 < l.length) || l.any fun x => decide (200 < x.v.s.size)
theorem rlarge_call (l : List ND) (tt : Bool) : MCalls Try.prog 10 [.lst 5 (l.map ND.c) tt] St.none (fun r _ => r = .bool (largeS l)) := by
  refine (MCalls.body 21 [.tmp 2] Try.func10 rfl rfl rfl rfl ?_)
  by_cases h100 : 100 < l.length
  · have e : largeS l = true := by simp [largeS, h100]
    rw [e]
    repeat' (first | (with_reducible first | (refine wT ?_; refine wN fun _ hnl => ?_; revert hnl; (repeat refine wS fun _ _ => ?_); intro hnl) | refine wD (by decide +kernel) ?_ | refine wI (fun h => ?_) fun h => ?_ | refine wF (fun h => ?_) fun h => ?_ | refine wG (fun h => ?_) fun h => ?_ | refine wH (fun h => ?_) fun h => ?_ | ((first | refine mfork_bool (fun h => ?_) fun h => ?_ | refine mgfork_bool (fun h => ?_) fun h => ?_) <;> simp only [h])) | simp (maxSteps := 4000000) (disch := first | decide | assumption | omega | (simp only [wL]; omega)) only [go_sem, simprocAttr, Try.f10])
  · have e : largeS l = l.any fun x => decide (200 < x.v.s.size) := by simp [largeS, h100]
    rw [e]
    repeat' (first | (with_reducible first | (refine wT ?_; refine wN fun _ hnl => ?_; revert hnl; (repeat refine wS fun _ _ => ?_); intro hnl) | refine wD (by decide +kernel) ?_ | refine wI (fun h => ?_) fun h => ?_ | refine wF (fun h => ?_) fun h => ?_ | refine wG (fun h => ?_) fun h => ?_ | refine wH (fun h => ?_) fun h => ?_ | ((first | refine mfork_bool (fun h => ?_) fun h => ?_ | refine mgfork_bool (fun h => ?_) fun h => ?_) <;> simp only [h])) | simp (maxSteps := 4000000) (disch := first | decide | assumption | omega | (simp only [wL]; omega)) only [go_sem, simprocAttr, Try.f10])
    refine mloop_intro (α := Nat) (fun i => ⟨21, [(3, .int .i64 (i : Int)), (0, .lst 5 (l.map ND.c) tt)], []⟩)
      (fun _ => St.none) (fun i => i ≤ l.length ∧ (l.take i).any (fun x => decide (200 < x.v.s.size)) = false) (fun i => l.length - i) (.of (.less ?_ (St.le_refl _)) ⟨0, rfl, rfl, Nat.zero_le _, rfl⟩) ?_
    · simp (maxSteps := 4000000) (disch := first | decide | assumption | omega | (simp only [wL]; omega)) only [go_sem, simprocAttr, weak_int, weak_same]
      all_goals rfl
    · rintro i ⟨hi, hq⟩
      by_cases hlt : i < l.length
      · by_cases hb : 200 < (l.getD i nd0).v.s.size
        · have ea : (l.any fun x => decide (200 < x.v.s.size)) = true := List.any_eq_true.2 ⟨_, getD_mem nd0 hlt, by simpa using hb⟩
          rw [ea]
          repeat' (first | (with_reducible first | (refine wT ?_; refine wN fun _ hnl => ?_; revert hnl; (repeat refine wS fun _ _ => ?_); intro hnl) | refine wD (by decide +kernel) ?_ | refine wI (fun h => ?_) fun h => ?_ | refine wF (fun h => ?_) fun h => ?_ | refine wG (fun h => ?_) fun h => ?_ | refine wH (fun h => ?_) fun h => ?_ | ((first | refine mfork_bool (fun h => ?_) fun h => ?_ | refine mgfork_bool (fun h => ?_) fun h => ?_) <;> simp only [h])) | simp (maxSteps := 4000000) (disch := first | decide | assumption | omega | (simp only [wL]; omega)) only [go_sem, simprocAttr, getD_mapd nd0])
        · repeat' (first | (with_reducible first | (refine wT ?_; refine wN fun _ hnl => ?_; revert hnl; (repeat refine wS fun _ _ => ?_); intro hnl) | refine wD (by decide +kernel) ?_ | refine wI (fun h => ?_) fun h => ?_ | refine wF (fun h => ?_) fun h => ?_ | refine wG (fun h => ?_) fun h => ?_ | refine wH (fun h => ?_) fun h => ?_ | ((first | refine mfork_bool (fun h => ?_) fun h => ?_ | refine mgfork_bool (fun h => ?_) fun h => ?_) <;> simp only [h])) | simp (maxSteps := 4000000) (disch := first | decide | assumption | omega | (simp only [wL]; omega)) only [go_sem, simprocAttr, getD_mapd nd0])
          refine .of (.less ?_ (St.le_refl _)) ⟨i + 1, rfl, rfl, ⟨by omega, ?_⟩, by omega⟩
          · simp (maxSteps := 4000000) (disch := first | decide | assumption | omega | (simp only [wL]; omega)) only [go_sem, simprocAttr, weak_int, weak_same]
            all_goals rfl
          · rw [any_take_succ hlt, hq, ← getD_of_lt nd0 hlt]
            simpa using hb
      · have hie : i = l.length := by omega
        subst hie
        rw [List.take_length] at hq
        rw [hq]
        repeat' (first | (with_reducible first | (refine wT ?_; refine wN fun _ hnl => ?_; revert hnl; (repeat refine wS fun _ _ => ?_); intro hnl) | refine wD (by decide +kernel) ?_ | refine wI (fun h => ?_) fun h => ?_ | refine wF (fun h => ?_) fun h => ?_ | refine wG (fun h => ?_) fun h => ?_ | refine wH (fun h => ?_) fun h => ?_ | ((first | refine mfork_bool (fun h => ?_) fun h => ?_ | refine mgfork_bool (fun h => ?_) fun h => ?_) <;> simp only [h])) | simp (maxSteps := 4000000) (disch := first | decide | assumption | omega | (simp only [wL]; omega)) only [go_sem, simprocAttr])
end Go.Proofs.Ytielcgplbnlgbaa
end
