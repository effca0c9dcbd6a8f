/- All operations without memory at once; memory: new objects, reads, writes, calls; regions; functions. -/
import Derived.Test.YtielcgplbnlgbaaMl5
set_option linter.unusedVariables false
set_option linter.unusedSimpArgs false
namespace Go.Proofs.Ytielcgplbnlgbaa
section
variable {P : Program} {Φ : Phi}

theorem mbuiltin_sound {b : Builtin} {ts : Array TypeId} {xs : List MV} {C : Prop} {mv : MV} (h : mbuiltin P b ts xs = some (C, mv)) (hC : C) (vs : Array Value) (hr : Rels Φ vs xs) (hts : ts.size = xs.length) (ty : TypeId) (cs : Array Bool) :
    ∃ v, (∀ w, (builtin b ts ty cs vs).run P w = .ok (.value v) w) ∧ Rel Φ v mv := by
  obtain ⟨vl⟩ := vs
  have hlen : vl.length = xs.length := hr.1
  unfold mbuiltin at h
  split at h
  · rename_i x
    match vl, hlen with
    | [v1], _ =>
    have r1 : Rel Φ v1 x := hr.2 0 x rfl
    obtain ⟨v, hv, hrel⟩ := mlen_sound h hC r1 ts hts rfl ty
    exact ⟨v, fun w => by simp [builtin, hv], hrel⟩
  · rename_i x y
    match vl, hlen with
    | [v1, v2], _ =>
    have r1 : Rel Φ v1 x := hr.2 0 x rfl
    have r2 : Rel Φ v2 y := hr.2 1 y rfl
    unfold mmin2 at h
    split at h
    · simp only [Option.some.injEq, Prod.mk.injEq] at h; obtain ⟨rfl, rfl⟩ := h
      cases r1.inv_int; cases r2.inv_int
      exact ⟨_, fun w => by simp [builtin, Builtin.min_, Builtin.min2], .int _ _⟩
    · cases h
  · rename_i x y
    match vl, hlen with
    | [v1, v2], _ =>
    have r1 : Rel Φ v1 x := hr.2 0 x rfl
    have r2 : Rel Φ v2 y := hr.2 1 y rfl
    unfold mmax2 at h
    split at h
    · simp only [Option.some.injEq, Prod.mk.injEq] at h; obtain ⟨rfl, rfl⟩ := h
      cases r1.inv_int; cases r2.inv_int
      exact ⟨_, fun w => by simp [builtin, Builtin.max_, Builtin.max2], .int _ _⟩
    · cases h
  · rename_i x
    match vl, hlen with
    | [v1], _ =>
    have r1 : Rel Φ v1 x := hr.2 0 x rfl
    obtain ⟨v, hv, hrel⟩ := mcap_sound h r1 ts hts rfl ty
    exact ⟨v, fun w => by simp [builtin, hv], hrel⟩
  · cases h

theorem rels_map {f : FR} {a : Act} (hr : FRel Φ a.tmps f) (xs : Array Operand) : Rels Φ (xs.map a.eval) (xs.toList.map (mval f)) := by
  refine ⟨by simp, fun i m hm => ?_⟩
  rw [List.getElem?_map, Array.getElem?_toList] at hm
  simp only [Option.map_eq_some_iff] at hm
  obtain ⟨x, hx, rfl⟩ := hm
  have : (xs.map a.eval).getD i undef = a.eval x := by simp [Array.getD_eq_getD_getElem?, hx]
  rw [this]
  exact rel_mval hr x

/-- A builtin's call names as many types as it has arguments. -/
def opTypes : Op → Bool
  | .call { callee := .builtin _, args, argTypes } => argTypes.size == args.size
  | _ => true

theorem qop_sound {o : Oper} {f : FR} {a : Act} (hr : FRel Φ a.tmps f) {C : Prop} {mv : MV} (h : qop P f o.op = some (C, mv)) (hC : C) (hot : opTypes o.op = true) :
    ∃ v, (∀ w, (execOp a.eval o).run P w = .ok (.value v) w) ∧ Rel Φ v mv := by
  unfold execOp
  generalize o.op = op at h hot
  unfold qop at h
  split at h
  · simp only [Option.some.injEq, Prod.mk.injEq] at h; obtain ⟨rfl, rfl⟩ := h
    exact ⟨_, fun w => rfl, rel_mval hr _⟩
  · simp only [Option.some.injEq, Prod.mk.injEq] at h; obtain ⟨rfl, rfl⟩ := h
    exact ⟨_, fun w => rfl, rel_mval hr _⟩
  · rename_i c x y
    split at h
    · rename_i t hc
      simp only [Option.some.injEq, Prod.mk.injEq] at h; obtain ⟨rfl, rfl⟩ := h
      have rc := rel_mval hr c
      rw [hc] at rc
      refine ⟨if t = true then a.eval x else a.eval y, fun w => ?_, ?_⟩
      · simp only [rc.inv_bool, asBool, Sem.run_bind, Sem.run_pure, Result.andThen_ok]
      · split
        · exact rel_mval hr x
        · exact rel_mval hr y
    · cases h
  · rename_i x
    split at h
    · rename_i l i o' hx
      simp only [Option.some.injEq, Prod.mk.injEq] at h; obtain ⟨rfl, rfl⟩ := h
      have rc := rel_mval hr x
      rw [hx] at rc
      obtain ⟨ad, he⟩ := rc.ptr_shape
      rw [he] at rc
      exact ⟨_, fun w => by simp only [he]; rfl, rc⟩
    · rename_i cs hx
      simp only [Option.some.injEq, Prod.mk.injEq] at h; obtain ⟨rfl, rfl⟩ := h
      have rc := rel_mval hr x
      rw [hx] at rc
      obtain ⟨ad, he⟩ := rc.cptr_shape
      rw [he] at rc
      exact ⟨_, fun w => by simp only [he]; rfl, rc⟩
    · cases h
  · rename_i op t x y yt
    obtain ⟨v, hv, hrel⟩ := mbin_sound h hC (rel_mval hr x) (rel_mval hr y) x y
    exact ⟨v, fun w => by simp only [Sem.run_bind, (hv w).1, (hv w).2, Result.andThen_ok, Sem.run_pure], hrel⟩
  · rename_i op t x
    obtain ⟨v, hv, hrel⟩ := mun_sound (P := P) h (rel_mval hr x)
    exact ⟨v, fun w => by simp only [Sem.run_bind, hv w, Result.andThen_ok, Sem.run_pure], hrel⟩
  · rename_i s d x
    obtain ⟨v, hv, hrel⟩ := mconv_sound h (rel_mval hr x)
    exact ⟨v, fun w => by simp only [Sem.run_bind, hv w, Result.andThen_ok, Sem.run_pure], hrel⟩
  · rename_i t x
    split at h
    · cases h
    · rename_i hok hni
      simp only [Option.some.injEq, Prod.mk.injEq] at h; obtain ⟨rfl, rfl⟩ := h
      obtain ⟨i, d, hi, hd, _, _, hk⟩ := td_info hok
      refine ⟨.iface t (a.eval x), fun w => ?_, .iface t (rel_mval hr x)⟩
      simp only [Instr.makeInterface, Sem.run_bind, run_und' hd, Result.andThen_ok]
      cases d <;> first | rfl | (exact absurd hk (by simpa [tkOf] using hni))
    · cases h
  · rename_i fn first cap
    simp only [Option.some.injEq, Prod.mk.injEq] at h; obtain ⟨rfl, rfl⟩ := h
    have h1 := rels_map hr first
    have h2 := rels_map hr cap
    exact ⟨_, fun w => rfl, .fn fn h1.1 h2.1 h1.2 h2.2⟩
  · rename_i t x lo hi mx
    obtain ⟨v, hv, hrel⟩ := mslice_sound (P := P) (lo' := lo.map a.eval) (hi' := hi.map a.eval) (mx' := mx.map a.eval) h hC (rel_mval hr x)
      (fun m hm => by cases lo <;> simp at hm ⊢; subst hm; exact rel_mval hr _) (fun hn => by cases lo <;> simp at hn ⊢)
      (fun m hm => by cases hi <;> simp at hm ⊢; subst hm; exact rel_mval hr _) (fun hn => by cases hi <;> simp at hn ⊢)
      (fun m hm => by cases mx <;> simp at hm ⊢; subst hm; exact rel_mval hr _) (fun hn => by cases mx <;> simp at hn ⊢)
    exact ⟨v, fun w => by simp only [Sem.run_bind, hv w, Result.andThen_ok, Sem.run_pure], hrel⟩
  · rename_i t x i
    obtain ⟨v, hv, hrel⟩ := mfieldAddr_sound h hC (rel_mval hr x)
    exact ⟨v, fun w => by simp only [Sem.run_bind, hv w, Result.andThen_ok, Sem.run_pure], hrel⟩
  · rename_i t x i
    obtain ⟨v, hv, hrel⟩ := mfield_sound h hC (rel_mval hr x)
    exact ⟨v, fun w => by simp only [Sem.run_bind, hv w, Result.andThen_ok, Sem.run_pure], hrel⟩
  · rename_i t x i
    obtain ⟨v, hv, hrel⟩ := mindexAddr_sound h hC (rel_mval hr x) (rel_mval hr i)
    exact ⟨v, fun w => by simp only [Sem.run_bind, hv w, Result.andThen_ok, Sem.run_pure], hrel⟩
  · rename_i t x i
    obtain ⟨v, hv, hrel⟩ := mindex_sound h hC (rel_mval hr x) (rel_mval hr i)
    exact ⟨v, fun w => by simp only [Sem.run_bind, hv w, Result.andThen_ok, Sem.run_pure], hrel⟩
  · rename_i x i
    split at h
    · rename_i vs hx
      split at h
      · rename_i v hv
        simp only [Option.some.injEq, Prod.mk.injEq] at h; obtain ⟨rfl, rfl⟩ := h
        have rc := rel_mval hr x
        rw [hx] at rc
        obtain ⟨cs, he, hs, hrr⟩ := rc.inv_tup
        have hlt : i < cs.size := by have := (List.getElem?_eq_some_iff.1 hv).1; omega
        refine ⟨cs.getD i undef, fun w => ?_, hrr i v hv⟩
        have : cs[i]? = some (cs.getD i undef) := by simp [Array.getD_eq_getD_getElem?, Array.getElem?_eq_getElem hlt]
        simp only [he, Instr.extract, Sem.run_bind, this, Sem.run_pure, Result.andThen_ok]
      · cases h
    · cases h
  · rename_i t parts
    obtain ⟨v, hv, hrel⟩ := mbuild_sound hr h hC
    exact ⟨v, fun w => by simp only [Sem.run_bind, hv w, Result.andThen_ok, Sem.run_pure], hrel⟩
  · rename_i b args ts
    have hs : ts.size = (args.toList.map (mval f)).length := by simpa [opTypes] using hot
    obtain ⟨v, hv, hrel⟩ := mbuiltin_sound h hC (args.map a.eval) (rels_map hr args) hs o.type (args.map fun | .const _ => true | _ => false)
    refine ⟨v, fun w => ?_, hrel⟩
    simp only [resolve, Sem.run_bind, Sem.run_pure, Result.andThen_ok, invoke]
    exact hv w
  · cases h

end

/-! ## Memory -/

theorem Inv.obj_none {Φ : Phi} {w : World} {σ : St} (hi : Inv Φ w σ) {l : Nat} (h : Φ.obj l = none) : σ l = none := by
  cases hs : σ l with
  | none => rfl
  | some o =>
    have := hi.own l o hs
    cases o with
    | row t e xs => obtain ⟨p, hp, _⟩ := this; rw [h] at hp; cases hp
    | mp es => obtain ⟨p, R, hp, _⟩ := this; rw [h] at hp; cases hp

theorem OwnOk.mono {Φ Φ' : Phi} {w w' : World} {l : Nat} {o : MObj} (h : OwnOk Φ w l o) (hle : Φ.le Φ') (hb : ∀ p R, Φ.obj l = some p → p.blk = some R → w'.heap[R]? = w.heap[R]?) : OwnOk Φ' w' l o := by
  cases o with
  | row t e xs =>
    obtain ⟨p, hp, he, h1, h2, h3, h4⟩ := h
    refine ⟨p, hle.obj _ _ hp, he, h1, h2, h3, ?_⟩
    cases hbk : p.blk with
    | none => rw [hbk] at h4; exact h4
    | some R =>
      rw [hbk] at h4
      obtain ⟨c, fz, k1, k2, k3, k4⟩ := h4
      exact ⟨c, fz, (hb p R hp hbk).trans k1, k2, k3, fun i x j m a b => let ⟨q1, v, q2, q3⟩ := k4 i x j m a b; ⟨q1, v, q2, q3.mono hle⟩⟩
  | mp es =>
    obtain ⟨p, R, hp, hbk, c, clock, h1, h2, h3⟩ := h
    exact ⟨p, R, hle.obj _ _ hp, hbk, c, clock, (hb p R hp hbk).trans h1, h2, fun i x q => ⟨(h3 i x q).1.mono hle, (h3 i x q).2.mono hle⟩⟩

theorem OwnOk.place {Φ : Phi} {w : World} {l : Nat} {o : MObj} (h : OwnOk Φ w l o) : ∃ p, Φ.obj l = some p ∧ ∀ R, p.blk = some R → R < w.heap.size := by
  cases o with
  | row t e xs =>
    obtain ⟨p, hp, he, h1, h2, h3, h4⟩ := h
    refine ⟨p, hp, fun R hR => ?_⟩
    rw [hR] at h4
    obtain ⟨c, fz, k1, _⟩ := h4
    exact (Array.getElem?_eq_some_iff.1 k1).1
  | mp es =>
    obtain ⟨p, R, hp, hbk, c, clock, h1, _⟩ := h
    exact ⟨p, hp, fun R' hR' => by rw [hbk] at hR'; cases hR'; exact (Array.getElem?_eq_some_iff.1 h1).1⟩

theorem World.cell?_heap {w w' : World} {a : Addr} (h : w'.heap[a.block]? = w.heap[a.block]?) : w'.cell? a = w.cell? a := by simp [World.cell?, h]

theorem Inv.upd {Φ Φ' : Phi} {w w' : World} {σ σ' : St} (hi : Inv Φ w σ) (hle : Φ.le Φ') (hsnap : ∀ a, Φ'.snap a = Φ.snap a) (l' : Nat) (o' : MObj) (p' : Place) (hp' : Φ'.obj l' = some p')
    (hσ : ∀ m o, σ' m = some o → (m ≠ l' ∧ σ m = some o) ∨ (m = l' ∧ o = o'))
    (hblk : ∀ m o p R, m ≠ l' → σ' m = some o → Φ.obj m = some p → p.blk = some R → w'.heap[R]? = w.heap[R]? ∧ p'.blk ≠ some R)
    (hsn : ∀ a v, Φ.snap a = some v → w'.heap[a.block]? = w.heap[a.block]? ∧ p'.blk ≠ some a.block)
    (hown : OwnOk Φ' w' l' o') (hfresh : ∃ n, ∀ l, n ≤ l → Φ'.obj l = none) : Inv Φ' w' σ' := by
  have hobj : ∀ m o, m ≠ l' → σ' m = some o → ∃ p, Φ.obj m = some p ∧ Φ'.obj m = some p := fun m o hm hs => by
    rcases hσ m o hs with ⟨_, q⟩ | ⟨q, _⟩
    · obtain ⟨p, hp, _⟩ := (hi.own m o q).place
      exact ⟨p, hp, hle.obj _ _ hp⟩
    · exact absurd q hm
  constructor
  · intro m o hs
    rcases hσ m o hs with ⟨hm, q⟩ | ⟨rfl, rfl⟩
    · exact (hi.own m o q).mono hle fun p R hp hR => (hblk m o p R hm hs hp hR).1
    · exact hown
  · intro m m' o o' p p1 R hs hs' hp hp1 hR hR1
    by_cases h1 : m = l'
    · subst h1
      by_cases h2 : m' = m
      · exact h2.symm
      · obtain ⟨q, hq, hq'⟩ := hobj m' o' h2 hs'
        obtain rfl : q = p1 := Option.some.inj (hq'.symm.trans hp1)
        rw [hp'] at hp; cases hp
        exact absurd hR (hblk m' o' q R h2 hs' hq hR1).2
    · obtain ⟨q, hq, hq'⟩ := hobj m o h1 hs
      obtain rfl : q = p := Option.some.inj (hq'.symm.trans hp)
      by_cases h2 : m' = l'
      · subst h2
        rw [hp'] at hp1; cases hp1
        exact absurd hR1 (hblk m o q R h1 hs hq hR).2
      · obtain ⟨q1, hq1, hq1'⟩ := hobj m' o' h2 hs'
        obtain rfl : q1 = p1 := Option.some.inj (hq1'.symm.trans hp1)
        rcases hσ m o hs with ⟨_, s1⟩ | ⟨s1, _⟩
        · rcases hσ m' o' hs' with ⟨_, s2⟩ | ⟨s2, _⟩
          · exact hi.inj m m' o o' q q1 R s1 s2 hq hq1 hR hR1
          · exact absurd s2 h2
        · exact absurd s1 h1
  · intro a v h
    rw [hsnap] at h
    exact (World.cell?_heap (hsn a v h).1).trans (hi.snap a v h)
  · intro m o p R a v hs hp hR h he
    rw [hsnap] at h
    by_cases h1 : m = l'
    · subst h1
      rw [hp'] at hp; cases hp
      exact (hsn a v h).2 (he ▸ hR)
    · obtain ⟨q, hq, hq'⟩ := hobj m o h1 hs
      obtain rfl : q = p := Option.some.inj (hq'.symm.trans hp)
      rcases hσ m o hs with ⟨_, s1⟩ | ⟨s1, _⟩
      · exact hi.apart m o q R a v s1 hq hR h he
      · exact absurd s1 h1
  · exact hfresh

def Phi.put (Φ : Phi) (l : Nat) (p : Place) : Phi := { Φ with obj := fun k => if k = l then some p else Φ.obj k }

theorem Phi.put_le {Φ : Phi} {l : Nat} (p : Place) (h : Φ.obj l = none) : Φ.le (Φ.put l p) :=
  ⟨fun _ _ q => q, fun k q hq => by
    simp only [Phi.put]
    split
    · rename_i hk; subst hk; rw [h] at hq; cases hq
    · exact hq⟩

theorem Phi.put_obj (Φ : Phi) (l : Nat) (p : Place) : (Φ.put l p).obj l = some p := by simp [Phi.put]

theorem Inv.fresh_put {Φ : Phi} {w : World} {σ : St} (hi : Inv Φ w σ) (l : Nat) (p : Place) : ∃ n, ∀ k, n ≤ k → (Φ.put l p).obj k = none := by
  obtain ⟨n, hn⟩ := hi.fresh
  refine ⟨max n (l + 1), fun k hk => ?_⟩
  simp only [Phi.put]
  rw [if_neg (by omega)]
  exact hn k (by omega)

theorem St.set_cases {σ : St} {l m : Nat} {o o' : MObj} (h : (σ.set l o') m = some o) : (m ≠ l ∧ σ m = some o) ∨ (m = l ∧ o = o') := by
  simp only [St.set] at h
  split at h
  · rename_i hm; exact .inr ⟨hm, by cases h; rfl⟩
  · rename_i hm; exact .inl ⟨hm, h⟩

/-- A new object in a new block. -/
theorem Inv.alloc {Φ : Phi} {w w' : World} {σ : St} (hi : Inv Φ w σ) (l : Nat) (hl : Φ.obj l = none) (o : MObj) (ob : Obj) (p : Place) (hp : p.blk = some w.heap.size) (hh : w'.heap = w.heap.push ob)
    (h1 : w'.os = w.os) (h2 : w'.tape = w.tape) (h3 : w'.output = w.output) (h4 : w.drawn ≤ w'.drawn) (hown : OwnOk (Φ.put l p) w' l o) : Inv (Φ.put l p) w' (σ.set l o) ∧ Step Φ σ w (Φ.put l p) (σ.set l o) w' := by
  have hold : ∀ k, k < w.heap.size → w'.heap[k]? = w.heap[k]? := fun k hk => by rw [hh, Array.getElem?_push, if_neg (by omega)]
  have hle := Phi.put_le p hl
  refine ⟨hi.upd hle (fun _ => rfl) l o p (Phi.put_obj _ _ _) (fun m o q => St.set_cases q) (fun m o' q R hm hs hq hR => ?_) (fun a v h => ?_) hown (hi.fresh_put l p), hle, h1, h2, h3, h4, by rw [hh]; simp, fun k hk _ => hold k hk, fun a v h => .inl h, fun m o q => ?_, fun R hR => ?_⟩
  · rcases St.set_cases hs with ⟨_, q1⟩ | ⟨q1, _⟩
    · obtain ⟨p1, hp1, hlt⟩ := (hi.own m o' q1).place
      rw [hp1] at hq; cases hq
      have := hlt R hR
      exact ⟨hold R this, by rw [hp]; simp; omega⟩
    · exact absurd q1 hm
  · have := World.block_lt_of_cell? w a (hi.snap a v h)
    exact ⟨hold _ this, by rw [hp]; simp; omega⟩
  · rcases St.set_cases q with ⟨_, q1⟩ | ⟨rfl, _⟩
    · exact .inl ⟨_, q1⟩
    · exact .inr hl
  · obtain ⟨m, o1, p1, s1, s2, s3⟩ := hR
    rcases St.set_cases s1 with ⟨hm, q1⟩ | ⟨rfl, _⟩
    · have : (Φ.put l p).obj m = Φ.obj m := by simp [Phi.put, hm]
      rw [this] at s2
      exact .inl ⟨m, o1, p1, q1, s2, s3⟩
    · rw [Phi.put_obj] at s2; cases s2
      rw [hp] at s3; cases s3
      exact .inr (Nat.le_refl _)

/-- An object is another one, in its block. -/
theorem Inv.turn {Φ : Phi} {w w' : World} {σ : St} (hi : Inv Φ w σ) (l : Nat) {o0 : MObj} (hs : σ l = some o0) (o : MObj) {p : Place} {R : Nat} (hp : Φ.obj l = some p) (hR : p.blk = some R)
    (hsz : w'.heap.size = w.heap.size) (hh : ∀ k, k ≠ R → w'.heap[k]? = w.heap[k]?) (h1 : w'.os = w.os) (h2 : w'.tape = w.tape) (h3 : w'.output = w.output) (h4 : w.drawn ≤ w'.drawn) (hown : OwnOk Φ w' l o) :
    Inv Φ w' (σ.set l o) ∧ Step Φ σ w Φ (σ.set l o) w' := by
  refine ⟨hi.upd (.refl Φ) (fun _ => rfl) l o p hp (fun m o q => St.set_cases q) (fun m o' q R' hm hs' hq hR' => ?_) (fun a v h => ?_) hown hi.fresh, .refl Φ, h1, h2, h3, h4, Nat.le_of_eq hsz.symm, fun k hk hn => hh k ?_, fun a v h => .inl h, fun m o q => ?_, fun R' hR' => ?_⟩
  · rcases St.set_cases hs' with ⟨_, q1⟩ | ⟨q1, _⟩
    · have hne : R' ≠ R := fun e => hm (hi.inj m l o' o0 q p R' q1 hs hq hp hR' (e ▸ hR))
      exact ⟨hh R' hne, by rw [hR]; simpa using Ne.symm hne⟩
    · exact absurd q1 hm
  · have hne := hi.apart l o0 p R a v hs hp hR h
    exact ⟨hh _ hne, by rw [hR]; simpa using Ne.symm hne⟩
  · intro e
    subst e
    exact hn ⟨l, o0, p, hs, hp, hR⟩
  · rcases St.set_cases q with ⟨_, q1⟩ | ⟨rfl, _⟩
    · exact .inl ⟨_, q1⟩
    · exact .inl ⟨_, hs⟩
  · obtain ⟨m, o1, p1, s1, s2, s3⟩ := hR'
    rcases St.set_cases s1 with ⟨hm, q1⟩ | ⟨rfl, _⟩
    · exact .inl ⟨m, o1, p1, q1, s2, s3⟩
    · exact .inl ⟨m, o0, p1, hs, s2, s3⟩

/-- What an operation does, as the logic says it. -/
def sop (P : Program) (o : Oper) (f : FR) (σ : St) (k : MV → St → Prop) : Prop :=
  ∀ Φ w a K Q', Inv Φ w σ → FRel Φ a.tmps f → (∀ v mv σ' Φ' w', Rel Φ' v mv → Inv Φ' w' σ' → Step Φ σ w Φ' σ' w' → k mv σ' → K (a.put o.dst v) w') → o.wp P a w K Q'

theorem wp_value {P : Program} {o : Oper} {a : Act} {w w' : World} {K : Act → World → Prop} {Q : Exit → Act → World → Prop} {v : Value} (h : (execOp a.eval o).run P w = .ok (.value v) w') (hK : K (a.put o.dst v) w') : o.wp P a w K Q := by
  unfold Oper.wp Oper.upon
  rw [h]
  exact hK

theorem wp_unit {P : Program} {o : Oper} {a : Act} {w w' : World} {K : Act → World → Prop} {Q : Exit → Act → World → Prop} (h : (execOp a.eval o).run P w = .ok .skip w') (hK : K (a.put o.dst undef) w') : o.wp P a w K Q := by
  unfold Oper.wp Oper.upon
  rw [h]
  exact hK

theorem sop_pure {P : Program} {o : Oper} {f : FR} {σ : St} {k : MV → St → Prop} {C : Prop} {mv : MV} (h : qop P f o.op = some (C, mv)) (hot : opTypes o.op = true) (hC : C) (hk : k mv σ) : sop P o f σ k := by
  intro Φ w a K Q' hi hr hK
  obtain ⟨v, hv, hrel⟩ := qop_sound hr h hC hot
  exact wp_value (hv w) (hK v mv σ Φ w hrel hi (.refl _ _ _) hk)

theorem own_one {Φ : Phi} {w : World} {l : Nat} {t : TypeId} {cs : Array Value} {ms : List MV} {R : Nat} (hp : Φ.obj l = some ⟨some R, 0, ms.length, 1⟩) (hh : w.heap[R]? = some (.cells cs t (0, 0))) (hc : RelC Φ cs ms) : OwnOk Φ w l (.row t ms.length [ms]) := by
  refine ⟨_, hp, rfl, by simp, by simp [maxLen], fun i x hx => ?_, cs, (0, 0), hh, .inl (Nat.le_refl _), by have := hc.1; simp; omega, fun i x j m hx hm => ?_⟩
  · cases i <;> simp at hx
    subst hx
    rfl
  · cases i <;> simp at hx
    subst hx
    refine ⟨hc.2.1 j m hm, cs.getD j undef, ?_, hc.2.2 j m hm⟩
    have hlt : j < cs.size := by have := (List.getElem?_eq_some_iff.1 hm).1; rw [hc.1]; exact this
    simp [Array.getD_eq_getD_getElem?, Array.getElem?_eq_getElem hlt]

theorem RelC.mono {Φ Φ' : Phi} (hle : Φ.le Φ') {cs : Array Value} {ms : List MV} (h : RelC Φ cs ms) : RelC Φ' cs ms := ⟨h.1, h.2.1, fun i m hm => (h.2.2 i m hm).mono hle⟩

theorem sop_alloc {P : Program} {o : Oper} {f : FR} {σ : St} {k : MV → St → Prop} {t : TypeId} (ho : o.op = .alloc t) (hz : (td P t).zok = true)
    (hk : ∀ l, σ l = none → k (.ptr l 0 0) (σ.set l (.row t (td P t).size [(td P t).zero]))) : sop P o f σ k := by
  intro Φ w a K Q' hi hr hK
  obtain ⟨n, hn⟩ := hi.fresh
  have hl := hn n (Nat.le_refl _)
  obtain ⟨z, hz0, hz1, hz2, hok, hz3, _⟩ := run_zero' hz w
  have hlen : (td P t).zero.length = (td P t).size := by rw [← hz1, ← hz2]; simp
  have hrun : (execOp a.eval o).run P w = .ok (.value (.pointer (some ⟨w.heap.size, 0, none⟩))) (w.alloc (.cells z.cells t)) := by
    unfold execOp
    simp only [ho, Instr.alloc, Sem.run_bind, hz0, Result.andThen_ok, newVar, newRow, run_newObj, Sem.run_pure]
    rfl
  obtain ⟨i1, s1⟩ := hi.alloc (w' := w.alloc (.cells z.cells t)) n hl (.row t (td P t).zero.length [(td P t).zero]) (.cells z.cells t) ⟨some w.heap.size, 0, (td P t).zero.length, 1⟩ rfl rfl rfl rfl rfl (by first | exact Nat.le_refl _ | exact Nat.le_succ _)
    (own_one (R := w.heap.size) (Phi.put_obj _ _ _) (heap_alloc_new w _) (zero_relC hz1 hz3))
  rw [hlen] at i1 s1
  refine wp_value hrun (hK _ (.ptr n 0 0) _ _ _ ?_ i1 s1 (hk n (hi.obj_none hl)))
  have := Rel.ptr (Φ := Φ.put n ⟨some w.heap.size, 0, (td P t).size, 1⟩) (l := n) (i := 0) (o := 0) (R := w.heap.size) (Phi.put_obj _ _ _) rfl
  simpa using this

theorem sop_box {P : Program} {o : Oper} {f : FR} {σ : St} {k : MV → St → Prop} {t : TypeId} {x : Operand} (ho : o.op = .box t x) (hc : ∀ c, c ∈ (mval f x).cells → c.isCell = true)
    (hk : ∀ l, σ l = none → k (.ptr l 0 0) (σ.set l (.row t (mval f x).cells.length [(mval f x).cells]))) : sop P o f σ k := by
  intro Φ w a K Q' hi hr hK
  obtain ⟨n, hn⟩ := hi.fresh
  have hl := hn n (Nat.le_refl _)
  have rc := rel_cells (rel_mval hr x) hc
  have hrun : (execOp a.eval o).run P w = .ok (.value (.pointer (some ⟨w.heap.size, 0, none⟩))) (w.alloc (.cells (a.eval x).cells t)) := by
    unfold execOp
    simp only [ho, Instr.box, Sem.run_bind, newVar, newRow, run_newObj, Result.andThen_ok, Sem.run_pure]
    rfl
  obtain ⟨i1, s1⟩ := hi.alloc (w' := w.alloc (.cells (a.eval x).cells t)) n hl (.row t (mval f x).cells.length [(mval f x).cells]) (.cells (a.eval x).cells t) ⟨some w.heap.size, 0, (mval f x).cells.length, 1⟩ rfl rfl rfl rfl rfl (by first | exact Nat.le_refl _ | exact Nat.le_succ _)
    (own_one (R := w.heap.size) (Phi.put_obj _ _ _) (heap_alloc_new w _) (rc.mono (Phi.put_le _ hl)))
  refine wp_value hrun (hK _ (.ptr n 0 0) _ _ _ ?_ i1 s1 (hk n (hi.obj_none hl)))
  have := Rel.ptr (Φ := Φ.put n ⟨some w.heap.size, 0, (mval f x).cells.length, 1⟩) (l := n) (i := 0) (o := 0) (R := w.heap.size) (Phi.put_obj _ _ _) rfl
  simpa using this

/-- A variable is read whose cells are known. -/
theorem run_loadVar' {P : Program} {Φ : Phi} {w : World} {t : TypeId} {b off : Nat} {ms : List MV} (hok : (td P t).ok = true) (h1 : (td P t).size ≤ ms.length) (h0 : 0 < (td P t).size)
    (hc : ∀ (j : Nat) m, ms[j]? = some m → m.isCell = true ∧ ∃ v, w.cell? ⟨b, off + j, none⟩ = some v ∧ Rel Φ v m) :
    ∃ v, (loadVar t ⟨b, off, none⟩).run P w = .ok v w ∧ Rel Φ v (mpart (td P t) ms 0) := by
  have hch : ∀ j, j < ms.length → ∃ v, w.cell? ⟨b, off + j, none⟩ = some v ∧ Rel Φ v (ms.getD j .junk) := fun j hj => (hc j _ (getD_of hj)).2
  let g : Nat → Value := fun j => if hj : j < ms.length then (hch j hj).choose else undef
  have hg : ∀ j, j < ms.length → w.cell? ⟨b, off + j, none⟩ = some (g j) ∧ Rel Φ (g j) (ms.getD j .junk) := fun j hj => by
    have := (hch j hj).choose_spec
    simp only [g, dif_pos hj]
    exact this
  unfold mpart
  simp only [loadVar, Sem.run_bind, run_isAgg' hok, Result.andThen_ok]
  cases hk : (td P t).k.isAgg with
  | true =>
    simp only [if_true, run_sizeOf' hok, Sem.run_bind, Result.andThen_ok]
    rw [run_loadCells w ⟨b, off, none⟩ (td P t).size g (fun j hj => by rw [add_none]; exact (hg j (by omega)).1)]
    refine ⟨_, rfl, .agg ?_ (fun i m hm => ?_) (fun i m hm => ?_)⟩
    · simp; omega
    · rw [List.getElem?_take] at hm
      split at hm
      · exact (hc i m (by simpa using hm)).1
      · cases hm
    · rw [List.getElem?_take] at hm
      split at hm
      · rename_i hi
        have hm' : ms[i]? = some m := by simpa using hm
        have e : ms.getD i .junk = m := by simp [List.getD, hm']
        have := (hg i (by omega)).2
        rw [e] at this
        simpa [Array.getD_eq_getD_getElem?, hi] using this
      · cases hm
  | false =>
    have := hg 0 (by omega)
    rw [Nat.add_zero] at this
    refine ⟨g 0, ?_, this.2⟩
    simp only [Bool.false_eq_true, if_false, run_load, this.1]

/-- The cells of an element of a row. -/
theorem OwnOk.elem {Φ : Phi} {w : World} {l : Nat} {t : TypeId} {e : Nat} {xs : List (List MV)} (h : OwnOk Φ w l (.row t e xs)) {i : Nat} {x : List MV} (hx : xs[i]? = some x) :
    ∃ p, Φ.obj l = some p ∧ p.e = e ∧ x.length = e ∧ ((∃ R, p.blk = some R ∧ ∀ (j : Nat) m, x[j]? = some m → m.isCell = true ∧ ∃ v, w.cell? ⟨R, p.bo + i * e + j, none⟩ = some v ∧ Rel Φ v m)) := by
  obtain ⟨p, hp, he, h1, h2, h3, h4⟩ := h
  refine ⟨p, hp, he, h3 i x hx, ?_⟩
  cases hb : p.blk with
  | none =>
    rw [hb] at h4
    have := (List.getElem?_eq_some_iff.1 hx).1
    have h4' : p.C = 0 := h4
    omega
  | some R =>
    rw [hb] at h4
    obtain ⟨c, fz, k1, k2, k3, k4⟩ := h4
    refine ⟨R, rfl, fun j m hm => ?_⟩
    obtain ⟨q1, v, q2, q3⟩ := k4 i x j m hx hm
    refine ⟨q1, v, ?_, q3⟩
    simp only [World.cell?, k1, Option.isSome_none, Bool.false_eq_true, if_false]
    rw [← q2, Nat.add_assoc]

theorem sop_load {P : Program} {o : Oper} {f : FR} {σ : St} {k : MV → St → Prop} {t : TypeId} {x : Operand} (ho : o.op = .load t x) {l i of : Nat} (hx : mval f x = .ptr l i of)
    {tt : TypeId} {e : Nat} {xs : List (List MV)} (hs : σ l = some (.row tt e xs)) (hok : (td P t).ok = true) (hi' : i < xs.length) (h1 : of + (td P t).size ≤ (xs.getD i []).length) (h0 : 0 < (td P t).size)
    (hk : k (mpart (td P t) (xs.getD i []) of) σ) : sop P o f σ k := by
  intro Φ w a K Q' hi hr hK
  have rx := rel_mval hr x
  rw [hx] at rx
  obtain ⟨p, R, hp, hR, he⟩ := rx.inv_ptr
  obtain ⟨p', hp', hpe, hlen, R', hR', hcells⟩ := (hi.own l _ hs).elem (getD_of hi' (d := []))
  rw [hp] at hp'; cases hp'
  rw [hR] at hR'; cases hR'
  obtain ⟨v, hv, hrel⟩ := run_loadVar' (P := P) (Φ := Φ) (w := w) (t := t) (b := R) (off := p.bo + i * p.e + of) (ms := (xs.getD i []).drop of) hok (by rw [List.length_drop]; omega) h0 (fun j m hm => by
    rw [List.getElem?_drop] at hm
    have := hcells _ m hm
    rw [Nat.add_assoc (p.bo + i * p.e), hpe]
    exact this)
  have e2 : mpart (td P t) ((xs.getD i []).drop of) 0 = mpart (td P t) (xs.getD i []) of := by
    unfold mpart
    simp [List.getD, List.getElem?_drop]
  rw [e2] at hrel
  refine wp_value (v := v) (w' := w) ?_ (hK _ _ _ _ _ hrel hi (.refl _ _ _) hk)
  unfold execOp
  simp only [ho, he, Instr.loadAt, Sem.run_bind, run_sureAddr, Result.andThen_ok, hv, Sem.run_pure]

theorem sop_cload {P : Program} {o : Oper} {f : FR} {σ : St} {k : MV → St → Prop} {t : TypeId} {x : Operand} (ho : o.op = .load t x) {cs : List MV} (hx : mval f x = .cptr cs)
    (hok : (td P t).ok = true) (h1 : (td P t).size ≤ cs.length) (h0 : 0 < (td P t).size) (hk : k (mpart (td P t) cs 0) σ) : sop P o f σ k := by
  intro Φ w a K Q' hi hr hK
  have rx := rel_mval hr x
  rw [hx] at rx
  obtain ⟨b, off, vs, he, hc, hrr⟩ := rx.inv_cptr
  obtain ⟨v, hv, hrel⟩ := run_loadVar' (P := P) (Φ := Φ) (w := w) (t := t) (b := b) (off := off) (ms := cs) hok h1 h0 (fun j m hm => ⟨(hc j m hm).1, vs j, hi.snap _ _ (hc j m hm).2, hrr j m hm⟩)
  refine wp_value (v := v) (w' := w) ?_ (hK _ _ _ _ _ hrel hi (.refl _ _ _) hk)
  unfold execOp
  simp only [ho, he, Instr.loadAt, Sem.run_bind, run_sureAddr, Result.andThen_ok, hv, Sem.run_pure]

end Go.Proofs.Ytielcgplbnlgbaa
