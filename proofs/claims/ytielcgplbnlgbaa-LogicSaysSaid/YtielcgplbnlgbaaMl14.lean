/- The frame of a call; calls of functions that write nothing of ours; nil as an empty row. -/
import Derived.Test.YtielcgplbnlgbaaMl13
set_option linter.unusedVariables false
set_option linter.unusedSimpArgs false
namespace Go.Proofs.Ytielcgplbnlgbaa

/-- An empty slice becomes a row of its own. -/
theorem Gh.row {n : Nat} {l : List (Nat × MV)} {d : List (FuncId × List MV)} {σ : St} {K : FR → St → Prop} (t : TypeId) (e : Nat) (l1 : Nat → List (Nat × MV))
    (h1 : ∀ k, ∀ p, p ∈ l1 k → lget l p.1 = p.2 ∨ (p.2 = .vec e k 0 0 ∧ (lget l p.1 = .nils ∨ lget l p.1 = .lst e [] true)))
    (h : ∀ k, σ k = none → Gh ⟨n, l1 k, d⟩ (σ.set k (.row t e [])) K) : Gh ⟨n, l, d⟩ σ K := by
  intro Φ w vs hi hr
  obtain ⟨k, hk, hk'⟩ := inv_eq hi
  obtain ⟨v1, v2, -⟩ := virt_row hi (fun _ _ h => h) hk t e none
  have hfr : FRel (Φ.put k ⟨none, 0, e, 0⟩) vs ⟨n, l1 k, d⟩ := by
    refine ⟨hr.1, fun s => ?_⟩
    show Rel _ _ (lget (l1 k) s)
    have key : ∀ l2 : List (Nat × MV), (∀ p, p ∈ l2 → lget l p.1 = p.2 ∨ (p.2 = .vec e k 0 0 ∧ (lget l p.1 = .nils ∨ lget l p.1 = .lst e [] true))) → Rel (Φ.put k ⟨none, 0, e, 0⟩) (vs.getD s undef) (lget l2 s) := by
      intro l2
      induction l2 with
      | nil => intro _; exact .junk _
      | cons q r ih =>
        obtain ⟨j, v⟩ := q
        intro h
        simp only [lget]
        split
        · rename_i ht
          subst ht
          have hs := hr.2 s
          change Rel Φ _ (lget l s) at hs
          rcases h (s, v) (by simp) with q | ⟨q1, q2 | q2⟩
          · simp only at q; rw [← q]; exact hs.mono v2.le
          · simp only at q1 q2
            rw [q2] at hs
            have := hs.inv_nils
            rw [this, q1]
            exact (virt_row hi (fun _ _ h => h) hk t e none).2.2
          · simp only at q1 q2
            rw [q2] at hs
            obtain ⟨a, cap, hv, -, -, h0, -⟩ := hs.inv_lst
            have hcap : cap = 0 := by simpa using h0 rfl
            subst hcap
            rw [hv, q1]
            exact (virt_row hi (fun _ _ h => h) hk t e a).2.2
        · exact ih fun q hq => h q (by simp [hq])
    exact key _ (h1 k)
  obtain ⟨f2, σ2, Φ2, e2, k2, i2, r2, s2⟩ := h k hk' _ w vs v1 hfr
  exact ⟨f2, σ2, Φ2, e2, k2, i2, r2, v2.trans s2⟩

/-- An empty slice in an object becomes a row of its own. -/
theorem Gh.rowIn {f : FR} {σ : St} {K : FR → St → Prop} {b : Nat} {t : TypeId} {e : Nat} {pre post : List MV} (t' : TypeId) (e' : Nat) (hs : σ b = some (.row t e [pre ++ .nils :: post]))
    (h : ∀ k, σ k = none → Gh f ((σ.set b (.row t e [pre ++ .vec e' k 0 0 :: post])).set k (.row t' e' [])) K) : Gh f σ K := by
  intro Φ w vs hi hr
  obtain ⟨k, hk, hk'⟩ := inv_eq hi
  obtain ⟨v1, v2, -⟩ := virt_row hi (fun _ _ h => h) hk t' e' none
  have hbk : b ≠ k := fun e => by subst e; rw [hs] at hk'; cases hk'
  have hs' : (σ.set k (.row t' e' [])) b = some (.row t e [pre ++ .nils :: post]) := by rw [set_miss _ _ _ _ hbk]; exact hs
  obtain ⟨p, hp, hpe, q1, q2, q3, q4⟩ := v1.own b _ hs'
  have hown : OwnOk (Φ.put k ⟨none, 0, e', 0⟩) w b (.row t e [pre ++ .vec e' k 0 0 :: post]) := by
    refine ⟨p, hp, hpe, by simpa using q1, q2, fun i x hx => ?_, ?_⟩
    · match i with
      | 0 =>
        simp only [List.getElem?_cons_zero, Option.some.injEq] at hx
        subst hx
        have := q3 0 _ rfl
        simpa using this
      | i + 1 => simp at hx
    · cases hb : p.blk with
      | none => rw [hb] at q4; exact q4
      | some R =>
        rw [hb] at q4
        obtain ⟨c, fz, k1, k2, k3, k4⟩ := q4
        refine ⟨c, fz, k1, k2, k3, fun i x j m hx hm => ?_⟩
        match i with
        | 0 =>
          simp only [List.getElem?_cons_zero, Option.some.injEq] at hx
          subst hx
          by_cases hj : j = pre.length
          · subst hj
            simp at hm
            subst hm
            obtain ⟨-, v, hv, hrel⟩ := k4 0 _ pre.length .nils rfl (by simp)
            have := hrel.inv_nils
            subst this
            exact ⟨rfl, _, hv, .vecn (p := ⟨none, 0, e', 0⟩) (Phi.put_obj _ _ _) rfl rfl⟩
          · refine k4 0 _ j m rfl ?_
            rw [← hm]
            by_cases h : j < pre.length
            · rw [List.getElem?_append_left h, List.getElem?_append_left h]
            · rw [List.getElem?_append_right (by omega), List.getElem?_append_right (by omega)]
              obtain ⟨q, hq⟩ : ∃ q, j - pre.length = q + 1 := ⟨j - pre.length - 1, by omega⟩
              rw [hq, List.getElem?_cons_succ, List.getElem?_cons_succ]
        | i + 1 => simp at hx
  have i2 : Inv (Φ.put k ⟨none, 0, e', 0⟩) w ((σ.set k (.row t' e' [])).set b (.row t e [pre ++ .vec e' k 0 0 :: post])) := by
    refine v1.upd (.refl _) (fun _ => rfl) b _ p hp (fun m o q => St.set_cases q) (fun m o q R hm hs2 hq hR => ?_) (fun a v h => ?_) hown v1.fresh
    · rcases St.set_cases hs2 with ⟨_, q1⟩ | ⟨q1, _⟩
      · exact ⟨rfl, fun e2 => hm (v1.inj m b _ _ q p R q1 hs' hq hp hR e2)⟩
      · exact absurd q1 hm
    · exact ⟨rfl, fun e2 => v1.apart b _ p _ a v hs' hp e2 h rfl⟩
  have hst : (σ.set k (.row t' e' [])).set b (.row t e [pre ++ .vec e' k 0 0 :: post]) = (σ.set b (.row t e [pre ++ .vec e' k 0 0 :: post])).set k (.row t' e' []) := set_comm _ _ _ (Ne.symm hbk)
  rw [hst] at i2
  obtain ⟨f2, σ2, Φ2, e2, k2, j2, r2, s2⟩ := h k hk' _ w vs i2 (hr.mono v2.le)
  refine ⟨f2, σ2, Φ2, e2, k2, j2, r2, .trans ?_ s2⟩
  refine ⟨v2.le, rfl, rfl, rfl, Nat.le_refl _, Nat.le_refl _, fun _ _ _ => rfl, fun _ _ h => .inl h, fun m o q => ?_, fun R hR => ?_⟩
  · rcases St.set_cases q with ⟨_, q1⟩ | ⟨rfl, _⟩
    · rcases St.set_cases q1 with ⟨_, q2⟩ | ⟨rfl, _⟩
      · exact .inl ⟨_, q2⟩
      · exact .inl ⟨_, hs⟩
    · exact .inr hk
  · obtain ⟨m, o1, p1, t1, t2, t3⟩ := hR
    refine v2.ownd R ?_
    rcases St.set_cases t1 with ⟨hm, q1⟩ | ⟨rfl, rfl⟩
    · rcases St.set_cases q1 with ⟨_, q2⟩ | ⟨rfl, _⟩
      · exact ⟨m, o1, p1, by rw [set_miss _ _ _ _ hm]; exact q2, t2, t3⟩
      · exact ⟨m, _, p1, hs', t2, t3⟩
    · exact ⟨m, _, p1, set_hit _ _ _, t2, t3⟩

theorem MCalls.gh {P : Program} {g : FuncId} {ms : List MV} {σ : St} {Q : MV → St → Prop} (h : MCalls P g ms σ fun v σ' => Gh ⟨1, [(0, v)], []⟩ σ' fun f1 σ1 => ∃ v1, f1 = ⟨1, [(0, v1)], []⟩ ∧ Q v1 σ1) : MCalls P g ms σ Q := by
  refine ⟨h.1, fun Φ w vs hi hr => (h.2 Φ w vs hi hr).mono ?_⟩
  rintro e w' ⟨v, mv, σ', Φ', rfl, q1, q2, q3, g⟩
  obtain ⟨f1, σ1, Φ1, -, ⟨v1, rfl, hq⟩, i1, r1, s1⟩ := g Φ' w' #[v] q2 ⟨rfl, fun t => by
    simp only [FR.get, lget]
    split
    · rename_i ht; subst ht; exact q1
    · exact .junk _⟩
  exact ⟨v, v1, σ1, Φ1, rfl, by simpa [FR.get, lget] using r1.2 0, i1, q3.trans s1, hq⟩

def St.over (x y : St) : St := fun l => match x l with | some o => some o | Option.none => y l
def St.minus (x y : St) : St := fun l => match y l with | some _ => Option.none | Option.none => x l

theorem over_some {x y : St} {l : Nat} {o : MObj} (h : (St.over x y) l = some o) : x l = some o ∨ (x l = none ∧ y l = some o) := by
  simp only [St.over] at h
  split at h
  · rename_i q hq; exact .inl (by rw [hq, h])
  · rename_i hq; exact .inr ⟨hq, h⟩
theorem minus_some {x y : St} {l : Nat} {o : MObj} (h : (St.minus x y) l = some o) : y l = none ∧ x l = some o := by
  simp only [St.minus] at h
  split at h
  · cases h
  · rename_i hq; exact ⟨hq, h⟩

/-- What a call does not name stays. -/
theorem MCalls.frame {P : Program} {g : FuncId} {ms : List MV} {σa σ : St} {Q : MV → St → Prop} (h : MCalls P g ms σa Q) (hle : σa.le σ) :
    MCalls P g ms σ fun v σ1 => ∃ σ', Q v σ' ∧ σ1 = σ'.over (σ.minus σa) ∧ ∀ l o, σ' l = some o → σ l = none ∨ ∃ o', σa l = some o' := by
  refine ⟨h.1, fun Φ w vs hi hr => (h.2 Φ w vs (hi.less hle) hr).mono ?_⟩
  rintro e w' ⟨v, mv, σ', Φ', rfl, r1, i1, s1, hq⟩
  have rest : ∀ l o, (σ.minus σa) l = some o → ∃ p, Φ.obj l = some p ∧ Φ'.obj l = some p ∧ ∀ R, p.blk = some R → R < w.heap.size ∧ ¬ Owned Φ σa R ∧ w'.heap[R]? = w.heap[R]? := by
    intro l o hl
    obtain ⟨q1, q2⟩ := minus_some hl
    obtain ⟨p, hp, hR⟩ := (hi.own l o q2).place
    refine ⟨p, hp, s1.le.obj _ _ hp, fun R hb => ?_⟩
    have hno : ¬ Owned Φ σa R := by
      rintro ⟨l2, o2, p2, u1, u2, u3⟩
      have := hi.inj l l2 o o2 p p2 R q2 (hle _ _ u1) hp u2 hb u3
      subst this
      rw [q1] at u1; cases u1
    exact ⟨hR R hb, hno, s1.block R (hR R hb) hno⟩
  have hdis : ∀ l o, σ' l = some o → σ l = none ∨ ∃ o', σa l = some o' := by
    intro l o hl
    rcases s1.locs l o hl with q | q
    · exact .inr q
    · exact .inl (hi.obj_none q)
  have hnew : ∀ l o p R, σ' l = some o → Φ'.obj l = some p → p.blk = some R → Owned Φ σa R ∨ w.heap.size ≤ R := fun l o p R a b c => s1.ownd R ⟨l, o, p, a, b, c⟩
  refine ⟨v, mv, σ'.over (σ.minus σa), Φ', rfl, r1, ⟨?_, ?_, i1.snap, ?_, i1.fresh⟩, ⟨s1.le, s1.os, s1.tape, s1.output, s1.drawn, s1.size, ?_, ?_, ?_, ?_⟩, σ', hq, rfl, hdis⟩
  · intro l o hl
    rcases over_some hl with q | ⟨q1, q2⟩
    · exact i1.own l o q
    · obtain ⟨p, hp, hp', hR⟩ := rest l o q2
      exact (hi.own l o (minus_some q2).2).mono s1.le fun p1 R h1 h2 => by
        rw [hp] at h1; cases h1
        exact (hR R h2).2.2
  · intro l l' o o' p p' R hl hl' hp hp' hb hb'
    rcases over_some hl with q | ⟨q1, q2⟩ <;> rcases over_some hl' with q' | ⟨q1', q2'⟩
    · exact i1.inj l l' o o' p p' R q q' hp hp' hb hb'
    · obtain ⟨p2, u1, u2, u3⟩ := rest l' o' q2'
      rw [hp'] at u2; cases u2
      rcases hnew l o p R q hp hb with k | k
      · exact absurd k (u3 R hb').2.1
      · have := (u3 R hb').1; omega
    · obtain ⟨p2, u1, u2, u3⟩ := rest l o q2
      rw [hp] at u2; cases u2
      rcases hnew l' o' p' R q' hp' hb' with k | k
      · exact absurd k (u3 R hb).2.1
      · have := (u3 R hb).1; omega
    · obtain ⟨p2, u1, u2, u3⟩ := rest l o q2
      rw [hp] at u2; cases u2
      obtain ⟨p3, v1, v2, v3⟩ := rest l' o' q2'
      rw [hp'] at v2; cases v2
      exact hi.inj l l' o o' p p' R (minus_some q2).2 (minus_some q2').2 u1 v1 hb hb'
  · intro l o p R a u hl hp hb hu
    rcases over_some hl with q | ⟨q1, q2⟩
    · exact i1.apart l o p R a u q hp hb hu
    · obtain ⟨p2, u1, u2, u3⟩ := rest l o q2
      rw [hp] at u2; cases u2
      intro e
      rcases s1.snapn a u hu with k | k | k
      · exact hi.apart l o p R a u (minus_some q2).2 u1 hb k e
      · have := (u3 R hb).1; omega
      · rw [e] at k; exact (u3 R hb).2.1 k
  · exact fun k hk hno => s1.block k hk fun q => hno (q.less hle)
  · intro a u hu
    rcases s1.snapn a u hu with k | k | k
    · exact .inl k
    · exact .inr (.inl k)
    · exact .inr (.inr (k.less hle))
  · intro l o hl
    rcases over_some hl with q | ⟨q1, q2⟩
    · rcases s1.locs l o q with ⟨o', k⟩ | k
      · exact .inl ⟨o', hle _ _ k⟩
      · exact .inr k
    · exact .inl ⟨o, (minus_some q2).2⟩
  · rintro R ⟨l, o, p, hl, hp, hb⟩
    rcases over_some hl with q | ⟨q1, q2⟩
    · rcases hnew l o p R q hp hb with k | k
      · exact .inl (k.less hle)
      · exact .inr k
    · obtain ⟨p2, u1, u2, u3⟩ := rest l o q2
      rw [hp] at u2; cases u2
      exact .inl ⟨l, o, p, (minus_some q2).2, u1, hb⟩

/-- Less of the store behind a call. -/
theorem MCalls.less {P : Program} {g : FuncId} {ms : List MV} {σ : St} {Q Q' : MV → St → Prop} (h : MCalls P g ms σ Q') (hq : ∀ v σ', Q' v σ' → ∃ σ1, σ1.le σ' ∧ Q v σ1) : MCalls P g ms σ Q := by
  refine ⟨h.1, fun Φ w vs hi hr => (h.2 Φ w vs hi hr).mono ?_⟩
  rintro e w' ⟨v, mv, σ', Φ', rfl, r1, i1, s1, k⟩
  obtain ⟨σ1, hle, hk⟩ := hq mv σ' k
  exact ⟨v, mv, σ1, Φ', rfl, r1, i1.less hle, s1.trans (.less _ hle), hk⟩

/-- Behind a call more of the store may be there. -/
theorem MCalls.drops {P : Program} {g : FuncId} {ms : List MV} {σ : St} {Q : MV → St → Prop} (h : MCalls P g ms σ fun v σ' => ∃ σ1, σ1.le σ' ∧ Q v σ1) : MCalls P g ms σ Q := h.less fun _ _ k => k

theorem minus_none (σ : St) : σ.minus St.none = σ := by funext l; simp [St.minus, St.none]

/-- A function that owns nothing. -/
theorem MCalls.pure {P : Program} {g : FuncId} {ms : List MV} {σ : St} {q : MV → Prop} (h : MCalls P g ms St.none fun v _ => q v) : MCalls P g ms σ fun v σ' => q v ∧ σ' = σ := by
  refine (h.frame (St.none_le σ)).less ?_
  rintro v σ1 ⟨σ', hq, rfl, hd⟩
  refine ⟨σ, fun l o hl => ?_, hq, rfl⟩
  rw [minus_none]
  simp only [St.over]
  cases hs : σ' l with
  | none => exact hl
  | some o' =>
    rcases hd l o' hs with k | ⟨_, k⟩
    · rw [hl] at k; cases k
    · simp [St.none] at k

theorem MCalls.mono_pure {P : Program} {g : FuncId} {ms : List MV} {q : MV → Prop} (h : MCalls P g ms St.none fun v _ => q v) : MCalls P g ms St.none fun v σ' => q v ∧ σ' = St.none := h.pure

theorem use_pure {P : Program} {g : FuncId} {ms : List MV} {σ : St} {r : MV} {k : MV → St → Prop} (h : MCalls P g ms St.none fun v _ => v = r) (hk : R (mlet r σ k)) : R (mcallE P g ms σ k) := by
  refine (MCalls.pure (σ := σ) h).mono ?_
  rintro v σ' ⟨rfl, rfl⟩
  exact hk

theorem use_pureQ {P : Program} {g : FuncId} {ms : List MV} {σ : St} {q : MV → Prop} {k : MV → St → Prop} (h : MCalls P g ms St.none fun v _ => q v) (hk : ∀ r, q r → R (mlet r σ k)) : R (mcallE P g ms σ k) := by
  refine (MCalls.pure (σ := σ) h).mono ?_
  rintro v σ' ⟨hq, rfl⟩
  exact hk v hq

/-- A value that says nothing of memory. -/
inductive Flat : MV → Prop where
  | junk : Flat .junk
  | bool (b : Bool) : Flat (.bool b)
  | int (k : IntKind) (n : Int) : Flat (.int k n)
  | str (s : ByteArray) : Flat (.str s)
  | nilp : Flat .nilp
  | nils : Flat .nils
  | lst0 (e : Nat) : Flat (.lst e [] true)
  | nilm : Flat .nilm
  | nilfn : Flat .nilfn
  | nili : Flat .nili
  | agg {cs : List MV} (h : ∀ c, c ∈ cs → Flat c) : Flat (.agg cs)
  | tup {cs : List MV} (h : ∀ c, c ∈ cs → Flat c) : Flat (.tup cs)

theorem Flat.rel {Φ Φ' : Phi} {m : MV} (h : Flat m) : ∀ {v : Value}, Rel Φ v m → Rel Φ' v m := by
  induction h with
  | junk => intro v r; exact .junk v
  | bool b => intro v r; cases r; exact .bool b
  | int k n => intro v r; cases r; exact .int k n
  | str s => intro v r; cases r; exact .str s
  | nilp => intro v r; cases r; exact .nilp
  | nils => intro v r; cases r; exact .nils
  | nilm => intro v r; cases r; exact .nilm
  | nilfn => intro v r; cases r; exact .nilfn
  | nili => intro v r; cases r; exact .nili
  | lst0 e =>
    intro v r
    cases r with
    | lstn => exact .lstn e true
    | lst0 a e cap t ht hm => exact .lst0 a e cap true ht hm
    | lst hl h0 => simp at hl; omega
  | agg h ih =>
    intro v r
    cases r with
    | agg h hc hr => exact .agg h hc (fun i m hm => ih m (List.mem_of_getElem? hm) (hr i m hm))
  | tup h ih =>
    intro v r
    cases r with
    | tup h hr => exact .tup h (fun i m hm => ih m (List.mem_of_getElem? hm) (hr i m hm))

/-- What is ours is lent to a function that writes nothing of ours, and whose result says nothing of memory. -/
theorem MCalls.lend {P : Program} {g : FuncId} {ms ms' : List MV} {σ : St} {q : MV → Prop} (h : MCalls P g ms' St.none fun v _ => q v) (hf : ∀ r, q r → Flat r) (hl : ms.length = ms'.length)
    (hv : ∀ (i : Nat) (m m' : MV), ms[i]? = some m → ms'[i]? = some m' → View σ m m') : MCalls P g ms σ fun v σ' => q v ∧ σ' = σ := by
  refine ⟨h.1, fun Φ w vs hi hr => ?_⟩
  classical
  have hs : Shot Φ (Φ.shot w (fun _ => True)) w σ := shot_of hi (St.le_refl σ) (fun _ _ => trivial)
  have hi' : Inv (Φ.shot w (fun _ => True)) w St.none := by
    refine ⟨fun l o hl => by simp [St.none] at hl, fun l l' o o' p p' R hl => by simp [St.none] at hl, fun a v hv => ?_, fun l o p R a v hl => by simp [St.none] at hl, hi.fresh⟩
    rcases shot_snap hv with q | ⟨-, q⟩
    · exact hi.snap a v q
    · exact q
  have hr' : Rels (Φ.shot w (fun _ => True)) vs ms' := by
    refine ⟨hr.1.trans hl, fun i m' hm' => ?_⟩
    have hlt := (List.getElem?_eq_some_iff.1 hm').1
    obtain ⟨m, hm⟩ : ∃ m, ms[i]? = some m := ⟨_, List.getElem?_eq_getElem (by omega)⟩
    exact (hv i m m' hm hm').rel hi hs (hr.2 i m hm)
  refine (h.2 _ w vs hi' hr').mono ?_
  rintro e w' ⟨v, mv, σ', Φ', rfl, r1, i1, s1, hq⟩
  have hblk : ∀ k, k < w.heap.size → w'.heap[k]? = w.heap[k]? := fun k hk => s1.block k hk fun ⟨l, o, p, a, _⟩ => by simp [St.none] at a
  have hown : ∀ l o, σ l = some o → OwnOk Φ w' l o := fun l o hl' => by
    obtain ⟨p, hp, hR⟩ := (hi.own l o hl').place
    exact (hi.own l o hl').mono (.refl Φ) fun p1 R h1 h2 => by
      rw [hp] at h1; cases h1
      exact hblk R (hR R h2)
  refine ⟨v, mv, σ, Φ, rfl, (hf mv hq).rel r1, ⟨hown, hi.inj, fun a u hu => ?_, hi.apart, hi.fresh⟩, ⟨.refl Φ, s1.os, s1.tape, s1.output, s1.drawn, s1.size, fun k hk _ => hblk k hk, fun _ _ h => .inl h, fun l o h => .inl ⟨o, h⟩, fun _ h => .inl h⟩, hq, rfl⟩
  have h1 := hi.snap a u hu
  have := World.block_lt_of_cell? w a h1
  rw [World.cell?_heap (hblk _ this)]
  exact h1

theorem use_lend {P : Program} {g : FuncId} {ms : List MV} (ms' : List MV) {σ : St} {r : MV} {k : MV → St → Prop} (h : MCalls P g ms' St.none fun v _ => v = r) (hf : Flat r) (hl : ms.length = ms'.length)
    (hv : ∀ (i : Nat) (m m' : MV), ms[i]? = some m → ms'[i]? = some m' → View σ m m') (hk : R (mlet r σ k)) : R (mcallE P g ms σ k) := by
  refine (MCalls.lend (σ := σ) h (fun _ e => e ▸ hf) hl hv).mono ?_
  rintro v σ' ⟨rfl, rfl⟩
  exact hk

/-- A call of a function with a store of its own. -/
theorem use_frame {P : Program} {g : FuncId} {ms : List MV} {σa σ : St} {Q k : MV → St → Prop} (h : MCalls P g ms σa Q) (hle : σa.le σ)
    (hk : ∀ v σ', Q v σ' → (∀ l o, σ' l = some o → σ l = none ∨ ∃ o', σa l = some o') → R (mlet v (σ'.over (σ.minus σa)) k)) : R (mcallE P g ms σ k) := by
  refine (h.frame hle).mono ?_
  rintro v σ1 ⟨σ', hq, rfl, hd⟩
  exact hk v σ' hq hd

theorem over_minus {σ σa : St} (h : σa.le σ) : σa.over (σ.minus σa) = σ := by
  funext l
  simp only [St.over, St.minus]
  cases ha : σa l with
  | none => rfl
  | some o => exact (h l o ha).symm

/-- A call that leaves its store as it was. -/
theorem use_same {P : Program} {g : FuncId} {ms : List MV} {σa σ : St} {r : MV} {k : MV → St → Prop} (h : MCalls P g ms σa fun v σ' => v = r ∧ σ' = σa) (hle : σa.le σ) (hk : R (mlet r σ k)) : R (mcallE P g ms σ k) := by
  refine use_frame h hle ?_
  rintro v σ' ⟨rfl, rfl⟩ -
  rw [over_minus hle]
  exact hk

theorem over_set (x y : St) (l : Nat) (o : MObj) : (x.set l o).over y = (x.over y).set l o := by
  funext k
  simp only [St.over, St.set]
  by_cases h : k = l
  · simp [h]
  · simp [h]
theorem over_none (y : St) : St.none.over y = y := rfl
theorem minus_set (x y : St) (l : Nat) (o : MObj) : x.minus (y.set l o) = (x.minus y).del l := by
  funext k
  simp only [St.minus, St.set, St.del]
  by_cases h : k = l
  · simp [h]
  · simp [h]
theorem del_hit_set (σ : St) (l : Nat) (o : MObj) : (σ.del l).set l o = σ.set l o := by
  funext k
  simp only [St.del, St.set]
  split <;> rfl

/-- The result, seen as fixed; the store goes. -/
theorem MCalls.seen {P : Program} {g : FuncId} {ms : List MV} {σ : St} {r : MV} (h : MCalls P g ms σ fun v σ' => View σ' v r) : MCalls P g ms σ fun v _ => v = r := by
  refine MCalls.ghost (h.mono fun v σ' hv => ⟨r, St.none, ?_, rfl⟩)
  exact Ghost.freeze σ' (St.le_refl _) (St.none_le _) (fun k o hk => by simp [St.none] at hk) (fun p hp => by
    simp only [List.mem_singleton] at hp
    subst hp
    simpa [lget] using hv)

theorem MCalls.seenQ {P : Program} {g : FuncId} {ms : List MV} {σ : St} {q : MV → Prop} (h : MCalls P g ms σ fun v σ' => ∃ r, View σ' v r ∧ q r) : MCalls P g ms σ fun v _ => q v := by
  refine MCalls.ghost (h.mono fun v σ' ⟨r, hv, hq⟩ => ⟨r, St.none, ?_, hq⟩)
  exact Ghost.freeze σ' (St.le_refl _) (St.none_le _) (fun k o hk => by simp [St.none] at hk) (fun p hp => by
    simp only [List.mem_singleton] at hp
    subst hp
    simpa [lget] using hv)

theorem View.loose {σ : St} {e : Nat} {xs : List (List MV)} {t : Bool} : View σ (.lst e xs t) (.lst e xs false) := by
  cases t
  · exact .same _
  · exact .tight e xs

theorem View.two {σ : St} {a b a' b' : MV} (h : View σ a a') (k : View σ b b') : View σ (.tup [a, b]) (.tup [a', b']) := by
  refine .tup rfl fun i m m' hm hm' => ?_
  match i with
  | 0 => simp only [List.getElem?_cons_zero, Option.some.injEq] at hm hm'; subst hm; subst hm'; exact h
  | 1 => simp only [List.getElem?_cons_succ, List.getElem?_cons_zero, Option.some.injEq] at hm hm'; subst hm; subst hm'; exact k
  | i + 2 => simp at hm

theorem View.three {σ : St} {a b c a' b' c' : MV} (h : View σ a a') (k : View σ b b') (k2 : View σ c c') : View σ (.tup [a, b, c]) (.tup [a', b', c']) := by
  refine .tup rfl fun i m m' hm hm' => ?_
  match i with
  | 0 => simp only [List.getElem?_cons_zero, Option.some.injEq] at hm hm'; subst hm; subst hm'; exact h
  | 1 => simp only [List.getElem?_cons_succ, List.getElem?_cons_zero, Option.some.injEq] at hm hm'; subst hm; subst hm'; exact k
  | 2 => simp only [List.getElem?_cons_succ, List.getElem?_cons_zero, Option.some.injEq] at hm hm'; subst hm; subst hm'; exact k2
  | i + 3 => simp at hm

end Go.Proofs.Ytielcgplbnlgbaa
