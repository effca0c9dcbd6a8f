/- Regions whose order is drawn (1): what an operation reads and turns; two that may change places. -/
import Derived.Test.YtielcgplbnlgbaaMl14
set_option linter.unusedVariables false
set_option linter.unusedSimpArgs false
namespace Go.Proofs.Ytielcgplbnlgbaa

/-- What an operation does, once it has read. -/
structure Eff where
  C : Prop
  kill : Option Nat
  upd : Option (Nat × MObj)
  new : Option MObj
  v : Nat → MV → Prop

abbrev GF := List Nat × (List MObj → Option Eff)

def Eff.app (e : Eff) (σ : St) : St := fun l => if e.upd.map (·.1) = some l then e.upd.map (·.2) else if e.kill = some l then none else σ l

def Eff.out (e : Eff) (U : Nat → Prop) (σ : St) (v : MV) (U' : Nat → Prop) (σ' : St) : Prop :=
  match e.new with
  | none => e.v 0 v ∧ U' = U ∧ σ' = e.app σ
  | some o => ∃ l, ¬ U l ∧ e.v l v ∧ U' = (fun x => x = l ∨ U x) ∧ σ' = (e.app σ).set l o

def gs (U : Nat → Prop) (σ : St) (g : GF) (k : MV → (Nat → Prop) → St → Prop) : Prop :=
  ∃ os e, g.1.map σ = os.map some ∧ g.2 os = some e ∧ e.C ∧ (∀ l, ∃ v, e.v l v) ∧ ∀ v U' σ', e.out U σ v U' σ' → k v U' σ'

def Wf (g : GF) : Prop := ∀ os e, os.length = g.1.length → g.2 os = some e → (∀ l, e.kill = some l → l ∈ g.1) ∧ (∀ p, e.upd = some p → p.1 ∈ g.1)
def NoUpd (g : GF) : Prop := ∀ os e, os.length = g.1.length → g.2 os = some e → e.upd = none
def NoW (g : GF) : Prop := ∀ os e, os.length = g.1.length → g.2 os = some e → e.upd = none ∧ e.kill = none

def Dom (U : Nat → Prop) (σ : St) : Prop := ∀ l, σ l ≠ none → U l
def Fin (U : Nat → Prop) : Prop := ∃ n, ∀ l, n ≤ l → ¬ U l

theorem app_id {e : Eff} (h : e.upd = none ∧ e.kill = none) (σ : St) : e.app σ = σ := by
  funext l; simp [Eff.app, h.1, h.2]

theorem map_len {rd : List Nat} {σ : St} {os : List MObj} (h : rd.map σ = os.map some) : os.length = rd.length := by
  have := congrArg List.length h; simpa using this.symm

theorem map_mem {rd : List Nat} {σ : St} {os : List MObj} (h : rd.map σ = os.map some) {l : Nat} (hl : l ∈ rd) : σ l ≠ none := by
  have : σ l ∈ rd.map σ := List.mem_map_of_mem hl
  rw [h] at this
  obtain ⟨o, _, ho⟩ := List.mem_map.1 this
  rw [← ho]; simp

theorem map_inj {rd : List Nat} {σ σ' : St} {os os' : List MObj} (h : rd.map σ = os.map some) (h' : rd.map σ' = os'.map some) (he : ∀ l, l ∈ rd → σ l = σ' l) : os = os' := by
  have : rd.map σ = rd.map σ' := List.map_congr_left he
  rw [h, h'] at this
  clear h h' he
  induction os generalizing os' with
  | nil => cases os' with
    | nil => rfl
    | cons a r => simp at this
  | cons b r ih => cases os' with
    | nil => simp at this
    | cons a r' =>
      simp only [List.map_cons, List.cons.injEq, Option.some.injEq] at this
      rw [this.1, ih this.2]

theorem gs_mono {U : Nat → Prop} {σ : St} {g : GF} {k k' : MV → (Nat → Prop) → St → Prop} (h : gs U σ g k) (hd : Dom U σ) (hf : Fin U) (hk : ∀ v U' σ', Dom U' σ' → Fin U' → (∀ l, U l → U' l) → k v U' σ' → k' v U' σ') (wf : Wf g) : gs U σ g k' := by
  obtain ⟨os, e, h1, h2, h3, h4, h5⟩ := h
  refine ⟨os, e, h1, h2, h3, h4, fun v U' σ' ho => ?_⟩
  have hw := wf os e (map_len h1) h2
  have hdom : Dom U (e.app σ) := fun l hl => by
    simp only [Eff.app] at hl
    split at hl
    · rename_i hu
      cases hup : e.upd with
      | none => rw [hup] at hu; cases hu
      | some p =>
        rw [hup] at hu
        simp only [Option.map_some, Option.some.injEq] at hu
        have := hw.2 p hup
        rw [hu] at this
        exact hd l (map_mem h1 this)
    · split at hl
      · exact absurd rfl hl
      · exact hd l hl
  refine hk v U' σ' ?_ ?_ ?_ (h5 v U' σ' ho)
  all_goals
    unfold Eff.out at ho
    split at ho
  · obtain ⟨-, rfl, rfl⟩ := ho; exact hdom
  · obtain ⟨l, -, -, rfl, rfl⟩ := ho
    intro k hk
    simp only [St.set] at hk
    split at hk
    · rename_i e; exact .inl e
    · exact .inr (hdom k hk)
  · obtain ⟨-, rfl, rfl⟩ := ho; exact hf
  · obtain ⟨l, -, -, rfl, rfl⟩ := ho
    obtain ⟨n, hn⟩ := hf
    exact ⟨max n (l + 1), fun k hk q => q.elim (fun e => by omega) (hn k (by omega))⟩
  · obtain ⟨-, rfl, rfl⟩ := ho; exact fun _ h => h
  · obtain ⟨l, -, -, rfl, rfl⟩ := ho; exact fun _ h => .inr h

theorem gs_anti {U U' : Nat → Prop} {σ : St} {g : GF} {k : MV → (Nat → Prop) → St → Prop} (h : gs U σ g k) (hu : ∀ l, U l → U' l) (hk : ∀ v V V' σ, (∀ l, V l → V' l) → k v V σ → k v V' σ) : gs U' σ g k := by
  obtain ⟨os, e, h1, h2, h3, h4, h5⟩ := h
  refine ⟨os, e, h1, h2, h3, h4, fun v V σ' ho => ?_⟩
  unfold Eff.out at ho h5
  split at ho
  · rename_i hn
    obtain ⟨a, rfl, rfl⟩ := ho
    refine hk v U _ _ hu (h5 v U _ ?_)
    rw [hn]; exact ⟨a, rfl, rfl⟩
  · rename_i o hn
    obtain ⟨l, a, b, rfl, rfl⟩ := ho
    refine hk v (fun x => x = l ∨ U x) _ _ (fun x hx => hx.imp id (hu x)) (h5 v _ _ ?_)
    rw [hn]; exact ⟨l, fun q => a (hu l q), b, rfl, rfl⟩

/-- Some way on. -/
theorem out_some {e : Eff} {U : Nat → Prop} {σ : St} (hf : Fin U) (hv : ∀ l, ∃ v, e.v l v) (rd : List Nat) : ∃ v U' σ', e.out U σ v U' σ' ∧ ∀ l, l ∈ rd → σ' l = (e.app σ) l := by
  unfold Eff.out
  cases e.new with
  | none => obtain ⟨v, hv⟩ := hv 0; exact ⟨v, U, e.app σ, ⟨hv, rfl, rfl⟩, fun _ _ => rfl⟩
  | some o =>
    obtain ⟨n, hn⟩ := hf
    have key : ∃ m, ∀ l, l ∈ rd → l < m := by
      clear hv
      induction rd with
      | nil => exact ⟨0, by simp⟩
      | cons a r ih =>
        obtain ⟨m, hm⟩ := ih
        refine ⟨max m (a + 1), fun l hl => ?_⟩
        rcases List.mem_cons.1 hl with q | q
        · omega
        · have := hm l q; omega
    obtain ⟨m, hm⟩ := key
    obtain ⟨v, hv⟩ := hv (max n m)
    refine ⟨v, _, _, ⟨max n m, hn _ (by omega), hv, rfl, rfl⟩, fun l hl => ?_⟩
    have := hm l hl
    exact set_miss _ _ _ _ (by omega)

theorem app_set {e : Eff} {σ : St} {l : Nat} {o : MObj} (hk : e.kill ≠ some l) (hu : ∀ p, e.upd = some p → p.1 ≠ l) : e.app (σ.set l o) = (e.app σ).set l o := by
  funext k
  simp only [Eff.app, St.set]
  by_cases h : k = l
  · subst h
    rw [if_neg, if_neg hk, if_pos rfl]
    · simp
    · intro q
      cases hup : e.upd with
      | none => rw [hup] at q; cases q
      | some p => rw [hup] at q; simp at q; exact hu p hup q
  · simp only [if_neg h]

/-- Two operations change places. -/
theorem gs_swap {U : Nat → Prop} {σ : St} {gx gy : GF} {K : MV → MV → (Nat → Prop) → St → Prop} (hd : Dom U σ) (hf : Fin U) (wx : Wf gx) (wy : Wf gy)
    (hc : ((gy.1 = [] ∨ NoUpd gx) ∧ (gx.1 = [] ∨ NoW gy) ∧ (NoW gx ∨ NoW gy)) ∨ ∀ l, l ∈ gx.1 → l ∉ gy.1)
    (hK : ∀ v u V V' σ, (∀ l, V l → V' l) → K v u V σ → K v u V' σ)
    (h : gs U σ gx fun v U1 σ1 => gs U1 σ1 gy fun u U2 σ2 => K v u U2 σ2) :
    gs U σ gy fun u U1 σ1 => ∀ U1', (∀ l, U1 l → U1' l) → gs U1' σ1 gx fun v U2 σ2 => K v u U2 σ2 := by
  obtain ⟨ox, ex, x1, x2, x3, x4, x5⟩ := h
  have wx' := wx ox ex (map_len x1) x2
  -- what y reads is there already
  have agree : ∀ v U1 σ1, ex.out U σ v U1 σ1 → ∀ oy : List MObj, gy.1.map σ1 = oy.map some → (∀ l, l ∈ gy.1 → σ1 l = (ex.app σ) l) → ∀ l, l ∈ gy.1 → σ1 l = σ l := by
    intro v U1 σ1 ho oy hoy hsame l hl
    rw [hsame l hl]
    rcases hc.imp_left (·.1) with (c | c) | c
    · rw [c] at hl; cases hl
    · have hu := c ox ex (map_len x1) x2
      have hne := map_mem hoy hl
      rw [hsame l hl] at hne
      simp only [Eff.app, hu, Option.map_none] at hne ⊢
      split at hne
      · rename_i q; cases q
      · split at hne
        · exact absurd rfl hne
        · rename_i q1 q2; rw [if_neg q1, if_neg q2]
    · simp only [Eff.app]
      rw [if_neg, if_neg]
      · intro e; exact c l (wx'.1 l e) hl
      · intro e
        obtain ⟨p, hp, he⟩ := Option.map_eq_some_iff.1 e
        exact c l (he ▸ wx'.2 p hp) hl
  obtain ⟨v0, V0, σ0, out0, same0⟩ := out_some (σ := σ) hf x4 gy.1
  obtain ⟨oy, ey, y1, y2, y3, y4, y5⟩ := x5 v0 V0 σ0 out0
  have ag0 := agree v0 V0 σ0 out0 oy y1 same0
  have y1' : gy.1.map σ = oy.map some := by rw [← y1]; exact (List.map_congr_left ag0).symm
  have wy' := wy oy ey (map_len y1) y2
  refine ⟨oy, ey, y1', y2, y3, y4, fun u U1 σ1 hoy U1' hU1 => ?_⟩
  -- what x reads is there still
  have hx1 : gx.1.map σ1 = ox.map some := by
    rw [← x1]
    refine List.map_congr_left fun l hl => ?_
    rcases hc.imp_left (·.2.1) with (c | c) | c
    · rw [c] at hl; cases hl
    · have hw := c oy ey (map_len y1) y2
      unfold Eff.out at hoy
      split at hoy
      · obtain ⟨-, -, rfl⟩ := hoy; rw [app_id hw]
      · obtain ⟨k, q1, q2, q3, rfl⟩ := hoy
        rw [app_id hw]
        refine set_miss _ _ _ _ (fun e => q1 ?_)
        subst e
        exact hd l (map_mem x1 hl)
    · have hap : (ey.app σ) l = σ l := by
        simp only [Eff.app]
        rw [if_neg, if_neg]
        · intro e; exact c l hl (wy'.1 l e)
        · intro e
          obtain ⟨p, hp, he⟩ := Option.map_eq_some_iff.1 e
          exact c l hl (he ▸ wy'.2 p hp)
      unfold Eff.out at hoy
      split at hoy
      · obtain ⟨-, -, rfl⟩ := hoy; exact hap
      · obtain ⟨k, q1, q2, q3, rfl⟩ := hoy
        rw [← hap]
        refine set_miss _ _ _ _ (fun e => q1 ?_)
        subst e
        exact hd l (map_mem x1 hl)
  refine ⟨ox, ex, hx1, x2, x3, x4, fun v U2 σ2 hox => ?_⟩
  -- the two in their old order, at the same places
  have noty : ∀ l, ¬ U l → ey.kill ≠ some l ∧ ∀ p, ey.upd = some p → p.1 ≠ l := fun l hl =>
    ⟨fun e => hl (hd l (map_mem y1' (wy'.1 l e))), fun p hp e => hl (hd l (e ▸ map_mem y1' (wy'.2 p hp)))⟩
  have notx : ∀ l, ¬ U l → ex.kill ≠ some l ∧ ∀ p, ex.upd = some p → p.1 ≠ l := fun l hl =>
    ⟨fun e => hl (hd l (map_mem x1 (wx'.1 l e))), fun p hp e => hl (hd l (e ▸ map_mem x1 (wx'.2 p hp)))⟩
  have comm : ex.app (ey.app σ) = ey.app (ex.app σ) := by
    rcases hc.imp_left (·.2.2) with (c | c) | c
    · rw [app_id (c ox ex (map_len x1) x2), app_id (c ox ex (map_len x1) x2)]
    · rw [app_id (c oy ey (map_len y1) y2), app_id (c oy ey (map_len y1) y2)]
    · funext l
      by_cases hx : l ∈ gx.1
      · have hy := c l hx
        have n1 : ey.upd.map (·.1) ≠ some l := fun e => by
          obtain ⟨p, hp, he⟩ := Option.map_eq_some_iff.1 e
          exact hy (he ▸ wy'.2 p hp)
        have n2 : ey.kill ≠ some l := fun e => hy (wy'.1 l e)
        simp only [Eff.app, if_neg n1, if_neg n2]
      · have n1 : ex.upd.map (·.1) ≠ some l := fun e => by
          obtain ⟨p, hp, he⟩ := Option.map_eq_some_iff.1 e
          exact hx (he ▸ wx'.2 p hp)
        have n2 : ex.kill ≠ some l := fun e => hx (wx'.1 l e)
        simp only [Eff.app, if_neg n1, if_neg n2]
  have finish : ∀ V σ', ex.out U σ v V σ' → (∀ l, l ∈ gy.1 → σ' l = (ex.app σ) l) → ∀ W σ'', ey.out V σ' u W σ'' → K v u W σ'' := by
    intro V σ' ho hsame W σ'' hoy'
    obtain ⟨oy2, ey2, z1, z2, z3, z4, z5⟩ := x5 v V σ' ho
    have ag := agree v V σ' ho oy2 z1 hsame
    have : oy = oy2 := map_inj y1' z1 (fun l hl => (ag l hl).symm)
    subst this
    rw [y2] at z2; cases z2
    exact z5 u W σ'' hoy'
  have hmem : ∀ l, ¬ U l → l ∉ gy.1 := fun l hl q => hl (hd l (map_mem y1' q))
  unfold Eff.out at hox hoy
  cases hnx : ex.new with
  | none =>
    rw [hnx] at hox
    obtain ⟨a1, rfl, rfl⟩ := hox
    have hout : ex.out U σ v U (ex.app σ) := by unfold Eff.out; rw [hnx]; exact ⟨a1, rfl, rfl⟩
    cases hny : ey.new with
    | none =>
      rw [hny] at hoy
      obtain ⟨b1, rfl, rfl⟩ := hoy
      refine hK v u U1 U2 _ hU1 (finish _ _ hout (fun _ _ => rfl) _ _ ?_)
      unfold Eff.out; rw [hny]; exact ⟨b1, rfl, comm⟩
    | some o =>
      rw [hny] at hoy
      obtain ⟨l, b0, b1, rfl, rfl⟩ := hoy
      refine hK v u _ U2 _ hU1 (finish _ _ hout (fun _ _ => rfl) _ _ ?_)
      unfold Eff.out; rw [hny]
      refine ⟨l, b0, b1, rfl, ?_⟩
      rw [app_set (notx l b0).1 (notx l b0).2, comm]
  | some p =>
    rw [hnx] at hox
    obtain ⟨k, a0, a1, rfl, rfl⟩ := hox
    have hout : ∀ W : Nat → Prop, (∀ l, U l → W l) → ¬ W k → ex.out U σ v (fun x => x = k ∨ U x) ((ex.app σ).set k p) := fun W hW hk => by
      unfold Eff.out; rw [hnx]; exact ⟨k, fun q => hk (hW k q), a1, rfl, rfl⟩
    cases hny : ey.new with
    | none =>
      rw [hny] at hoy
      obtain ⟨b1, rfl, rfl⟩ := hoy
      have hk : ¬ U1 k := fun q => a0 (hU1 k q)
      refine hK v u (fun x => x = k ∨ U1 x) _ _ (fun l q => q.imp id (hU1 l)) (finish _ _ (hout U1' hU1 a0) (fun l hl => set_miss _ _ _ _ (fun e => hmem k hk (e ▸ hl))) _ _ ?_)
      unfold Eff.out; rw [hny]
      refine ⟨b1, rfl, ?_⟩
      rw [comm, app_set (noty k hk).1 (noty k hk).2]
    | some o =>
      rw [hny] at hoy
      obtain ⟨l, b0, b1, rfl, rfl⟩ := hoy
      have hk : ¬ U k := fun q => a0 (hU1 k (.inr q))
      have hkl : k ≠ l := fun e => a0 (hU1 k (.inl e))
      refine hK v u (fun x => x = l ∨ (x = k ∨ U x)) _ _ (fun x q => ?_) (finish _ _ (hout U1' (fun x q => hU1 x (.inr q)) a0) (fun x hx => set_miss _ _ _ _ (fun e => hmem k hk (e ▸ hx))) _ _ ?_)
      · rcases q with q | q | q
        · exact .inr (hU1 x (.inl q))
        · exact .inl q
        · exact .inr (hU1 x (.inr q))
      · unfold Eff.out; rw [hny]
        refine ⟨l, fun q => q.elim (fun e => hkl e.symm) b0, b1, rfl, ?_⟩
        rw [app_set (notx l b0).1 (notx l b0).2, comm, app_set (noty k hk).1 (noty k hk).2, set_comm _ _ _ (Ne.symm hkl)]

end Go.Proofs.Ytielcgplbnlgbaa
