/- Parts of the proof, joined. Each part says what it proves, and under which conditions it does: those that its theorems name. -/
import Derived.Test.YtjljgahfkcdhfaaGreatDoorSne
set_option linter.unusedVariables false
set_option linter.unusedSimpArgs false
set_option maxHeartbeats 4000000
section
namespace Go.Proofs.YtjljgahfkcdhfaaGreatDoor
def mcallC (P : Program) (C : Know) (g : FuncId) (ms : List MV) (σ : St) (k : MV → St → Prop) : Prop :=
 (∃ rd q os, C g ms = some ⟨rd, q, none⟩ ∧ rd.map σ = os.map some ∧ MCalls P g ms (St.ofList rd os) (fun v σ' => q v ∧ σ' = St.ofList rd os) ∧ (∃ v, q v) ∧ ∀ v, q v → k v σ) ∨
 ∃ rd q o u, C g ms = some ⟨rd, q, some (o, u)⟩ ∧ MCalls P g ms St.none (fun v σ' => ∃ l, v = u l ∧ σ' = St.none.set l o) ∧ ∀ l, σ l = none → k (u l) (σ.set l o)
def mcallU (P : Program) (C : Know) (g : FuncId) (ms : List MV) (σ : St) (k : MV → St → Prop) : Prop :=
 (∃ rd q os, C g ms = some ⟨rd, q, none⟩ ∧ rd.map σ = os.map some ∧ MCalls P g ms (St.ofList rd os) (fun v σ' => q v ∧ σ' = St.ofList rd os) ∧ (∃ v, q v) ∧ ∀ v, q v → k v σ) ∨
 (∃ q o u, C g ms = some ⟨[], q, some (o, u)⟩ ∧ MCalls P g ms St.none (fun v σ' => ∃ l, v = u l ∧ σ' = St.none.set l o) ∧ ∀ l, σ l = none → k (u l) (σ.set l o)) ∨
 ∃ l q o o' u, C g ms = some ⟨[l], q, some (o', u)⟩ ∧ σ l = some o ∧ MCalls P g ms (St.none.set l o) (fun v σ' => v = u l ∧ σ' = St.none.set l o') ∧ k (u l) (σ.set l o')
def mopX (P : Program) (MC : FuncId → List MV → St → (MV → St → Prop) → Prop) (f : FR) (σ : St) (k : MV → St → Prop) : Op → Prop
 | .call ⟨.value x, args, ts⟩ => match mval f x with
  | .fn (.func g) ms ns => MC g (ms ++ args.toList.map (mval f) ++ ns) σ k
  | _ => False
 | .defer _ => False
 | op => mop P f σ k op
section
variable {P : Program} {C : Know} {f : FR} {σ : St} {U : Nat → Prop}
theorem ofList_le : ∀ (rd : List Nat) (os : List MObj), rd.map σ = os.map some → (St.ofList rd os).le σ
 | [], _, _ => by
  intro l o h
  simp [St.ofList, St.none] at h
 | l :: ls, [], h => by simp at h
 | l :: ls, o :: os, h => by
  simp only [List.map_cons, List.cons.injEq] at h
  simp only [St.ofList]
  exact St.set_le (ofList_le ls os h.2) h.1
theorem gs_pure {pv : PV} {k : MV → St → Prop} (h : mpure σ k pv) : gs U σ (gpure pv) fun v _ σ' => k v σ' := by
 cases pv with
 | none => exact h.elim
 | some x =>
  obtain ⟨Cd, v⟩ := x
  refine ⟨[], ⟨Cd, none, none, none, fun _ u => u = v⟩, rfl, rfl, h.1, fun _ => ⟨v, rfl⟩, fun u U' σ' ho => ?_⟩
  obtain ⟨rfl, -, rfl⟩ := ho
  rw [app_id ⟨rfl, rfl⟩]
  exact h.2
theorem pure_gs {pv : PV} {k : MV → (Nat → Prop) → St → Prop} (h : gs U σ (gpure pv) k) : mpure σ (fun v σ' => ∃ U', (∀ l, U' l → U l ∨ σ' l ≠ none) ∧ k v U' σ') pv := by
 obtain ⟨os, e, h1, h2, h3, h4, h5⟩ := h
 cases pv with
 | none => simp [gpure] at h2
 | some x =>
  obtain ⟨Cd, v⟩ := x
  simp only [gpure, Option.map_some, Option.some.injEq] at h2
  subst h2
  refine ⟨h3, U, fun l h => .inl h, h5 v U σ ⟨rfl, rfl, ?_⟩⟩
  rw [app_id ⟨rfl, rfl⟩]
theorem gs_alloc {Cd : Prop} {o : MObj} {v : Nat → MV} {k : MV → St → Prop} (hd : Dom U σ) (h : Cd ∧ ∀ l, σ l = none → k (v l) (σ.set l o)) : gs U σ (galloc Cd o v) fun v _ σ' => k v σ' := by
 refine ⟨[], ⟨Cd, none, none, some o, fun l u => u = v l⟩, rfl, rfl, h.1, fun l => ⟨v l, rfl⟩, fun u U' σ' ho => ?_⟩
 obtain ⟨l, hl, rfl, -, rfl⟩ := ho
 rw [app_id ⟨rfl, rfl⟩]
 exact h.2 l (by
  cases hs : σ l with
  | none => rfl
  | some x => exact absurd (hd l (by simp [hs])) hl)
def Newly (U : Nat → Prop) (σ : St) (k : MV → (Nat → Prop) → St → Prop) (v : MV) (σ' : St) : Prop :=
 (∀ l, σ' l ≠ none → σ l = none → ¬ U l) → ∃ U', (∀ l, U' l → U l ∨ σ' l ≠ none) ∧ k v U' σ'
theorem alloc_gs {Cd : Prop} {o : MObj} {v : Nat → MV} {k : MV → (Nat → Prop) → St → Prop} (h : gs U σ (galloc Cd o v) k) : Cd ∧ ∀ l, σ l = none → Newly U σ k (v l) (σ.set l o) := by
 obtain ⟨os, e, h1, h2, h3, h4, h5⟩ := h
 simp only [galloc, Option.some.injEq] at h2
 subst h2
 refine ⟨h3, fun l hl hn => ⟨fun x => x = l ∨ U x, fun x hx => hx.elim (fun e => .inr (by rw [e, set_hit]; simp)) .inl, h5 _ _ _ ⟨l, hn l (by rw [set_hit]; simp) hl, rfl, rfl, ?_⟩⟩⟩
 rw [app_id ⟨rfl, rfl⟩]
theorem mpure_mono {pv : PV} {k k' : MV → St → Prop} (h : mpure σ k pv) (hk : ∀ v σ', k v σ' → k' v σ') : mpure σ k' pv := by
 cases pv with
 | none => exact h.elim
 | some x => exact ⟨h.1, hk _ _ h.2⟩
theorem msrc_stOf {e : Nat} {x : MV} {os : List MObj} (h : (srcLoc x).map σ = os.map some) : msrc (stOf os) e x = msrc σ e x := by
 cases x <;> try rfl
 rename_i e' l lo n
 cases os with
 | nil => simp [srcLoc] at h
 | cons o r =>
  simp only [srcLoc, List.map_cons, List.map_nil, List.cons.injEq] at h
  simp only [msrc, stOf, List.head?_cons, h.1]
theorem src_ex {e : Nat} {x : MV} {ys : List (List MV)} (h : msrc σ e x = some ys) : ∃ os : List MObj, (srcLoc x).map σ = os.map some := by
 cases x <;> try exact ⟨[], rfl⟩
 rename_i e' l lo n
 simp only [msrc] at h
 split at h
 ·split at h
  ·rename_i t e2 xs hs; exact ⟨[.row t e2 xs], by simp [srcLoc, hs]⟩
  ·cases h
 ·cases h
theorem gs_load {t : TypeId} {x : MV} {k : MV → St → Prop} (h : mload P t x σ k) : gs U σ (gload P t x) fun v _ σ' => k v σ' := by
 unfold mload at h
 unfold gload
 split at h
 ·rename_i l i o
  split at h
  ·rename_i tt e xs hs
   refine ⟨[.row tt e xs], _, by simp [hs], rfl, h.1, fun _ => ⟨_, rfl⟩, fun v U' σ' ho => ?_⟩
   obtain ⟨rfl, -, rfl⟩ := ho
   rw [app_id ⟨rfl, rfl⟩]; exact h.2
  ·exact h.elim
 ·exact gs_pure (σ := σ) (pv := some (_, _)) h
 ·exact h.elim
theorem load_gs {t : TypeId} {x : MV} {k : MV → (Nat → Prop) → St → Prop} (h : gs U σ (gload P t x) k) : mload P t x σ (Newly U σ k) := by
 unfold gload at h
 unfold mload
 split at h
 ·rename_i l i o
  obtain ⟨os, e, h1, h2, h3, h4, h5⟩ := h
  simp only at h1 h2
  split at h2
  ·rename_i tt ee xs
   cases h2
   simp only [List.map_cons, List.map_nil, List.cons.injEq, and_true] at h1
   simp only [h1]
   refine ⟨h3, fun _ => ⟨U, fun _ h => .inl h, h5 _ _ _ ⟨rfl, rfl, ?_⟩⟩⟩
   rw [app_id ⟨rfl, rfl⟩]
  ·cases h2
 ·obtain ⟨h1, U', h2, h3⟩ := pure_gs (σ := σ) h
  exact ⟨h1, fun _ => ⟨U', h2, h3⟩⟩
 ·obtain ⟨os, e, h1, h2, _⟩ := h
  simp [gfail] at h2
theorem app_upd {Cd : Prop} {l : Nat} {o : MObj} {n : Option MObj} {v : Nat → MV → Prop} : (Eff.app ⟨Cd, none, some (l, o), n, v⟩ σ) = σ.set l o := by
 funext k
 simp only [Eff.app, St.set, Option.map_some, Option.some.injEq, reduceCtorEq, if_false]
 by_cases hk : k = l
 ·simp [hk]
 ·rw [if_neg (Ne.symm hk), if_neg hk]
theorem gs_store {t : TypeId} {x y : MV} {k : MV → St → Prop} (h : mstore P t x y σ k) : gs U σ (gstore P t x y) fun v _ σ' => k v σ' := by
 unfold mstore at h
 unfold gstore
 split at h
 ·rename_i l i o
  split at h
  ·rename_i tt e xs hs
   refine ⟨[.row tt e xs], _, by simp [hs], rfl, h.1, fun _ => ⟨_, rfl⟩, fun v U' σ' ho => ?_⟩
   obtain ⟨rfl, -, rfl⟩ := ho
   rw [app_upd]; exact h.2
  ·exact h.elim
 ·exact h.elim
theorem store_gs {t : TypeId} {x y : MV} {k : MV → (Nat → Prop) → St → Prop} (h : gs U σ (gstore P t x y) k) : mstore P t x y σ (Newly U σ k) := by
 unfold gstore at h
 unfold mstore
 split at h
 ·rename_i l i o
  obtain ⟨os, e, h1, h2, h3, h4, h5⟩ := h
  simp only at h1 h2
  split at h2
  ·rename_i tt ee xs
   cases h2
   simp only [List.map_cons, List.map_nil, List.cons.injEq, and_true] at h1
   simp only [h1]
   refine ⟨h3, fun _ => ⟨U, fun _ h => .inl h, h5 _ _ _ ⟨rfl, rfl, ?_⟩⟩⟩
   rw [app_upd]
  ·cases h2
 ·obtain ⟨os, e, h1, h2, _⟩ := h
  simp [gfail] at h2
theorem app_kill {Cd : Prop} {l : Nat} {n : Option MObj} {v : Nat → MV → Prop} : (Eff.app ⟨Cd, some l, none, n, v⟩ σ) = σ.del l := by
 funext k
 simp only [Eff.app, St.del, Option.map_none, reduceCtorEq, if_false, Option.some.injEq]
 by_cases hk : k = l
 ·simp [hk]
 ·rw [if_neg (Ne.symm hk), if_neg hk]
theorem fresh_of (hd : Dom U σ) {l : Nat} (hl : ¬ U l) : σ l = none := by
 cases hs : σ l with
 | none => rfl
 | some x => exact absurd (hd l (by simp [hs])) hl
theorem gs_append {t xt : TypeId} {s x : MV} {k : MV → St → Prop} (hd : Dom U σ) (h : mappend P t xt s x σ k) : gs U σ (gappend P t xt s x) fun v _ σ' => k v σ' := by
 unfold mappend at h
 unfold gappend
 split at h
 ·rename_i el hk
  simp only [hk]
  split at h
  ·rename_i ys hy
   obtain ⟨os, hos⟩ := src_ex hy
   have hsrc := msrc_stOf (e := (td P el).size) hos
   rw [hy] at hsrc
   split at h
   ·refine ⟨os, ⟨(td P xt).k.isSrc = true ∧ (td P el).zok = true ∧ Fits ys.length (td P el).bytes, none, none, some (.row el (td P el).size ys), fun l u => u = .vec (td P el).size l 0 ys.length⟩, hos, by simp only [hsrc], h.1, fun l => ⟨_, rfl⟩, fun u U' σ' ho => ?_⟩
    obtain ⟨l, hl, rfl, -, rfl⟩ := ho
    rw [app_id ⟨rfl, rfl⟩]
    exact h.2 l (fresh_of hd hl)
   ·rename_i e xs
    refine ⟨os, ⟨(td P xt).k.isSrc = true ∧ (td P el).zok = true ∧ e = (td P el).size ∧ (xs = [] ∨ 0 < ys.length) ∧ Fits (xs.length + ys.length) (td P el).bytes, none, none, some (.row el (td P el).size (xs ++ ys)), fun l u => u = .vec (td P el).size l 0 (xs.length + ys.length)⟩, hos, by simp only [hsrc], h.1, fun l => ⟨_, rfl⟩, fun u U' σ' ho => ?_⟩
    obtain ⟨l, hl, rfl, -, rfl⟩ := ho
    rw [app_id ⟨rfl, rfl⟩]
    exact h.2 l (fresh_of hd hl)
   ·rename_i e l lo n
    split at h
    ·rename_i tt e' xs hs
     refine ⟨.row tt e' xs :: os, ⟨(td P xt).k.isSrc = true ∧ (td P el).zok = true ∧ e = (td P el).size ∧ e' = (td P el).size ∧ tt = el ∧ lo = 0 ∧ lo + n ≤ xs.length ∧ Fits (n + ys.length) (td P el).bytes, some l, none, some (.row el (td P el).size (appRow xs lo n ys)), fun l' u => u = .vec (td P el).size l' 0 (n + ys.length)⟩, by simp [hs, hos], by simp only [hsrc], h.1, fun l => ⟨_, rfl⟩, fun u U' σ' ho => ?_⟩
     obtain ⟨l', hl, rfl, -, rfl⟩ := ho
     rw [app_kill]
     exact h.2 l' (fresh_of hd hl)
    ·exact h.elim
   ·exact h.elim
  ·exact h.elim
 ·exact h.elim
theorem append_gs {t xt : TypeId} {s x : MV} {k : MV → (Nat → Prop) → St → Prop} (h : gs U σ (gappend P t xt s x) k) : mappend P t xt s x σ (Newly U σ k) := by
 unfold gappend at h
 unfold mappend
 split at h
 ·rename_i el hk
  split at h
  ·obtain ⟨os, e, h1, h2, h3, h4, h5⟩ := h
   simp only at h1 h2
   split at h2
   ·rename_i ys hy
    cases h2
    rw [msrc_stOf h1] at hy
    simp only [hk, hy]
    refine ⟨h3, fun l hl hn => ⟨fun x => x = l ∨ U x, fun x hx => hx.elim (fun e => .inr (by rw [e, set_hit]; simp)) .inl, h5 _ _ _ ⟨l, hn l (by rw [set_hit]; simp) hl, rfl, rfl, ?_⟩⟩⟩
    rw [app_id ⟨rfl, rfl⟩]
   ·cases h2
  ·obtain ⟨os, e, h1, h2, h3, h4, h5⟩ := h
   simp only at h1 h2
   split at h2
   ·rename_i ys hy
    cases h2
    rw [msrc_stOf h1] at hy
    simp only [hk, hy]
    refine ⟨h3, fun l hl hn => ⟨fun x => x = l ∨ U x, fun x hx => hx.elim (fun e => .inr (by rw [e, set_hit]; simp)) .inl, h5 _ _ _ ⟨l, hn l (by rw [set_hit]; simp) hl, rfl, rfl, ?_⟩⟩⟩
    rw [app_id ⟨rfl, rfl⟩]
   ·cases h2
  ·obtain ⟨os, e, h1, h2, h3, h4, h5⟩ := h
   simp only at h1 h2
   split at h2
   ·rename_i tt e' xs os'
    simp only [List.map_cons, List.cons.injEq] at h1
    split at h2
    ·rename_i ys hy
     cases h2
     rw [msrc_stOf h1.2] at hy
     simp only [hk, hy, h1.1]
     refine ⟨h3, fun l hl hn => ⟨fun x => x = l ∨ U x, fun x hx => hx.elim (fun e => .inr (by rw [e, set_hit]; simp)) .inl, h5 _ _ _ ⟨l, hn l (by rw [set_hit]; simp) hl, rfl, rfl, ?_⟩⟩⟩
     rw [app_kill]
    ·cases h2
   ·cases h2
  ·obtain ⟨os, e, h1, h2, _⟩ := h
   simp [gfail] at h2
 ·obtain ⟨os, e, h1, h2, _⟩ := h
  simp [gfail] at h2
theorem no_fail {k : MV → (Nat → Prop) → St → Prop} (h : gs U σ gfail k) : False := by
 obtain ⟨os, e, h1, h2, _⟩ := h
 simp [gfail] at h2
theorem gs_src {D : Prop} {x : MV} {k : MV → St → Prop} (h : match msrc σ 1 x with | some ys => (D ∧ ys.all isByte = true) ∧ k (.str (bytesOf ys)) σ | none => False) :
  gs U σ (srcLoc x, fun os => match msrc (stOf os) 1 x with
  | some ys => some ⟨D ∧ ys.all isByte = true, none, none, none, fun _ u => u = .str (bytesOf ys)⟩
  | none => none) fun v _ σ' => k v σ' := by
 split at h
 ·rename_i ys hy
  obtain ⟨os, hos⟩ := src_ex hy
  have hsrc := msrc_stOf (e := 1) hos
  rw [hy] at hsrc
  refine ⟨os, ⟨D ∧ ys.all isByte = true, none, none, none, fun _ u => u = .str (bytesOf ys)⟩, hos, by simp only [hsrc], h.1, fun _ => ⟨_, rfl⟩, fun u U' σ' ho => ?_⟩
  obtain ⟨rfl, -, rfl⟩ := ho
  rw [app_id ⟨rfl, rfl⟩]; exact h.2
 ·exact h.elim
theorem src_gs {D : Prop} {x : MV} {k : MV → (Nat → Prop) → St → Prop} (h : gs U σ (srcLoc x, fun os => match msrc (stOf os) 1 x with
  | some ys => some ⟨D ∧ ys.all isByte = true, none, none, none, fun _ u => u = .str (bytesOf ys)⟩
  | none => none) k) : match msrc σ 1 x with | some ys => (D ∧ ys.all isByte = true) ∧ Newly U σ k (.str (bytesOf ys)) σ | none => False := by
 obtain ⟨os, e, h1, h2, h3, h4, h5⟩ := h
 simp only at h1 h2
 split at h2
 ·rename_i ys hy
  cases h2
  rw [msrc_stOf h1] at hy
  simp only [hy]
  refine ⟨h3, fun _ => ⟨U, fun _ h => .inl h, h5 _ _ _ ⟨rfl, rfl, ?_⟩⟩⟩
  rw [app_id ⟨rfl, rfl⟩]
 ·cases h2
theorem gs_convert {s d : TypeId} {x : MV} {k : MV → St → Prop} (hd : Dom U σ) (h : mconvert P s d x σ k) : gs U σ (gconvert P s d x) fun v _ σ' => k v σ' := by
 unfold mconvert at h
 unfold gconvert
 cases hs : (td P s).k <;> cases hk : (td P d).k <;> simp only [hs, hk] at h ⊢ <;> first
  | exact gs_pure h
  | (cases x <;> first | exact gs_pure h | exact gs_alloc hd h | exact h.elim | exact gs_src h)
theorem convert_gs {s d : TypeId} {x : MV} {k : MV → (Nat → Prop) → St → Prop} (h : gs U σ (gconvert P s d x) k) : mconvert P s d x σ (Newly U σ k) := by
 unfold gconvert at h
 unfold mconvert
 have hp : ∀ {pv : PV}, gs U σ (gpure pv) k → mpure σ (Newly U σ k) pv := fun h => mpure_mono (pure_gs h) fun v σ' hh _ => hh
 cases hs : (td P s).k <;> cases hk : (td P d).k <;> simp only [hs, hk] at h ⊢ <;> first
  | exact hp h
  | (cases x <;> first | exact hp h | exact alloc_gs h | exact (no_fail h).elim | exact src_gs h)
theorem gs_known {g : FuncId} {ms : List MV} {k : MV → St → Prop} {rd : List Nat} {q : MV → Prop} {os : List MObj} (h1 : C g ms = some ⟨rd, q, none⟩) (h2 : rd.map σ = os.map some) (h3 : MCalls P g ms (St.ofList rd os) (fun v σ' => q v ∧ σ' = St.ofList rd os)) (h4 : ∃ v, q v) (h5 : ∀ v, q v → k v σ) : gs U σ (gcall P C g ms) fun v _ σ' => k v σ' := by
 unfold gcall
 rw [h1]
 refine ⟨os, ⟨MCalls P g ms (St.ofList rd os) (fun v σ' => q v ∧ σ' = St.ofList rd os), none, none, none, fun _ u => q u⟩, h2, rfl, h3, fun _ => h4, fun u U' σ' ho => ?_⟩
 obtain ⟨hq, -, rfl⟩ := ho
 rw [app_id ⟨rfl, rfl⟩]
 exact h5 u hq
theorem gs_call {g : FuncId} {ms : List MV} {k : MV → St → Prop} (hd : Dom U σ) (h : mcallC P C g ms σ k) : gs U σ (gcall P C.pl g ms) fun v _ σ' => k v σ' := by
 rcases h with ⟨rd, q, os, h1, h2, h3, h4, h5⟩ | ⟨rd, q, o, u, h1, h2, h3⟩
 ·exact gs_known (by unfold Know.pl; rw [h1]; rfl) h2 h3 h4 h5
 ·have hC : C.pl g ms = some ⟨[], q, some (o, u)⟩ := by unfold Know.pl; rw [h1]; rfl
  unfold gcall
  rw [hC]
  exact gs_alloc hd ⟨h2, h3⟩
theorem gs_callU {g : FuncId} {ms : List MV} {k : MV → St → Prop} (hd : Dom U σ) (h : mcallU P C g ms σ k) : gs U σ (gcall P C g ms) fun v _ σ' => k v σ' := by
 rcases h with ⟨rd, q, os, h1, h2, h3, h4, h5⟩ | ⟨q, o, u, h1, h2, h3⟩ | ⟨l, q, o, o', u, h1, h2, h3, h4⟩
 ·exact gs_known h1 h2 h3 h4 h5
 ·unfold gcall
  rw [h1]
  exact gs_alloc hd ⟨h2, h3⟩
 ·unfold gcall
  rw [h1]
  refine ⟨[o], ⟨MCalls P g ms (St.none.set l o) (fun v σ' => v = u l ∧ σ' = St.none.set l o'), none, some (l, o'), none, fun _ w => w = u l⟩, by simp [h2], rfl, h3, fun _ => ⟨_, rfl⟩, fun v U' σ' ho => ?_⟩
  obtain ⟨hv, -, rfl⟩ := ho
  rw [app_upd, hv]
  exact h4
theorem call_gs {g : FuncId} {ms : List MV} {k : MV → (Nat → Prop) → St → Prop} (h : gs U σ (gcall P C g ms) k) : MCalls P g ms σ (Newly U σ k) := by
 unfold gcall at h
 split at h
 ·rename_i rd q hC
  obtain ⟨os, e, h1, h2, h3, h4, h5⟩ := h
  simp only [Option.some.injEq] at h2
  subst h2
  simp only at h1 h3
  have hle := ofList_le rd os h1
  refine (h3.frame hle).mono ?_
  rintro v σ1 ⟨σ', ⟨hq, rfl⟩, rfl, -⟩
  rw [over_minus hle]
  refine fun _ => ⟨U, fun _ h => .inl h, h5 _ _ _ ⟨hq, rfl, ?_⟩⟩
  rw [app_id ⟨rfl, rfl⟩]
 ·rename_i rd q o u hC
  obtain ⟨h1, h2⟩ := alloc_gs h
  refine (h1.frame (St.none_le σ)).mono ?_
  rintro v σ1 ⟨σ', ⟨l, rfl, rfl⟩, rfl, hf⟩
  rw [minus_none, over_set, over_none]
  refine h2 l ?_
  rcases hf l o (set_hit _ _ _) with h | ⟨o', h⟩
  ·exact h
  ·simp [St.none] at h
 ·rename_i l q o' u hC
  obtain ⟨os, e, h1, h2, h3, h4, h5⟩ := h
  simp only at h1 h2
  split at h2
  ·rename_i o
   cases h2
   have hl : σ l = some o := by simpa using h1
   have hle : (St.none.set l o).le σ := St.set_le (St.none_le _) hl
   refine (MCalls.frame h3 hle).mono ?_
   rintro v σ1 ⟨σ', ⟨hv, rfl⟩, rfl, -⟩
   have e : (St.none.set l o').over (σ.minus (St.none.set l o)) = σ.set l o' := by
    funext j
    by_cases h : j = l
    ·subst h; simp [St.over, St.set]
    ·simp [St.over, St.set, St.minus, h, St.none]
   rw [e]
   exact fun _ => ⟨U, fun _ h => .inl h, h5 _ _ _ ⟨hv, rfl, app_upd.symm⟩⟩
  ·cases h2
 ·exact (no_fail h).elim
theorem gs_opX {MC : FuncId → List MV → St → (MV → St → Prop) → Prop} (hMC : ∀ g ms k, MC g ms σ k → gs U σ (gcall P C g ms) fun v _ σ' => k v σ') {op : Op} {k : MV → St → Prop} (hd : Dom U σ) (h : mopX P MC f σ k op) : gs U σ (gop P C f op) fun v _ σ' => k v σ' := by
 cases op
 case alloc t => exact gs_alloc hd h
 case box t x => exact gs_alloc hd h
 case load t x => exact gs_load h
 case store t x y => exact gs_store h
 case convert s d x => exact gs_convert hd h
 case buildSlice t n p =>
  have h : mbuildSlice P f t n p σ k := h
  simp only [gop]
  unfold mbuildSlice at h
  unfold gbuildSlice
  split at h
  ·rename_i el hk; simp only [hk]; exact gs_alloc hd h
  ·exact h.elim
 case makeSlice t x y =>
  have h : mmakeSlice P t (mval f x) (mval f y) σ k := h
  simp only [gop]
  unfold mmakeSlice at h
  unfold gmakeSlice
  split at h
  ·rename_i el n c hk hx hy; simp only [hk, hx, hy]; exact gs_alloc hd h
  ·exact h.elim
 case defer c => exact h.elim
 case call c =>
  obtain ⟨callee, args, ts⟩ := c
  cases callee with
  | value x =>
   simp only [mopX] at h
   simp only [gop]
   split at h
   ·rename_i g ms ns hx; first | (simp only [hx]; exact hMC _ _ _ h) | exact hMC _ _ _ h
   ·exact h.elim
  | invoke r m => exact h.elim
  | builtin b =>
   by_cases hb : b = .append
   ·subst hb
    have h : mbcall P f .append args.toList ts.toList σ k := h
    simp only [gop]
    simp only [mbcall] at h
    split at h
    ·rename_i s x t xt ha ht; simp only [ha, ht]; exact gs_append hd h
    ·exact h.elim
   ·have h : mbcall P f b args.toList ts.toList σ k := h
    have e1 : gop P C f (.call ⟨.builtin b, args, ts⟩) = if ts.toList.length = args.toList.length then gpure (mbuiltin P b ts.toList.toArray (args.toList.map (mval f))) else gfail := by
     cases b <;> first | rfl | exact absurd rfl hb
    have e2 : mbcall P f b args.toList ts.toList σ k = (ts.toList.length = args.toList.length ∧ mpure σ k (mbuiltin P b ts.toList.toArray (args.toList.map (mval f)))) := by
     cases b <;> first | rfl | exact absurd rfl hb
    rw [e2] at h
    rw [e1, if_pos h.1]
    exact gs_pure h.2
 all_goals exact gs_pure h
theorem op_gs {op : Op} {k : MV → (Nat → Prop) → St → Prop} (h : gs U σ (gop P C f op) k) : mop P f σ (Newly U σ k) op := by
 have hp : ∀ {pv : PV}, gs U σ (gpure pv) k → mpure σ (Newly U σ k) pv := fun h => mpure_mono (pure_gs h) fun v σ' hh _ => hh
 cases op
 case alloc t => exact alloc_gs h
 case box t x => exact alloc_gs h
 case load t x => exact load_gs h
 case store t x y => exact store_gs h
 case convert s d x => exact convert_gs h
 case buildSlice t n p =>
  simp only [gop] at h
  show mbuildSlice P f t n p σ _
  unfold mbuildSlice
  unfold gbuildSlice at h
  split at h
  ·rename_i el hk; simp only [hk]; exact alloc_gs h
  ·exact (no_fail h).elim
 case makeSlice t x y =>
  simp only [gop] at h
  show mmakeSlice P t (mval f x) (mval f y) σ _
  unfold mmakeSlice
  unfold gmakeSlice at h
  split at h
  ·rename_i el n c hk hx hy; simp only [hk, hx, hy]; exact alloc_gs h
  ·exact (no_fail h).elim
 case defer c => exact (no_fail h).elim
 case call c =>
  obtain ⟨callee, args, ts⟩ := c
  cases callee with
  | value x =>
   simp only [gop] at h
   show mcall P f ⟨.value x, args, ts⟩ σ _
   simp only [mcall]
   split at h
   ·rename_i g ms ns hx; simp only [hx]; exact call_gs h
   ·exact (no_fail h).elim
  | invoke r m => exact (no_fail h).elim
  | builtin b =>
   show mbcall P f b args.toList ts.toList σ _
   by_cases hb : b = .append
   ·subst hb
    simp only [gop] at h
    simp only [mbcall]
    split at h
    ·rename_i s x t xt ha ht; simp only [ha, ht]; exact append_gs h
    ·exact (no_fail h).elim
   ·have e1 : gop P C f (.call ⟨.builtin b, args, ts⟩) = if ts.toList.length = args.toList.length then gpure (mbuiltin P b ts.toList.toArray (args.toList.map (mval f))) else gfail := by
     cases b <;> first | rfl | exact absurd rfl hb
    have e2 : mbcall P f b args.toList ts.toList σ (Newly U σ k) = (ts.toList.length = args.toList.length ∧ mpure σ (Newly U σ k) (mbuiltin P b ts.toList.toArray (args.toList.map (mval f)))) := by
     cases b <;> first | rfl | exact absurd rfl hb
    rw [e1] at h
    rw [e2]
    split at h
    ·rename_i hl; exact ⟨hl, hp h⟩
    ·exact (no_fail h).elim
 all_goals exact hp h
end
end Go.Proofs.YtjljgahfkcdhfaaGreatDoor
end

section
namespace Go.Proofs.YtjljgahfkcdhfaaGreatDoor
section
variable {P : Program} {C : Know} {ops : Array Oper}
def FEq (f f' : FR) : Prop := f.n = f'.n ∧ f.d = f'.d ∧ ∀ t, f.get t = f'.get t
theorem FEq.refl (f : FR) : FEq f f := ⟨rfl, rfl, fun _ => rfl⟩
theorem FEq.symm {f f' : FR} (h : FEq f f') : FEq f' f := ⟨h.1.symm, h.2.1.symm, fun t => (h.2.2 t).symm⟩
theorem FEq.trans {f f' f'' : FR} (h : FEq f f') (k : FEq f' f'') : FEq f f'' := ⟨h.1.trans k.1, h.2.1.trans k.2.1, fun t => (h.2.2 t).trans (k.2.2 t)⟩
theorem get_put (f : FR) (dst : Option Tmp) (v : MV) (t : Nat) : (mput f dst v).get t = if dst = some t ∧ t < f.n then v else f.get t := by
 cases dst with
 | none => simp [mput]
 | some d =>
  simp only [mput]
  split
  ·rename_i hd
   simp only [FR.get, lget]
   by_cases ht : t = d
   ·subst ht; simp [hd]
   ·rw [if_neg ht, if_neg (by simp; intro e; exact absurd e.symm ht)]
  ·rename_i hd
   rw [if_neg]
   rintro ⟨e, h⟩
   cases e
   exact hd h
theorem put_n (f : FR) (dst : Option Tmp) (v : MV) : (mput f dst v).n = f.n := by
 unfold mput
 split <;> (try split) <;> rfl
theorem FEq.put {f f' : FR} (h : FEq f f') (dst : Option Tmp) (v : MV) : FEq (mput f dst v) (mput f' dst v) :=
 ⟨by rw [put_n, put_n]; exact h.1, by rw [mput_d, mput_d]; exact h.2.1, fun t => by rw [get_put, get_put, h.1, h.2.2 t]⟩
theorem FEq.comm (f : FR) {x y : Option Tmp} (v u : MV) (h : ∀ d, x = some d → y ≠ some d) : FEq (mput (mput f x v) y u) (mput (mput f y u) x v) :=
 ⟨by simp only [put_n], by simp only [mput_d], fun t => by
  simp only [get_put, put_n]
  by_cases hx : x = some t
  ·have := h t hx
   simp [hx, this]
  ·simp [hx]⟩
theorem FEq.mval {f f' : FR} (h : FEq f f') : mval f = mval f' := by
 funext x
 cases x with
 | tmp t => exact h.2.2 t
 | _ => rfl
theorem mval_put {f : FR} {dst : Option Tmp} {v : MV} {x : Operand} (h : ∀ d, dst = some d → x ≠ .tmp d) : mval (mput f dst v) x = mval f x := by
 cases x with
 | tmp t =>
  show (mput f dst v).get t = f.get t
  rw [get_put, if_neg]
  rintro ⟨e, _⟩
  exact h t e rfl
 | _ => rfl
theorem buildFrom_congr {f f' : FR} {place : Nat → Option (Nat × TypeId)} : ∀ (parts : List (Nat × Operand)) (cs : List MV), (∀ p, p ∈ parts → mval f p.2 = mval f' p.2) → buildFrom P f place parts cs = buildFrom P f' place parts cs := by
 intro parts
 induction parts with
 | nil => intro cs _; rfl
 | cons p r ih =>
  intro cs h
  obtain ⟨i, x⟩ := p
  simp only [buildFrom]
  have hx : mval f x = mval f' x := h (i, x) (by simp)
  rw [hx]
  cases place i with
  | none => rfl
  | some q => simp only []; rw [ih _ (fun p hp => h p (by simp [hp]))]
theorem mbuild_congr {f f' : FR} {t : TypeId} {parts : Array (Nat × Operand)} (h : ∀ p, p ∈ parts.toList → mval f p.2 = mval f' p.2) : mbuild P f t parts = mbuild P f' t parts := by
 unfold mbuild
 cases (td P t).k <;> simp only [] <;> rw [buildFrom_congr _ _ h]
theorem map_congr' {f f' : FR} {xs : List Operand} (h : ∀ x, x ∈ xs → mval f x = mval f' x) : xs.map (mval f) = xs.map (mval f') := List.map_congr_left h
theorem gop_congr {f f' : FR} {op : Op} (h : ∀ x, x ∈ op.operands → mval f x = mval f' x) : gop P C f op = gop P C f' op := by
 cases op <;> simp only [Op.operands] at h
 case buildSlice t n ps =>
  simp only [gop, gbuildSlice]
  have hp : ∀ p, p ∈ ps.toList → mval f p.2 = mval f' p.2 := fun p hp => h p.2 (by simpa using ⟨p.1, by simpa using hp⟩)
  have e1 : (ps.toList.all fun p => (mval f p.2).cells.all MV.isCell && (mval f p.2).cells.length == 0) = (ps.toList.all fun p => (mval f' p.2).cells.all MV.isCell && (mval f' p.2).cells.length == 0) := by
   rw [Bool.eq_iff_iff]; simp only [List.all_eq_true]
   exact ⟨fun q x hx => by rw [← hp x hx]; exact q x hx, fun q x hx => by rw [hp x hx]; exact q x hx⟩
  have e2 : ∀ z, (ps.toList.all fun p => (mval f p.2).cells.all MV.isCell && (mval f p.2).cells.length == z) = (ps.toList.all fun p => (mval f' p.2).cells.all MV.isCell && (mval f' p.2).cells.length == z) := fun z => by
   rw [Bool.eq_iff_iff]; simp only [List.all_eq_true]
   exact ⟨fun q x hx => by rw [← hp x hx]; exact q x hx, fun q x hx => by rw [hp x hx]; exact q x hx⟩
  have e3 : (ps.toList.map fun p => (mval f p.2).cells) = (ps.toList.map fun p => (mval f' p.2).cells) := List.map_congr_left fun p hq => by rw [hp p hq]
  simp only [e2, e3]
 case build t ps =>
  simp only [gop, qop]
  rw [mbuild_congr fun p hp => h p.2 (by simpa using ⟨p.1, by simpa using hp⟩)]
 case makeFunc fn first captured =>
  simp only [gop, qop]
  rw [map_congr' (xs := first.toList) fun x hx => h x (by simp at hx ⊢; exact .inl hx), map_congr' (xs := captured.toList) fun x hx => h x (by simp at hx ⊢; exact .inr hx)]
 case indexAddr t x i =>
  have h1 := h x (by simp)
  have h2 := h i (by simp)
  simp only [gop]
  cases x <;> simp only [qop] <;> simp [h1, h2]
 case slice t x lo hi mx =>
  simp only [gop, qop]
  rw [h x (by simp)]
  cases lo <;> cases hi <;> cases mx <;> simp_all
 case call c =>
  obtain ⟨callee, args, ts⟩ := c
  have ha : args.toList.map (mval f) = args.toList.map (mval f') := map_congr' fun x hx => h x (by simp [Call.operands]; exact .inr (by simpa using hx))
  cases callee with
  | value x => simp only [gop]; rw [h x (by simp [Call.operands]), ha]
  | invoke r m => rfl
  | builtin b =>
   by_cases hb : b = .append
   ·subst hb
    simp only [gop]
    have hm : ∀ y, y ∈ args.toList → mval f y = mval f' y := fun y hy => h y (by simp [Call.operands]; simpa using hy)
    split
    ·rename_i s x t xt hl _
     rw [hm s (by simp [hl]), hm x (by simp [hl])]
    ·rfl
   ·have e1 : ∀ f, gop P C f (.call ⟨.builtin b, args, ts⟩) = if ts.toList.length = args.toList.length then gpure (mbuiltin P b ts.toList.toArray (args.toList.map (mval f))) else gfail := fun f => by
     cases b <;> first | rfl | exact absurd rfl hb
    rw [e1, e1, ha]
 all_goals first
  | rfl
  | (simp_all [gop, qop]; done)
def gfo (P : Program) (C : Know) (ops : Array Oper) (f : FR) (o : Oper) : GF :=
 match o.guard with
 | none => gop P C f o.op
 | some (j, want) => match (ops[j]?).bind (·.dst) with
  | some t => match f.get t with
   | .bool b => if b = want then gop P C f o.op else gpure (some (True, .tup []))
   | .tup [] => gpure (some (True, .tup []))
   | _ => gfail
  | none => gfail
theorem wf_gfo {u : Bool} (hu : u = true ∨ Pl C) (f : FR) (o : Oper) : Wf (gfo P C ops f o) ∧ (noUpd u o.op = true → NoUpd (gfo P C ops f o)) ∧ (noW u o.op = true → NoW (gfo P C ops f o)) ∧ (rd0 o.op = true → (gfo P C ops f o).1 = []) := by
 have hf : Wf gfail ∧ (noUpd u o.op = true → NoUpd gfail) ∧ (noW u o.op = true → NoW gfail) ∧ (rd0 o.op = true → gfail.1 = []) := ⟨wf_fail.1, fun _ => wf_fail.2.2.1, fun _ => wf_fail.2.1, fun _ => rfl⟩
 unfold gfo
 split
 ·exact wf_gop P C hu f o.op
 ·split
  ·split
   ·split
    ·exact wf_gop P C hu f o.op
    ·exact ⟨(wf_pure _).1, fun _ => (wf_pure _).2.2.1, fun _ => (wf_pure _).2.1, fun _ => rfl⟩
   ·exact ⟨(wf_pure _).1, fun _ => (wf_pure _).2.2.1, fun _ => (wf_pure _).2.1, fun _ => rfl⟩
   ·exact hf
  ·exact hf
theorem gfo_congr {f f' : FR} (h : FEq f f') (o : Oper) : gfo P C ops f o = gfo P C ops f' o := by
 unfold gfo
 rw [gop_congr (f := f) (f' := f') fun x _ => by rw [h.mval]]
 simp only [h.2.2]
theorem gfo_put {f : FR} {dst : Option Tmp} {v : MV} {o : Oper} (h : ∀ d, dst = some d → d ∉ o.looksAt ops) : gfo P C ops (mput f dst v) o = gfo P C ops f o := by
 have h1 : gop P C (mput f dst v) o.op = gop P C f o.op := gop_congr fun x hx => mval_put fun d hd e => h d hd (by
  subst e
  exact List.mem_append_left _ (List.mem_filterMap.2 ⟨.tmp d, by simpa using hx, rfl⟩))
 unfold gfo
 rw [h1]
 split
 ·rfl
 ·rename_i j want hg
  split
  ·rename_i t ht
   have : (mput f dst v).get t = f.get t := by
    rw [get_put, if_neg]
    rintro ⟨e, -⟩
    exact h t e (by simp [Oper.looksAt, hg, ht])
   rw [this]
  ·rfl
def gl (P : Program) (C : Know) (ops : Array Oper) (K : FR → (Nat → Prop) → St → Prop) : List Oper → FR → (Nat → Prop) → St → Prop
 | [], f, U, σ => K f U σ
 | o :: r, f, U, σ => gs U σ (gfo P C ops f o) fun v U' σ' => gl P C ops K r (mput f o.dst v) U' σ'
def KOk (K : FR → (Nat → Prop) → St → Prop) : Prop := ∀ f f' U U' σ, FEq f f' → (∀ l, U l → U' l) → K f U σ → K f' U' σ
theorem gs_imp {U : Nat → Prop} {σ : St} {g : GF} {k k' : MV → (Nat → Prop) → St → Prop} (h : gs U σ g k) (hk : ∀ v U' σ', k v U' σ' → k' v U' σ') : gs U σ g k' := by
 obtain ⟨os, e, h1, h2, h3, h4, h5⟩ := h
 exact ⟨os, e, h1, h2, h3, h4, fun v U' σ' ho => hk v U' σ' (h5 v U' σ' ho)⟩
theorem gl_ok {K : FR → (Nat → Prop) → St → Prop} (hK : KOk K) : ∀ l, KOk (gl P C ops K l)
 | [] => hK
 | o :: r => fun f f' U U' σ hf hu h => by
  simp only [gl] at h ⊢
  rw [← gfo_congr hf]
  refine gs_anti (gs_imp h fun v U' σ' hh => gl_ok hK r _ (mput f' o.dst v) U' U' σ' (hf.put o.dst v) (fun _ h => h) hh) hu fun v V V' σ hv hh => gl_ok hK r _ _ V V' σ (.refl _) hv hh
def swapB (u : Bool) (ops : Array Oper) (x y : Oper) : Bool := x.apart ops y && ((rd0 y.op || noUpd u x.op) && (rd0 x.op || noW u y.op) && (noW u x.op || noW u y.op))
structure RX where
 Ds : List Nat
 Rs : List (Nat × Nat)
 dr : Option Nat
def DOk (X : RX) (loc : Nat → Nat) (f : FR) : Prop := (∀ t, t ∈ X.Ds → ∃ i o, f.get t = .ptr (loc t) i o) ∧ (∀ t t', t ∈ X.Ds → t' ∈ X.Ds → t ≠ t' → loc t ≠ loc t') ∧ ∀ p, p ∈ X.Rs → p.2 ∈ X.Ds ∧ ∀ l i o, f.get p.1 = .ptr l i o → l = loc p.2
def CalOk (X : RX) (loc : Nat → Nat) (C : Know) : Prop := match X.dr with
 | none => Pl C
 | some d => d ∈ X.Ds ∧ ∀ g ms F, C g ms = some F → ∀ l, l ∈ F.rd → l = loc d
def rootD (X : RX) (t : Nat) : Option Nat := if X.Ds.contains t then some t else (X.Rs.find? fun p => p.1 == t).map (·.2)
def dsr (X : RX) : Op → Option Nat
 | .load _ (.tmp t) => rootD X t
 | .store _ (.tmp t) _ => rootD X t
 | .call ⟨.value _, _, _⟩ => X.dr
 | _ => none
def disjD (X : RX) (x y : Op) : Bool := match dsr X x, dsr X y with
 | some a, some b => a != b
 | _, _ => false
def swapD (X : RX) (ops : Array Oper) (x y : Oper) : Bool := swapB X.dr.isSome ops x y || (x.apart ops y && disjD X x.op y.op)
def derives (X : RX) (r : Nat) : Op → Bool
 | .fieldAddr _ (.tmp s) _ | .move (.tmp s) => rootD X s == some r
 | _ => false
def keepsD (X : RX) (o : Oper) : Bool := match o.dst with
 | some d => !X.Ds.contains d && X.Rs.all fun p => p.1 != d || derives X p.2 o.op
 | none => true
def GV (g : GF) (v : MV) : Prop := ∃ os e l, g.2 os = some e ∧ e.v l v
theorem gs_val {U : Nat → Prop} {σ : St} {g : GF} {k : MV → (Nat → Prop) → St → Prop} (h : gs U σ g k) : gs U σ g fun v U' σ' => GV g v ∧ k v U' σ' := by
 obtain ⟨os, e, h1, h2, h3, h4, h5⟩ := h
 refine ⟨os, e, h1, h2, h3, h4, fun v U' σ' ho => ⟨?_, h5 v U' σ' ho⟩⟩
 unfold Eff.out at ho
 split at ho
 ·exact ⟨os, e, 0, h2, ho.1⟩
 ·obtain ⟨l, -, hv, -⟩ := ho
  exact ⟨os, e, l, h2, hv⟩
theorem rootD_at {X : RX} {loc : Nat → Nat} {f : FR} (h : DOk X loc f) {t r : Nat} (hr : rootD X t = some r) : r ∈ X.Ds ∧ ∀ l i o, f.get t = .ptr l i o → l = loc r := by
 unfold rootD at hr
 split at hr
 ·rename_i hm
  cases hr
  have hm : t ∈ X.Ds := by simpa using hm
  refine ⟨hm, fun l i o e => ?_⟩
  obtain ⟨i', o', e'⟩ := h.1 t hm
  rw [e] at e'
  cases e'
  rfl
 ·obtain ⟨p, hp, rfl⟩ := Option.map_eq_some_iff.1 hr
  have h1 := List.find?_some hp
  have h2 := List.mem_of_find?_eq_some hp
  obtain ⟨h3, h4⟩ := h.2.2 p h2
  refine ⟨h3, fun l i o e => h4 l i o ?_⟩
  have : p.1 = t := by simpa using h1
  rw [this]; exact e
theorem gv_pure {pv : PV} {v : MV} (h : GV (gpure pv) v) : ∃ c, pv = some (c, v) := by
 obtain ⟨os, e, l, h1, h2⟩ := h
 simp only [gpure, Option.map_eq_some_iff] at h1
 obtain ⟨x, hx, rfl⟩ := h1
 exact ⟨x.1, by rw [hx]; congr 1; exact Prod.ext rfl h2.symm⟩
theorem derives_at {X : RX} {loc : Nat → Nat} {f : FR} (h : DOk X loc f) {r : Nat} {o : Oper} (hd : derives X r o.op = true) {v : MV} (hv : GV (gfo P C ops f o) v) {l i j : Nat} (e : v = .ptr l i j) : l = loc r := by
 subst e
 have key : GV (gop P C f o.op) (.ptr l i j) → l = loc r := by
  intro hv
  unfold derives at hd
  split at hd
  ·rename_i ty s k hop
   rw [hop] at hv
   obtain ⟨c, hc⟩ := gv_pure hv
   have hr : rootD X s = some r := by simpa using hd
   simp only [qop, mfieldAddr, mval] at hc
   split at hc
   ·split at hc
    ·rename_i l' i' o' hs
     simp only [Option.some.injEq, Prod.mk.injEq, MV.ptr.injEq] at hc
     rw [← hc.2.1]
     exact (rootD_at h hr).2 _ _ _ (by assumption)
    ·simp at hc
    ·cases hc
   ·cases hc
  ·rename_i s hop
   rw [hop] at hv
   obtain ⟨c, hc⟩ := gv_pure hv
   have hr : rootD X s = some r := by simpa using hd
   simp only [qop, mval, Option.some.injEq, Prod.mk.injEq] at hc
   exact (rootD_at h hr).2 _ _ _ hc.2
  ·cases hd
 unfold gfo at hv
 split at hv
 ·exact key hv
 ·split at hv
  ·split at hv
   ·split at hv
    ·exact key hv
    ·obtain ⟨c, hc⟩ := gv_pure hv; simp at hc
   ·obtain ⟨c, hc⟩ := gv_pure hv; simp at hc
   ·obtain ⟨os, e, l, h1, h2⟩ := hv; simp [gfail] at h1
  ·obtain ⟨os, e, l, h1, h2⟩ := hv; simp [gfail] at h1
theorem DOk.put {X : RX} {loc : Nat → Nat} {f : FR} (h : DOk X loc f) {o : Oper} (hk : keepsD X o = true) {v : MV} (hv : GV (gfo P C ops f o) v) : DOk X loc (mput f o.dst v) := by
 refine ⟨fun t ht => ?_, h.2.1, fun p hp => ⟨(h.2.2 p hp).1, fun l i j e => ?_⟩⟩
 ·rw [get_put, if_neg]
  ·exact h.1 t ht
  ·rintro ⟨e, -⟩
   simp only [keepsD, e, Bool.and_eq_true, Bool.not_eq_true', List.contains_iff_mem] at hk
   simp [ht] at hk
 ·rw [get_put] at e
  split at e
  ·rename_i hd
   simp only [keepsD, hd.1, Bool.and_eq_true, List.all_eq_true, Bool.or_eq_true, bne_iff_ne, ne_eq] at hk
   rcases hk.2 p hp with hn | hn
   ·exact absurd rfl hn
   ·exact derives_at h hn hv e
  ·exact (h.2.2 p hp).2 l i j e
theorem dsr_reads {X : RX} {loc : Nat → Nat} {f : FR} (h : DOk X loc f) (hC : CalOk X loc C) {o : Oper} {r : Nat} (ho : dsr X o.op = some r) : r ∈ X.Ds ∧ ∀ l, l ∈ (gfo P C ops f o).1 → l = loc r := by
 have ld : ∀ {t : Nat}, rootD X t = some r → r ∈ X.Ds ∧ ∀ g : MV → GF, (∀ v, (∀ l i j, v ≠ .ptr l i j) → (g v).1 = []) → (∀ l i j, (g (.ptr l i j)).1 = [l]) → ∀ l, l ∈ (g (f.get t)).1 → l = loc r := by
  intro t ht
  obtain ⟨h1, h2⟩ := rootD_at h ht
  refine ⟨h1, fun g hg1 hg2 l hl => ?_⟩
  by_cases hp : ∃ l' i j, f.get t = .ptr l' i j
  ·obtain ⟨l', i, j, e⟩ := hp
   rw [e, hg2] at hl
   rw [List.mem_singleton.1 hl]
   exact h2 _ _ _ e
  ·rw [hg1 _ (fun l i j e => hp ⟨l, i, j, e⟩)] at hl
   cases hl
 have key : r ∈ X.Ds ∧ ∀ l, l ∈ (gop P C f o.op).1 → l = loc r := by
  unfold dsr at ho
  split at ho
  ·rename_i ty u hop
   obtain ⟨h1, h2⟩ := ld ho
   refine ⟨h1, fun l hl => ?_⟩
   rw [hop] at hl
   exact h2 (gload P ty) (fun v hv => by unfold gload; split <;> first | rfl | exact absurd rfl (hv _ _ _)) (fun l i j => rfl) l hl
  ·rename_i ty u y hop
   obtain ⟨h1, h2⟩ := ld ho
   refine ⟨h1, fun l hl => ?_⟩
   rw [hop] at hl
   exact h2 (fun v => gstore P ty v (mval f y)) (fun v hv => by unfold gstore; split <;> first | rfl | exact absurd rfl (hv _ _ _)) (fun l i j => rfl) l hl
  ·rename_i x args ts hop
   unfold CalOk at hC
   rw [ho] at hC
   simp only at hC
   refine ⟨hC.1, fun l hl => ?_⟩
   rw [hop] at hl
   simp only [gop] at hl
   split at hl
   ·unfold gcall at hl
    split at hl
    ·rename_i hc; exact hC.2 _ _ _ hc l hl
    ·cases hl
    ·rename_i hc; exact hC.2 _ _ _ hc l hl
    ·cases hl
   ·cases hl
  ·cases ho
 refine ⟨key.1, fun l hl => ?_⟩
 unfold gfo at hl
 split at hl
 ·exact key.2 l hl
 ·split at hl
  ·split at hl
   ·split at hl
    ·exact key.2 l hl
    ·simp [gpure] at hl
   ·simp [gpure] at hl
   ·simp [gfail] at hl
  ·simp [gfail] at hl
theorem CalOk.u {X : RX} {loc : Nat → Nat} (h : CalOk X loc C) : X.dr.isSome = true ∨ Pl C := by
 unfold CalOk at h
 cases hd : X.dr with
 | none => rw [hd] at h; exact .inr h
 | some d => exact .inl rfl
theorem pull {K : FR → (Nat → Prop) → St → Prop} (hK : KOk K) {X : RX} {loc : Nat → Nat} (hC : CalOk X loc C) (l2 : List Oper) (o : Oper) : ∀ (l1 : List Oper) (f : FR) (U : Nat → Prop) (σ : St), Dom U σ → Fin U → DOk X loc f → (∀ x, x ∈ l1 → swapD X ops x o = true) → (∀ x, x ∈ l1 → keepsD X x = true) →
  gl P C ops K (l1 ++ o :: l2) f U σ → gs U σ (gfo P C ops f o) fun v U1 σ1 => ∀ U1', (∀ l, U1 l → U1' l) → gl P C ops K (l1 ++ l2) (mput f o.dst v) U1' σ1 := by
 intro l1
 induction l1 with
 | nil =>
  intro f U σ hd hf _ _ _ h
  exact gs_imp h fun v U' σ' hh U1' hu => gl_ok hK _ _ _ U' U1' σ' (.refl _) hu hh
 | cons x l1 ih =>
  intro f U σ hd hf hD hsw hkp h
  have hx := hsw x (by simp)
  have wx := wf_gfo (P := P) (C := C) (ops := ops) hC.u f x
  have wo := wf_gfo (P := P) (C := C) (ops := ops) hC.u f o
  have hx2 : x.apart ops o = true ∧ ((((gfo P C ops f o).1 = [] ∨ NoUpd (gfo P C ops f x)) ∧ ((gfo P C ops f x).1 = [] ∨ NoW (gfo P C ops f o)) ∧ (NoW (gfo P C ops f x) ∨ NoW (gfo P C ops f o))) ∨ ∀ l, l ∈ (gfo P C ops f x).1 → l ∉ (gfo P C ops f o).1) := by
   simp only [swapD, swapB, Bool.or_eq_true, Bool.and_eq_true] at hx
   rcases hx with ⟨hap, ⟨c1, c2⟩, c3⟩ | ⟨hap, hdj⟩
   ·exact ⟨hap, .inl ⟨c1.imp wo.2.2.2 wx.2.1, c2.imp wx.2.2.2 wo.2.2.1, c3.imp wx.2.2.1 wo.2.2.1⟩⟩
   ·refine ⟨hap, .inr ?_⟩
    unfold disjD at hdj
    split at hdj
    ·rename_i a b ha hb
     obtain ⟨m1, r1⟩ := dsr_reads (P := P) (C := C) (ops := ops) hD hC ha
     obtain ⟨m2, r2⟩ := dsr_reads (P := P) (C := C) (ops := ops) hD hC hb
     intro l h1 h2
     have e1 := r1 l h1
     have e2 := r2 l h2
     exact hD.2.1 a b m1 m2 (by simpa using hdj) (e1.symm.trans e2)
    ·cases hdj
  obtain ⟨hap, hc⟩ := hx2
  obtain ⟨a1, a2, a3⟩ := Oper.apart_spec hap
  simp only [List.cons_append, gl] at h
  have h' := gs_mono (gs_val h) hd hf (k' := fun v U1 σ1 => gs U1 σ1 (gfo P C ops f o) fun u U2 σ2 => ∀ U2', (∀ l, U2 l → U2' l) → gl P C ops K (l1 ++ l2) (mput (mput f x.dst v) o.dst u) U2' σ2) (fun v U1 σ1 hd1 hf1 _ ⟨hgv, hh⟩ => by
   have := ih (mput f x.dst v) U1 σ1 hd1 hf1 (hD.put (hkp x (by simp)) hgv) (fun y hy => hsw y (by simp [hy])) (fun y hy => hkp y (by simp [hy])) hh
   rwa [gfo_put a1] at this) wx.1
  have h2 := gs_swap (K := fun v u U2 σ2 => ∀ U2', (∀ l, U2 l → U2' l) → gl P C ops K (l1 ++ l2) (mput (mput f x.dst v) o.dst u) U2' σ2) hd hf wx.1 wo.1 hc
   (fun v u V V' σ hv hh U2' hu => hh U2' fun l hl => hu l (hv l hl)) h'
  refine gs_imp h2 fun u U1 σ1 hh U1' hu => ?_
  simp only [List.cons_append, gl]
  rw [gfo_put a3]
  refine gs_imp (hh U1' hu) fun v U2 σ2 hk => ?_
  exact gl_ok hK _ _ _ U2 U2 σ2 (FEq.comm f v u a2) (fun _ h => h) (hk U2 fun _ h => h)
end
end Go.Proofs.YtjljgahfkcdhfaaGreatDoor
end

section
namespace Go.Proofs.YtjljgahfkcdhfaaGreatDoor
def masks : List Oper → List Nat → List Nat
 | [], acc => acc
 | o :: r, acc => masks r (acc ++ [o.after.toList.foldl (fun m e => if Region.binds .any e then (m ||| 2 ^ e.on) ||| acc.getD e.on 0 else m) 0])
def chkD (X : RX) (ops : Array Oper) : Bool :=
 let ms := masks ops.toList []
 (ops.toList.all (keepsD X)) && (List.range ops.size).all fun i => match ops[i]? with
  | none => true
  | some oi => (oi.after.toList.all fun e => !Region.binds .any e || decide (e.on < i)) &&
   ((List.range i).all fun j => match ops[j]? with
    | none => true
    | some oj => (ms.getD i 0).testBit j || swapD X ops oj oi)
def chk (ops : Array Oper) : Bool := chkD ⟨[], [], none⟩ ops
section
variable {P : Program} {C : Know} {ops : Array Oper}
def Closed (ops : Array Oper) (L : Nat → Prop) : Prop := ∀ i o, ops[i]? = some o → L i → ∀ e, e ∈ o.after.toList → Region.binds .any e = true → L e.on
theorem fold_bit {L : Nat → Prop} {acc : List Nat} {B : Edge → Bool} (hacc : ∀ i, L i → ∀ j, (acc.getD i 0).testBit j = true → L j) : ∀ (es : List Edge) (m : Nat), (∀ e, e ∈ es → B e = true → L e.on) → (∀ j, m.testBit j = true → L j) →
  ∀ j, (es.foldl (fun m e => if B e then (m ||| 2 ^ e.on) ||| acc.getD e.on 0 else m) m).testBit j = true → L j := by
 intro es
 induction es with
 | nil => intro m _ hm j h; exact hm j h
 | cons e r ih =>
  intro m he hm j h
  simp only [List.foldl_cons] at h
  refine ih _ (fun e' h' => he e' (by simp [h'])) (fun k hk => ?_) j h
  split at hk
  ·rename_i hb
   simp only [Nat.testBit_or, Bool.or_eq_true] at hk
   rcases hk with (hk | hk) | hk
   ·exact hm k hk
   ·rw [Nat.testBit_two_pow] at hk
    have : e.on = k := by simpa using hk
    exact this ▸ he e (by simp) hb
   ·exact hacc e.on (he e (by simp) hb) k hk
  ·exact hm k hk
theorem masks_good {L : Nat → Prop} : ∀ (l pre : List Oper) (acc : List Nat), acc.length = pre.length → Closed (pre ++ l).toArray L →
  (∀ i, (L i ∨ ∃ o, (pre ++ l)[i]? = some o ∧ ∀ e, e ∈ o.after.toList → Region.binds .any e = true → L e.on) → ∀ j, (acc.getD i 0).testBit j = true → L j) →
  ∀ i, (L i ∨ ∃ o, (pre ++ l)[i]? = some o ∧ ∀ e, e ∈ o.after.toList → Region.binds .any e = true → L e.on) → ∀ j, ((masks l acc).getD i 0).testBit j = true → L j := by
 intro l
 induction l with
 | nil => intro pre acc _ _ h; exact h
 | cons o r ih =>
  intro pre acc hl hc h
  have e1 : pre ++ o :: r = (pre ++ [o]) ++ r := by simp
  simp only [masks]
  rw [e1] at hc h ⊢
  refine ih (pre ++ [o]) _ (by simp [hl]) hc (fun i hi j hj => ?_)
  rcases Nat.lt_trichotomy i acc.length with q | q | q
  ·refine h i hi j ?_
   simpa [List.getD, List.getElem?_append_left q] using hj
  ·have ho : ((pre ++ [o]) ++ r)[i]? = some o := by
    rw [q, hl]; simp
   have hpre : ∀ e, e ∈ o.after.toList → Region.binds .any e = true → L e.on := by
    rcases hi with hi | ⟨o', h1, h2⟩
    ·exact hc i o (by simpa using ho) hi
    ·rw [ho] at h1; cases h1; exact h2
   rw [q] at hj
   simp only [List.getD, List.getElem?_append_right (Nat.le_refl _), Nat.sub_self, List.getElem?_cons_zero, Option.getD_some] at hj
   exact fold_bit (B := Region.binds .any) (fun k hk => h k (.inl hk)) o.after.toList 0 hpre (fun j hj => by simp at hj) j hj
  ·have : (acc ++ [o.after.toList.foldl (fun m e => if Region.binds .any e then (m ||| 2 ^ e.on) ||| acc.getD e.on 0 else m) 0])[i]? = none := by
    rw [List.getElem?_eq_none]; simp; omega
   rw [List.getD, this] at hj
   simp at hj
def left (listed : Array Bool) (n : Nat) : List Nat := (List.range n).filter fun i => !listed.getD i true
theorem left_set {listed : Array Bool} {n i : Nat} (hs : listed.size = n) : left (listed.setIfInBounds i true) n = (left listed n).filter fun j => j != i := by
 unfold left
 rw [List.filter_filter]
 refine List.filter_congr fun j hj => ?_
 have hj : j < n := by simpa using hj
 by_cases h : j = i
 ·subst h; simp [hs, hj]
 ·have : (i : Nat) ≠ j := fun e => h e.symm
  simp [h, Array.getElem?_setIfInBounds_ne this]
theorem left_split {listed : Array Bool} {n i : Nat} (h : i ∈ left listed n) : ∃ l1 l2, left listed n = l1 ++ i :: l2 ∧ (∀ j, j ∈ l1 → j < i) ∧ (left listed n).filter (fun j => j != i) = l1 ++ l2 := by
 obtain ⟨l1, l2, he⟩ := List.append_of_mem h
 have hp : (left listed n).Pairwise (· < ·) := List.Pairwise.filter _ List.pairwise_lt_range
 rw [he] at hp
 obtain ⟨h1, h2, h3⟩ := List.pairwise_append.1 hp
 have h4 := (List.pairwise_cons.1 h2).1
 refine ⟨l1, l2, he, fun j hj => h3 j hj i (by simp), ?_⟩
 rw [he]
 simp only [List.filter_append, List.filter_cons, bne_self_eq_false, Bool.false_eq_true, if_false]
 congr 1
 ·exact List.filter_eq_self.2 fun j hj => by have := h3 j hj i (by simp); simp; omega
 ·exact List.filter_eq_self.2 fun j hj => by have := h4 j hj; simp; omega
def opsOf (ops : Array Oper) (is : List Nat) : List Oper := is.filterMap fun i => ops[i]?
theorem mem_left {listed : Array Bool} {n i : Nat} : i ∈ left listed n ↔ i < n ∧ listed.getD i true = false := by simp [left]
theorem any_sound {X : RX} {loc : Nat → Nat} (hC : CalOk X loc C) (hchk : chkD X ops = true) {F : Fence} (hF : F = Fence.wide ∨ ∃ l0, F = Fence.wide.inRound l0 ∧ ∀ o, o ∈ ops.toList → ∀ c, o.op ≠ .defer c) {Q : MQ} {Φ0 : Phi} {σ0 : St} {w0 : World} : ∀ (fuel : Nat) (listed : Array Bool) (f : FR) (σ : St) (Φ : Phi) (w : World) (a : Act), listed.size = ops.size → (left listed ops.size).length = fuel →
  Closed ops (fun i => listed.getD i false = true) → Inv Φ w σ → FRel Φ a.tmps f → DRel Φ w a.defers f.d → DOk X loc f → Step Φ0 σ0 w0 Φ σ w →
  gl P C ops (fun f' _ σ' => ∃ f'', FEq f' f'' ∧ Q .normal f'' σ') (opsOf ops (left listed ops.size)) f (fun l => Φ.obj l ≠ none) σ → wpAnyIn F 0 P .any ops (lift Φ0 σ0 w0 Q) fuel listed a w := by
 have hKok : KOk (fun f' (_ : Nat → Prop) σ' => ∃ f'', FEq f' f'' ∧ Q .normal f'' σ') := fun f f' U U' σ hf _ ⟨f'', h1, h2⟩ => ⟨f'', hf.symm.trans h1, h2⟩
 have fin : ∀ (listed : Array Bool) (f : FR) (σ : St) (Φ : Phi) (w : World) (a : Act), left listed ops.size = [] → Inv Φ w σ → FRel Φ a.tmps f → DRel Φ w a.defers f.d → Step Φ0 σ0 w0 Φ σ w →
   gl P C ops (fun f' _ σ' => ∃ f'', FEq f' f'' ∧ Q .normal f'' σ') (opsOf ops (left listed ops.size)) f (fun l => Φ.obj l ≠ none) σ → lift Φ0 σ0 w0 Q .normal a w := by
  intro listed f σ Φ w a hl hi hr hd hs h
  rw [hl] at h
  obtain ⟨f'', h1, h2⟩ := h
  exact ⟨f'', σ, Φ, h1.2.1 ▸ hd, ⟨hr.1.trans h1.1, fun t => by rw [← h1.2.2 t]; exact hr.2 t⟩, hi, hs, h2⟩
 have ready_left : ∀ (listed : Array Bool) i, i ∈ Region.ready .any ops listed → i ∈ left listed ops.size := fun listed i hi => by
  obtain ⟨h0, o, ho, -⟩ := mem_ready.1 hi
  exact mem_left.2 ⟨(Array.getElem?_eq_some_iff.1 ho).1, h0⟩
 have chk1 : ∀ i oi, ops[i]? = some oi → (∀ e, e ∈ oi.after.toList → Region.binds .any e = true → e.on < i) ∧ ∀ j oj, j < i → ops[j]? = some oj → ((masks ops.toList []).getD i 0).testBit j = true ∨ swapD X ops oj oi = true := by
  intro i oi hoi
  have hlt := (Array.getElem?_eq_some_iff.1 hoi).1
  have h := hchk
  simp only [chkD, Bool.and_eq_true] at h
  replace h := h.2
  simp only [List.all_eq_true, List.mem_range] at h
  have h1 := h i hlt
  rw [hoi] at h1
  simp only [Bool.and_eq_true, List.all_eq_true, Bool.or_eq_true, Bool.not_eq_true', decide_eq_true_eq, List.mem_range] at h1
  refine ⟨fun e he hb => ?_, fun j oj hj hoj => ?_⟩
  ·rcases h1.1 e he with q | q
   ·rw [hb] at q; cases q
   ·exact q
  ·have := h1.2 j hj
   rw [hoj] at this
   simpa using this
 intro fuel
 induction fuel with
 | zero =>
  intro listed f σ Φ w a hsz hl hc hi hr hd hD hs h
  have hnil : left listed ops.size = [] := List.eq_nil_of_length_eq_zero hl
  refine ⟨?_, fin listed f σ Φ w a hnil hi hr hd hs h⟩
  rw [List.eq_nil_iff_forall_not_mem]
  intro i hi
  have := ready_left listed i hi
  rw [hnil] at this; cases this
 | succ fuel ih =>
  intro listed f σ Φ w a hsz hl hc hi hr hd hD hs h
  refine ⟨fun hnone => ?_, fun i hrd => ?_⟩
  ·-- the first that is left is ready
   exfalso
   cases hleft : left listed ops.size with
   | nil => rw [hleft] at hl; cases hl
   | cons i0 r =>
    have h0 : i0 ∈ left listed ops.size := by rw [hleft]; simp
    obtain ⟨hlt, h0'⟩ := mem_left.1 h0
    have hoi : ops[i0]? = some ops[i0] := Array.getElem?_eq_getElem hlt
    have : i0 ∈ Region.ready .any ops listed := mem_ready.2 ⟨h0', _, hoi, fun e he hb => by
     have hlt' := (chk1 i0 _ hoi).1 e (by simpa using he) hb
     cases hq : listed.getD e.on false with
     | true => rfl
     | false =>
      exfalso
      have hm : e.on ∈ left listed ops.size := mem_left.2 ⟨by omega, by
       have hb2 : e.on < listed.size := by omega
       simpa [hb2] using hq⟩
      have hp : (left listed ops.size).Pairwise (· < ·) := List.Pairwise.filter _ List.pairwise_lt_range
      rw [hleft] at hp hm
      have := (List.pairwise_cons.1 hp).1
      rcases List.mem_cons.1 hm with q | q
      ·omega
      ·have := this e.on q; omega⟩
    rw [hnone] at this; cases this
  ·have hmem := ready_left listed i hrd
   obtain ⟨l1, l2, he, hlt, hflt⟩ := left_split hmem
   obtain ⟨h0, o, ho, hpre⟩ := mem_ready.1 hrd
   have hsw : ∀ x, x ∈ opsOf ops l1 → swapD X ops x o = true := by
    intro x hx
    obtain ⟨j, hj, hx⟩ := List.mem_filterMap.1 hx
    rcases (chk1 i o ho).2 j x (hlt j hj) hx with q | q
    ·exfalso
     have := masks_good (L := fun i => listed.getD i false = true) ops.toList [] [] rfl (by simpa using hc) (fun i hi j hj => by simp at hj) i (.inr ⟨o, by simpa using ho, fun e he hb => hpre e (by simpa using he) hb⟩) j q
     have hjl : j ∈ left listed ops.size := by rw [he]; simp [hj]
     have hj2 := (mem_left.1 hjl)
     have hb2 : j < listed.size := by omega
     simp [hb2] at this hj2
     simp [this] at hj2
    ·exact q
   have e2 : opsOf ops (left listed ops.size) = opsOf ops l1 ++ o :: opsOf ops l2 := by rw [he]; simp [opsOf, List.filterMap_append, ho]
   rw [e2] at h
   have hdom : Dom (fun l => Φ.obj l ≠ none) σ := fun l hl q => hl (hi.obj_none q)
   have hfin : Fin (fun l => Φ.obj l ≠ none) := by
    obtain ⟨n, hn⟩ := hi.fresh.1.1
    exact ⟨n, fun l hl q => q (hn l hl)⟩
   have hkall : ∀ (j : Nat) x, ops[j]? = some x → keepsD X x = true := fun j x hx => by
    have h := hchk
    simp only [chkD, Bool.and_eq_true, List.all_eq_true] at h
    exact h.1 x (by rw [← Array.getElem?_toList] at hx; exact List.mem_of_getElem? hx)
   have hp := gs_val (pull hKok hC (opsOf ops l2) o (opsOf ops l1) f _ σ hdom hfin hD hsw (fun x hx => by
    obtain ⟨j, hj, hx⟩ := List.mem_filterMap.1 hx
    exact hkall j x hx) h)
   have e3 : opsOf ops (left (listed.setIfInBounds i true) ops.size) = opsOf ops l1 ++ opsOf ops l2 := by rw [left_set hsz, hflt]; simp [opsOf, List.filterMap_append]
   have hlen : (left (listed.setIfInBounds i true) ops.size).length = fuel := by
    rw [left_set hsz, hflt]
    rw [he] at hl
    simp at hl ⊢; omega
   have hcl : Closed ops (fun k => (listed.setIfInBounds i true).getD k false = true) := by
    intro k ok hk hlk e hek hb
    by_cases hki : k = i
    ·subst hki
     rw [ho] at hk; cases hk
     exact getD_set_true (hpre e (by simpa using hek) hb)
    ·have : listed.getD k false = true := by rw [← hlk, getD_set_ne _ (Ne.symm hki)]
     exact getD_set_true (hc k ok hk this e hek hb)
   -- what comes then
   have next : ∀ v mv σ' Φ' w' , Rel Φ' v mv → Inv Φ' w' σ' → Step Φ σ w Φ' σ' w' →
     (∃ U' : Nat → Prop, (∀ l, U' l → Φ.obj l ≠ none ∨ σ' l ≠ none) ∧ GV (gfo P C ops f o) mv ∧ ∀ U1', (∀ l, U' l → U1' l) → gl P C ops (fun f' _ σ' => ∃ f'', FEq f' f'' ∧ Q .normal f'' σ') (opsOf ops l1 ++ opsOf ops l2) (mput f o.dst mv) U1' σ') →
     wpAnyIn F 0 P .any ops (lift Φ0 σ0 w0 Q) fuel (listed.setIfInBounds i true) (a.put o.dst v) w' := by
    rintro v mv σ' Φ' w' r1 i1 s1 ⟨U', hu, hgv, hk⟩
    refine ih _ (mput f o.dst mv) σ' Φ' w' (a.put o.dst v) (by simpa using hsz) hlen hcl i1 (rels_put (hr.mono s1.le) o.dst r1) (by rw [put_defers', mput_d]; exact hd.step hi s1) (hD.put (hkall i o ho) hgv) (hs.trans s1) ?_
    rw [e3]
    refine hk _ fun l hl => ?_
    rcases hu l hl with q | q
    ·intro hn
     cases hp : Φ.obj l with
     | none => exact q hp
     | some p => rw [s1.le.obj l p hp] at hn; cases hn
    ·intro hn; exact q (i1.obj_none hn)
   unfold wpOpIn
   rw [ho]
   simp only
   have hFo : F = Fence.wide ∨ ∃ l0, F = Fence.wide.inRound l0 ∧ ∀ c, o.op ≠ .defer c := hF.imp id fun ⟨l0, e, q⟩ => ⟨l0, e, q o (by rw [← Array.getElem?_toList] at ho; exact List.mem_of_getElem? ho)⟩
   have hfn : ∀ g, F.fn g := fun g => by rcases hF with rfl | ⟨l, rfl, _⟩ <;> trivial
   have run : gs (fun l => Φ.obj l ≠ none) σ (gop P C f o.op) (fun v U1 σ1 => GV (gfo P C ops f o) v ∧ ∀ U1', (∀ l, U1 l → U1' l) → gl P C ops (fun f' _ σ' => ∃ f'', FEq f' f'' ∧ Q .normal f'' σ') (opsOf ops l1 ++ opsOf ops l2) (mput f o.dst v) U1' σ1) →
     o.wpIn F 0 P a w (wpAnyIn F 0 P .any ops (lift Φ0 σ0 w0 Q) fuel (listed.setIfInBounds i true)) (lift Φ0 σ0 w0 Q) := by
    intro hg
    refine wpIn_of_wp hFo ?_
    refine mop_sound (op_gs hg) Φ w a _ _ hi hr fun v mv σ' Φ' w' r1 i1 s1 hk => next v mv σ' Φ' w' r1 i1 s1 (hk fun l h1 h2 q => ?_)
    rcases s1.locs l _ (Option.ne_none_iff_exists'.1 h1).choose_spec with ⟨o', ho'⟩ | ho'
    ·rw [h2] at ho'; cases ho'
    ·exact q ho'
   obtain ⟨G, hG⟩ : ∃ G, GV (gfo P C ops f o) = G := ⟨_, rfl⟩
   rw [hG] at hp run next
   unfold gfo at hp
   split at hp
   ·rename_i hg
    have hw : Region.wanted o (yielded ops a.tmps) = true := by unfold Region.wanted; rw [hg]
    rw [if_pos hw]
    exact run hp
   ·rename_i j want hg
    split at hp
    ·rename_i t ht
     split at hp
     ·rename_i b hb
      have hmg : ∀ {A B : Prop}, (b = want → A) ∧ (b = (!want) → B) → (Region.wanted o (yielded ops a.tmps) = true ∧ A) ∨ (Region.wanted o (yielded ops a.tmps) = false ∧ B) := fun {A B} h =>
       mguard_sound (ops := ops) (o := o) (f := f) (by unfold mguard; rw [hg]; simp only [ht, hb]; exact h) hr
      split at hp
      ·rename_i hbw
       rcases hmg (A := True) (B := False) ⟨fun _ => trivial, fun e => by rw [hbw] at e; cases want <;> cases e⟩ with ⟨hw, -⟩ | ⟨-, hw⟩
       ·rw [if_pos hw]; exact run hp
       ·exact hw.elim
      ·rename_i hbw
       rcases hmg (A := False) (B := True) ⟨fun e => hbw e, fun _ => trivial⟩ with ⟨-, hw⟩ | ⟨hw, -⟩
       ·exact hw.elim
       ·rw [if_neg (by simp [hw])]
        obtain ⟨-, U', hu, hgv, hk⟩ := pure_gs hp
        exact ⟨fun f _ => hfn f, next undef (.tup []) σ Φ w rel_undef hi (.refl _ _ _) ⟨U', hu, hgv, hk⟩⟩
     ·rename_i hb
      rcases mguard_sound (ops := ops) (o := o) (f := f) (yes := False) (no := True) (by unfold mguard; rw [hg]; simp only [ht, hb]) hr with ⟨-, hw⟩ | ⟨hw, -⟩
      ·exact hw.elim
      ·rw [if_neg (by simp [hw])]
       obtain ⟨-, U', hu, hgv, hk⟩ := pure_gs hp
       exact ⟨fun f _ => hfn f, next undef (.tup []) σ Φ w rel_undef hi (.refl _ _ _) ⟨U', hu, hgv, hk⟩⟩
     ·exact (no_fail hp).elim
    ·exact (no_fail hp).elim
def mopsX (P : Program) (MC : FuncId → List MV → St → (MV → St → Prop) → Prop) (ops : Array Oper) (K : FR → St → Prop) : List Oper → FR → St → Prop
 | [], f, σ => K f σ
 | o :: rest, f, σ => mguard ops f o (mopX P MC f σ (fun v σ' => mopsX P MC ops K rest (mput f o.dst v) σ') o.op) (mopsX P MC ops K rest (mput f o.dst (.tup [])) σ)
abbrev mopsC (P : Program) (C : Know) := mopsX P (mcallC P C)
theorem gl_of {MC : FuncId → List MV → St → (MV → St → Prop) → Prop} (hMC : ∀ U σ, Dom U σ → ∀ g ms k, MC g ms σ k → gs U σ (gcall P C g ms) fun v _ σ' => k v σ') {u : Bool} (hu : u = true ∨ Pl C) {K : FR → St → Prop} : ∀ (l : List Oper) (f : FR) (U : Nat → Prop) (σ : St), Dom U σ → Fin U → mopsX P MC ops K l f σ → gl P C ops (fun f' _ σ' => ∃ f'', FEq f' f'' ∧ K f'' σ') l f U σ := by
 intro l
 induction l with
 | nil => intro f U σ _ _ h; exact ⟨f, .refl f, h⟩
 | cons o r ih =>
  intro f U σ hd hf h
  simp only [mopsX] at h
  simp only [gl]
  have run : mopX P MC f σ (fun v σ' => mopsX P MC ops K r (mput f o.dst v) σ') o.op → gs U σ (gop P C f o.op) fun v U' σ' => gl P C ops (fun f' _ σ' => ∃ f'', FEq f' f'' ∧ K f'' σ') r (mput f o.dst v) U' σ' := fun h =>
   gs_mono (gs_opX (hMC U σ hd) hd h) hd hf (fun v U' σ' hd' hf' _ hh => ih _ U' σ' hd' hf' hh) (wf_gop P C hu f o.op).1
  unfold mguard at h
  unfold gfo
  split at h
  ·rename_i hg; simp only [hg]; exact run h
  ·rename_i j want hg
   simp only [hg]
   split at h
   ·rename_i t ht
    simp only [ht]
    split at h
    ·rename_i b hb
     simp only [hb]
     split
     ·rename_i hbw; exact run (h.1 hbw)
     ·rename_i hbw
      have hb' : b = !want := by cases b <;> cases want <;> simp at hbw ⊢
      refine gs_imp (gs_mono (gs_pure (U := U) (pv := some (True, .tup [])) (k := fun v σ' => v = .tup [] ∧ σ' = σ) ⟨trivial, rfl, rfl⟩) hd hf (k' := fun v U' σ' => v = .tup [] ∧ σ' = σ ∧ Dom U' σ' ∧ Fin U') (fun v U' σ' h1 h2 _ h3 => ⟨h3.1, h3.2, h1, h2⟩) (wf_pure _).1) ?_
      rintro v U' σ' ⟨rfl, rfl, h1, h2⟩
      exact ih _ U' _ h1 h2 (h.2 hb')
    ·rename_i hb
     simp only [hb]
     refine gs_imp (gs_mono (gs_pure (U := U) (pv := some (True, .tup [])) (k := fun v σ' => v = .tup [] ∧ σ' = σ) ⟨trivial, rfl, rfl⟩) hd hf (k' := fun v U' σ' => v = .tup [] ∧ σ' = σ ∧ Dom U' σ' ∧ Fin U') (fun v U' σ' h1 h2 _ h3 => ⟨h3.1, h3.2, h1, h2⟩) (wf_pure _).1) ?_
     rintro v U' σ' ⟨rfl, rfl, h1, h2⟩
     exact ih _ U' _ h1 h2 h
    ·exact h.elim
   ·exact h.elim
theorem mwp_drawX (hm : P.follows .mixedOrders = true) {X : RX} {loc : Nat → Nat} (hC : CalOk X loc C) (hchk : chkD X ops = true) {MC : FuncId → List MV → St → (MV → St → Prop) → Prop} (hMC : ∀ U σ, Dom U σ → ∀ g ms k, MC g ms σ k → gs U σ (gcall P C g ms) fun v _ σ' => k v σ') {id : Nat} {f : FR} {σ : St} {Q : MQ} (hD : DOk X loc f) (h : mopsX P MC ops (Q .normal) ops.toList f σ) : mwp P (.region id ops true) f σ Q := by
 intro F hF Φ w a hi hr hd
 have hi' : Inv Φ { w with drawn := w.drawn + 1 } σ := ⟨fun l o hl => by
  have := hi.own l o hl
  cases o <;> exact this, hi.inj, hi.snap, hi.apart, hi.fresh⟩
 have hst : Step Φ σ w Φ σ { w with drawn := w.drawn + 1 } := ⟨.refl Φ, rfl, rfl, rfl, drw_le (Nat.le_succ _), Nat.le_refl _, fun _ _ _ => rfl, fun _ _ h => .inl h, fun l o h => .inl ⟨o, h⟩, fun _ h => .inl h⟩
 have hall : left (Array.replicate ops.size false) ops.size = List.range ops.size := by
  unfold left
  refine List.filter_eq_self.2 fun j hj => ?_
  have hj : j < ops.size := by simpa using hj
  simp [hj]
 have hops : opsOf ops (List.range ops.size) = ops.toList := by
  unfold opsOf
  apply List.ext_getElem?
  intro i
  have : ∀ (l : List Oper), (List.range l.length).filterMap (fun i => l[i]?) = l := by
   intro l
   induction l with
   | nil => rfl
   | cons a r ih =>
    rw [List.length_cons, List.range_succ_eq_map, List.filterMap_cons]
    simp only [List.getElem?_cons_zero, List.filterMap_map]
    congr 1
  have := this ops.toList
  simp only [Array.length_toList, Array.getElem?_toList] at this
  rw [this]
 refine wpIn_region_any hm (any_sound (C := C) hC hchk hF.ops ops.size _ f σ Φ _ a (by simp) (by rw [hall]; simp) ?_ hi' hr (hd.step hi hst) hD hst ?_)
 ·intro i o ho hl
  simp only [Array.getD_eq_getD_getElem?, Array.getElem?_replicate] at hl
  split at hl <;> simp at hl
 ·rw [hall, hops]
  refine gl_of hMC hC.u ops.toList f _ σ (fun l hl q => hl (hi.obj_none q)) ?_ h
  obtain ⟨n, hn⟩ := hi.fresh.1.1
  exact ⟨n, fun l hl q => q (hn l hl)⟩
theorem mwp_drawD (hm : P.follows .mixedOrders = true) {Ds : List Nat} {loc : Nat → Nat} (hchk : chkD ⟨Ds, [], none⟩ ops = true) (C : Know) {id : Nat} {f : FR} {σ : St} {Q : MQ} (hD : DOk ⟨Ds, [], none⟩ loc f) (h : mopsC P C ops (Q .normal) ops.toList f σ) : mwp P (.region id ops true) f σ Q :=
 mwp_drawX (C := C.pl) (X := ⟨Ds, [], none⟩) (loc := loc) hm (show CalOk ⟨Ds, [], none⟩ loc C.pl from C.pl_pl) hchk (fun _ _ hd _ _ _ h => gs_call hd h) hD h
theorem mwp_draw (hm : P.follows .mixedOrders = true) (hchk : chk ops = true) (C : Know) {id : Nat} {f : FR} {σ : St} {Q : MQ} (h : mopsC P C ops (Q .normal) ops.toList f σ) : mwp P (.region id ops true) f σ Q :=
 mwp_drawD (loc := fun _ => 0) hm hchk C ⟨fun t ht => (by cases ht), fun t t' ht => (by cases ht), fun p hp => (by cases hp)⟩ h
theorem mwp_drawU (hm : P.follows .mixedOrders = true) {X : RX} {loc : Nat → Nat} (C : Know) (hC : CalOk X loc C) (hchk : chkD X ops = true) {id : Nat} {f : FR} {σ : St} {Q : MQ} (hD : DOk X loc f) (h : mopsX P (mcallU P C) ops (Q .normal) ops.toList f σ) : mwp P (.region id ops true) f σ Q :=
 mwp_drawX hm hC hchk (fun _ _ hd _ _ _ h => gs_callU hd h) hD h
end
end Go.Proofs.YtjljgahfkcdhfaaGreatDoor
end

section
namespace Go.Proofs.YtjljgahfkcdhfaaGreatDoor
def plainOp : Op → Bool
 | .call ⟨.value _, _, _⟩ | .defer _ => false
 | _ => true
section
variable {P : Program} {C : Know} {MC : FuncId → List MV → St → (MV → St → Prop) → Prop} {f : FR} {σ : St} {Q : MQ} {k : MV → St → Prop} {K : FR → St → Prop} {ops : Array Oper} {rest : List Oper}
theorem mopX_plain {op : Op} (h : plainOp op = true) : mopX P MC f σ k op = mop P f σ k op := by
 cases op <;> first | rfl | (simp [plainOp] at h; done) | skip
 rename_i c
 obtain ⟨callee, args, ts⟩ := c
 cases callee <;> first | rfl | (simp [plainOp] at h; done)
theorem mdraw_plain {id : Nat} {l : List Oper} (hm : P.follows .mixedOrders = true) (hchk : (chk l.toArray && l.all fun o => plainOp o.op) = true) (h : R (mopsC P (fun _ _ => none) (@OfNat.ofNat (Array Oper) (nat_lit 0) (@_root_.id (OfNat (Array Oper) (nat_lit 0)) (OfNat.mk (l.toArray)))) (Q .normal) (@OfNat.ofNat (List Oper) (nat_lit 0) (@_root_.id (OfNat (List Oper) (nat_lit 0)) (OfNat.mk l))) f σ)) : R (mdraw P id (@OfNat.ofNat (List Oper) (nat_lit 0) (@_root_.id (OfNat (List Oper) (nat_lit 0)) (OfNat.mk l))) f σ Q) := by
 simp only [Bool.and_eq_true] at hchk
 exact mwp_draw hm hchk.1 (fun _ _ => none) h
theorem mdraw_know {id : Nat} {l : List Oper} (hm : P.follows .mixedOrders = true) (hchk : chk l.toArray = true) (C : Know) (h : R (mopsC P C (@OfNat.ofNat (Array Oper) (nat_lit 0) (@_root_.id (OfNat (Array Oper) (nat_lit 0)) (OfNat.mk (l.toArray)))) (Q .normal) (@OfNat.ofNat (List Oper) (nat_lit 0) (@_root_.id (OfNat (List Oper) (nat_lit 0)) (OfNat.mk l))) f σ)) : R (mdraw P id (@OfNat.ofNat (List Oper) (nat_lit 0) (@_root_.id (OfNat (List Oper) (nat_lit 0)) (OfNat.mk l))) f σ Q) :=
 mwp_draw hm hchk C h
def locD (ds : List (Nat × Nat)) (t : Nat) : Nat := ((ds.find? fun p => p.1 == t).map (·.2)).getD 0
theorem DOk.of {ds : List (Nat × Nat)} {Rs : List (Nat × Nat)} {dr : Option Nat} {f : FR} (h1 : ∀ p, p ∈ ds → ∃ i o, f.get p.1 = .ptr p.2 i o) (h2 : (ds.map (·.2)).Pairwise (· ≠ ·)) (h3 : (ds.map (·.1)).Pairwise (· ≠ ·)) (h4 : ∀ p, p ∈ Rs → p.2 ∈ ds.map (·.1) ∧ ∀ l i o, f.get p.1 = .ptr l i o → l = locD ds p.2) : DOk ⟨ds.map (·.1), Rs, dr⟩ (locD ds) f := by
 unfold locD at h4 ⊢
 have hloc : ∀ p, p ∈ ds → ((ds.find? fun q => q.1 == p.1).map (·.2)).getD 0 = p.2 := fun p hp => by
  clear h4
  induction ds with
  | nil => cases hp
  | cons q r ih =>
   simp only [List.map_cons] at h2 h3
   obtain ⟨a1, a2⟩ := List.pairwise_cons.1 h2
   obtain ⟨b1, b2⟩ := List.pairwise_cons.1 h3
   rcases List.mem_cons.1 hp with rfl | hp'
   ·simp
   ·have : (q.1 == p.1) = false := by simpa using b1 p.1 (List.mem_map.2 ⟨p, hp', rfl⟩)
    rw [List.find?_cons, this]
    exact ih (fun p hp => h1 p (List.mem_cons_of_mem _ hp)) a2 b2 hp'
 refine ⟨fun t ht => ?_, fun t t' ht ht' hne => ?_, h4⟩
 ·obtain ⟨p, hp, rfl⟩ := List.mem_map.1 ht
  simp only [hloc p hp]
  exact h1 p hp
 ·obtain ⟨p, hp, rfl⟩ := List.mem_map.1 ht
  obtain ⟨q, hq, rfl⟩ := List.mem_map.1 ht'
  simp only [hloc p hp, hloc q hq]
  intro e
  obtain ⟨i, hi, e1⟩ := List.mem_iff_getElem.1 hp
  obtain ⟨j, hj, e2⟩ := List.mem_iff_getElem.1 hq
  have hij : i ≠ j := fun e => by subst e; exact hne (by rw [← e1, ← e2])
  rw [List.pairwise_iff_getElem] at h2
  rcases Nat.lt_or_gt_of_ne hij with hlt | hgt
  ·have := h2 i j (by simpa using hi) (by simpa using hj) hlt
   simp only [List.getElem_map, e1, e2] at this
   exact this e
  ·have := h2 j i (by simpa using hj) (by simpa using hi) hgt
   simp only [List.getElem_map, e1, e2] at this
   exact this e.symm
theorem mdraw_upd {id : Nat} {l : List Oper} (hm : P.follows .mixedOrders = true) (ds : List (Nat × Nat)) (Ds : List Nat) (hds : ds.map (·.1) = Ds) (Rs : List (Nat × Nat)) (d : Nat) (hd : d ∈ Ds) (hchk : chkD ⟨Ds, Rs, some d⟩ l.toArray = true) (C : Know) (hC : ∀ g ms F, C g ms = some F → ∀ l, l ∈ F.rd → l = locD ds d)
  (h1 : ∀ p, p ∈ ds → ∃ i o, f.get p.1 = .ptr p.2 i o) (h2 : (ds.map (·.2)).Pairwise (· ≠ ·)) (h3 : Ds.Pairwise (· ≠ ·)) (h4 : ∀ p, p ∈ Rs → p.2 ∈ Ds ∧ ∀ l i o, f.get p.1 = .ptr l i o → l = locD ds p.2)
  (h : R (mopsX P (mcallU P C) (@OfNat.ofNat (Array Oper) (nat_lit 0) (@_root_.id (OfNat (Array Oper) (nat_lit 0)) (OfNat.mk (l.toArray)))) (Q .normal) (@OfNat.ofNat (List Oper) (nat_lit 0) (@_root_.id (OfNat (List Oper) (nat_lit 0)) (OfNat.mk l))) f σ)) : R (mdraw P id (@OfNat.ofNat (List Oper) (nat_lit 0) (@_root_.id (OfNat (List Oper) (nat_lit 0)) (OfNat.mk l))) f σ Q) := by
 subst hds
 exact mwp_drawU (X := ⟨ds.map (·.1), Rs, some d⟩) (loc := locD ds) hm C (show CalOk _ _ C from ⟨hd, hC⟩) hchk (DOk.of h1 h2 h3 h4) h
theorem mopsC_nil : R (mopsX P MC ops K [] f σ) = R (K f σ) := rfl
theorem mopsC_cons {dst : Option Tmp} {op : Op} {ty : TypeId} {pos : String} {after : Array Edge} : R (mopsX P MC ops K (⟨dst, op, ty, pos, after, none⟩ :: rest) f σ) = R (mopX P MC f σ (fun v σ' => mopsX P MC ops K (@OfNat.ofNat (List Oper) (nat_lit 0) (@_root_.id (OfNat (List Oper) (nat_lit 0)) (OfNat.mk rest))) (mput f dst v) σ') op) := congrArg R rfl
theorem mopsC_show {l : List Oper} : R (mopsX P MC ops K (@OfNat.ofNat (List Oper) (nat_lit 0) (@_root_.id (OfNat (List Oper) (nat_lit 0)) (OfNat.mk l))) f σ) = R (mopsX P MC ops K l f σ) := congrArg R rfl
theorem mopsC_guard {l : List Oper} {dst : Option Tmp} {op : Op} {ty : TypeId} {pos : String} {after : Array Edge} {j : Nat} {want : Bool} : R (mopsX P MC (@OfNat.ofNat (Array Oper) (nat_lit 0) (@_root_.id (OfNat (Array Oper) (nat_lit 0)) (OfNat.mk (l.toArray)))) K (⟨dst, op, ty, pos, after, some (j, want)⟩ :: rest) f σ) = R (mgfork (E (gval f (gdst (@OfNat.ofNat (List Oper) (nat_lit 0) (@_root_.id (OfNat (List Oper) (nat_lit 0)) (OfNat.mk l))) j))) want (mopX P MC f σ (fun v σ' => mopsX P MC (@OfNat.ofNat (Array Oper) (nat_lit 0) (@_root_.id (OfNat (Array Oper) (nat_lit 0)) (OfNat.mk (l.toArray)))) K (@OfNat.ofNat (List Oper) (nat_lit 0) (@_root_.id (OfNat (List Oper) (nat_lit 0)) (OfNat.mk rest))) (mput f dst v) σ') op) (mopsX P MC (@OfNat.ofNat (Array Oper) (nat_lit 0) (@_root_.id (OfNat (Array Oper) (nat_lit 0)) (OfNat.mk (l.toArray)))) K (@OfNat.ofNat (List Oper) (nat_lit 0) (@_root_.id (OfNat (List Oper) (nat_lit 0)) (OfNat.mk rest))) (mput f dst (.tup [])) σ)) := congrArg R (by
 show mopsX P MC l.toArray K (⟨dst, op, ty, pos, after, some (j, want)⟩ :: rest) f σ = mgfork (gval f (gdst l j)) want (mopX P MC f σ (fun v σ' => mopsX P MC l.toArray K rest (mput f dst v) σ') op) (mopsX P MC l.toArray K rest (mput f dst (.tup [])) σ)
 simp only [mopsX, mguard, gdst_eq]
 cases gdst l j <;> rfl)
theorem mopC_go {op : Op} (h : plainOp op = true) : R (mopX P MC f σ k op) = R (mop P f σ k op) := by rw [mopX_plain h]
def mcallCv (MC : FuncId → List MV → St → (MV → St → Prop) → Prop) (x : MV) (args : List MV) (σ : St) (k : MV → St → Prop) : Prop := match x with
 | .fn (.func g) ms ns => MC g (ms ++ args ++ ns) σ k
 | _ => False
theorem mopC_call {x : Operand} {args : Array Operand} {ts : Array TypeId} : R (mopX P MC f σ k (.call ⟨.value x, args, ts⟩)) = R (mcallCv MC (E (mval f x)) (E (args.toList.map (mval f))) σ k) := congrArg R rfl
theorem mcallCv_fn {g : FuncId} {ms ns args : List MV} : R (mcallCv MC (.fn (.func g) ms ns) args σ k) = R (MC g (E (ms ++ args ++ ns)) σ k) := congrArg R rfl
theorem know_pure {g : FuncId} {ms : List MV} {r : MV} (hC : C g ms = some ⟨[], fun v => v = r, none⟩) (h : MCalls P g ms St.none fun v _ => v = r) (hk : R (mlet r σ k)) : R (mcallC P C g ms σ k) :=
 .inl ⟨[], _, [], hC, rfl, h.mono_pure, ⟨r, rfl⟩, fun v hv => hv ▸ hk⟩
theorem know_at {g : FuncId} {ms : List MV} (rd : List Nat) (os : List MObj) {q : MV → Prop} (hC : C g ms = some ⟨rd, q, none⟩) (hos : rd.map σ = os.map some) (h : MCalls P g ms (St.ofList rd os) fun v σ' => q v ∧ σ' = St.ofList rd os) (hq : ∃ v, q v) (hk : ∀ v, q v → R (mlet v σ k)) : R (mcallC P C g ms σ k) :=
 .inl ⟨rd, q, os, hC, hos, h, hq, hk⟩
theorem knowU_upd {g : FuncId} {ms : List MV} {l : Nat} {q : MV → Prop} {o o' : MObj} {r : MV} (hC : C g ms = some ⟨[l], q, some (o', fun _ => r)⟩) (ho : σ l = some o) (h : MCalls P g ms (St.none.set l o) fun v σ' => v = r ∧ σ' = St.none.set l o') (hk : R (mlet r (σ.set l o') k)) : R (mcallU P C g ms σ k) :=
 .inr (.inr ⟨l, q, o, o', fun _ => r, hC, ho, h, hk⟩)
end
attribute [go_sem ↓] mopsC_show mopsC_nil mopsC_cons mopsC_guard mopC_call mopC_go
attribute [go_sem] mcallCv_fn
end Go.Proofs.YtjljgahfkcdhfaaGreatDoor
end
