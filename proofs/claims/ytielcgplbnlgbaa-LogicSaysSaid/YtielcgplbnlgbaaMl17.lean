/- Regions whose order is drawn (3): the forms are the operations. -/
import Derived.Test.YtielcgplbnlgbaaMl16
set_option linter.unusedVariables false
set_option linter.unusedSimpArgs false
namespace Go.Proofs.Ytielcgplbnlgbaa

def mcallC (P : Program) (C : Know) (g : FuncId) (ms : List MV) (σ : St) (k : MV → St → Prop) : Prop :=
  ∃ rd q os, C g ms = some (rd, q) ∧ rd.map σ = os.map some ∧ MCalls P g ms (St.ofList rd os) (fun v σ' => q v ∧ σ' = St.ofList rd os) ∧ (∃ v, q v) ∧ ∀ v, q v → k v σ

def mopC (P : Program) (C : Know) (f : FR) (σ : St) (k : MV → St → Prop) : Op → Prop
  | .call ⟨.value x, args, ts⟩ => match mval f x with
    | .fn (.func g) ms ns => mcallC P C g (ms ++ args.toList.map (mval f) ++ ns) σ k
    | _ => False
  | .defer _ => False
  | op => mop P f σ k op

section
variable {P : Program} {C : Know} {f : FR} {σ : St} {U : Nat → Prop}

theorem ofList_le : ∀ (rd : List Nat) (os : List MObj), rd.map σ = os.map some → (St.ofList rd os).le σ
  | [], _, _ => by
    intro l o h
    simp [St.ofList, St.none] at h
  | l :: ls, [], h => by simp at h
  | l :: ls, o :: os, h => by
    simp only [List.map_cons, List.cons.injEq] at h
    simp only [St.ofList]
    exact St.set_le (ofList_le ls os h.2) h.1

theorem gs_pure {pv : PV} {k : MV → St → Prop} (h : mpure σ k pv) : gs U σ (gpure pv) fun v _ σ' => k v σ' := by
  cases pv with
  | none => exact h.elim
  | some x =>
    obtain ⟨Cd, v⟩ := x
    refine ⟨[], ⟨Cd, none, none, none, fun _ u => u = v⟩, rfl, rfl, h.1, fun _ => ⟨v, rfl⟩, fun u U' σ' ho => ?_⟩
    obtain ⟨rfl, -, rfl⟩ := ho
    rw [app_id ⟨rfl, rfl⟩]
    exact h.2

theorem pure_gs {pv : PV} {k : MV → (Nat → Prop) → St → Prop} (h : gs U σ (gpure pv) k) : mpure σ (fun v σ' => ∃ U', (∀ l, U' l → U l ∨ σ' l ≠ none) ∧ k v U' σ') pv := by
  obtain ⟨os, e, h1, h2, h3, h4, h5⟩ := h
  cases pv with
  | none => simp [gpure] at h2
  | some x =>
    obtain ⟨Cd, v⟩ := x
    simp only [gpure, Option.map_some, Option.some.injEq] at h2
    subst h2
    refine ⟨h3, U, fun l h => .inl h, h5 v U σ ⟨rfl, rfl, ?_⟩⟩
    rw [app_id ⟨rfl, rfl⟩]

theorem gs_alloc {Cd : Prop} {o : MObj} {v : Nat → MV} {k : MV → St → Prop} (hd : Dom U σ) (h : Cd ∧ ∀ l, σ l = none → k (v l) (σ.set l o)) : gs U σ (galloc Cd o v) fun v _ σ' => k v σ' := by
  refine ⟨[], ⟨Cd, none, none, some o, fun l u => u = v l⟩, rfl, rfl, h.1, fun l => ⟨v l, rfl⟩, fun u U' σ' ho => ?_⟩
  obtain ⟨l, hl, rfl, -, rfl⟩ := ho
  rw [app_id ⟨rfl, rfl⟩]
  exact h.2 l (by
    cases hs : σ l with
    | none => rfl
    | some x => exact absurd (hd l (by simp [hs])) hl)

/-- What is told of a place that was taken newly. -/
def Newly (U : Nat → Prop) (σ : St) (k : MV → (Nat → Prop) → St → Prop) (v : MV) (σ' : St) : Prop :=
  (∀ l, σ' l ≠ none → σ l = none → ¬ U l) → ∃ U', (∀ l, U' l → U l ∨ σ' l ≠ none) ∧ k v U' σ'

theorem alloc_gs {Cd : Prop} {o : MObj} {v : Nat → MV} {k : MV → (Nat → Prop) → St → Prop} (h : gs U σ (galloc Cd o v) k) : Cd ∧ ∀ l, σ l = none → Newly U σ k (v l) (σ.set l o) := by
  obtain ⟨os, e, h1, h2, h3, h4, h5⟩ := h
  simp only [galloc, Option.some.injEq] at h2
  subst h2
  refine ⟨h3, fun l hl hn => ⟨fun x => x = l ∨ U x, fun x hx => hx.elim (fun e => .inr (by rw [e, set_hit]; simp)) .inl, h5 _ _ _ ⟨l, hn l (by rw [set_hit]; simp) hl, rfl, rfl, ?_⟩⟩⟩
  rw [app_id ⟨rfl, rfl⟩]

theorem mpure_mono {pv : PV} {k k' : MV → St → Prop} (h : mpure σ k pv) (hk : ∀ v σ', k v σ' → k' v σ') : mpure σ k' pv := by
  cases pv with
  | none => exact h.elim
  | some x => exact ⟨h.1, hk _ _ h.2⟩

theorem msrc_stOf {e : Nat} {x : MV} {os : List MObj} (h : (srcLoc x).map σ = os.map some) : msrc (stOf os) e x = msrc σ e x := by
  cases x <;> try rfl
  rename_i e' l lo n
  cases os with
  | nil => simp [srcLoc] at h
  | cons o r =>
    simp only [srcLoc, List.map_cons, List.map_nil, List.cons.injEq] at h
    simp only [msrc, stOf, List.head?_cons, h.1]

theorem src_ex {e : Nat} {x : MV} {ys : List (List MV)} (h : msrc σ e x = some ys) : ∃ os : List MObj, (srcLoc x).map σ = os.map some := by
  cases x <;> try exact ⟨[], rfl⟩
  rename_i e' l lo n
  simp only [msrc] at h
  split at h
  · split at h
    · rename_i t e2 xs hs; exact ⟨[.row t e2 xs], by simp [srcLoc, hs]⟩
    · cases h
  · cases h

theorem gs_load {t : TypeId} {x : MV} {k : MV → St → Prop} (h : mload P t x σ k) : gs U σ (gload P t x) fun v _ σ' => k v σ' := by
  unfold mload at h
  unfold gload
  split at h
  · rename_i l i o
    split at h
    · rename_i tt e xs hs
      refine ⟨[.row tt e xs], _, by simp [hs], rfl, h.1, fun _ => ⟨_, rfl⟩, fun v U' σ' ho => ?_⟩
      obtain ⟨rfl, -, rfl⟩ := ho
      rw [app_id ⟨rfl, rfl⟩]; exact h.2
    · exact h.elim
  · exact gs_pure (σ := σ) (pv := some (_, _)) h
  · exact h.elim

theorem load_gs {t : TypeId} {x : MV} {k : MV → (Nat → Prop) → St → Prop} (h : gs U σ (gload P t x) k) : mload P t x σ (Newly U σ k) := by
  unfold gload at h
  unfold mload
  split at h
  · rename_i l i o
    obtain ⟨os, e, h1, h2, h3, h4, h5⟩ := h
    simp only at h1 h2
    split at h2
    · rename_i tt ee xs
      cases h2
      simp only [List.map_cons, List.map_nil, List.cons.injEq, and_true] at h1
      simp only [h1]
      refine ⟨h3, fun _ => ⟨U, fun _ h => .inl h, h5 _ _ _ ⟨rfl, rfl, ?_⟩⟩⟩
      rw [app_id ⟨rfl, rfl⟩]
    · cases h2
  · obtain ⟨h1, U', h2, h3⟩ := pure_gs (σ := σ) h
    exact ⟨h1, fun _ => ⟨U', h2, h3⟩⟩
  · obtain ⟨os, e, h1, h2, _⟩ := h
    simp [gfail] at h2

theorem app_upd {Cd : Prop} {l : Nat} {o : MObj} {n : Option MObj} {v : Nat → MV → Prop} : (Eff.app ⟨Cd, none, some (l, o), n, v⟩ σ) = σ.set l o := by
  funext k
  simp only [Eff.app, St.set, Option.map_some, Option.some.injEq, reduceCtorEq, if_false]
  by_cases hk : k = l
  · simp [hk]
  · rw [if_neg (Ne.symm hk), if_neg hk]

theorem gs_store {t : TypeId} {x y : MV} {k : MV → St → Prop} (h : mstore P t x y σ k) : gs U σ (gstore P t x y) fun v _ σ' => k v σ' := by
  unfold mstore at h
  unfold gstore
  split at h
  · rename_i l i o
    split at h
    · rename_i tt e xs hs
      refine ⟨[.row tt e xs], _, by simp [hs], rfl, h.1, fun _ => ⟨_, rfl⟩, fun v U' σ' ho => ?_⟩
      obtain ⟨rfl, -, rfl⟩ := ho
      rw [app_upd]; exact h.2
    · exact h.elim
  · exact h.elim

theorem store_gs {t : TypeId} {x y : MV} {k : MV → (Nat → Prop) → St → Prop} (h : gs U σ (gstore P t x y) k) : mstore P t x y σ (Newly U σ k) := by
  unfold gstore at h
  unfold mstore
  split at h
  · rename_i l i o
    obtain ⟨os, e, h1, h2, h3, h4, h5⟩ := h
    simp only at h1 h2
    split at h2
    · rename_i tt ee xs
      cases h2
      simp only [List.map_cons, List.map_nil, List.cons.injEq, and_true] at h1
      simp only [h1]
      refine ⟨h3, fun _ => ⟨U, fun _ h => .inl h, h5 _ _ _ ⟨rfl, rfl, ?_⟩⟩⟩
      rw [app_upd]
    · cases h2
  · obtain ⟨os, e, h1, h2, _⟩ := h
    simp [gfail] at h2

theorem app_kill {Cd : Prop} {l : Nat} {n : Option MObj} {v : Nat → MV → Prop} : (Eff.app ⟨Cd, some l, none, n, v⟩ σ) = σ.del l := by
  funext k
  simp only [Eff.app, St.del, Option.map_none, reduceCtorEq, if_false, Option.some.injEq]
  by_cases hk : k = l
  · simp [hk]
  · rw [if_neg (Ne.symm hk), if_neg hk]

theorem fresh_of (hd : Dom U σ) {l : Nat} (hl : ¬ U l) : σ l = none := by
  cases hs : σ l with
  | none => rfl
  | some x => exact absurd (hd l (by simp [hs])) hl

theorem gs_append {t xt : TypeId} {s x : MV} {k : MV → St → Prop} (hd : Dom U σ) (h : mappend P t xt s x σ k) : gs U σ (gappend P t xt s x) fun v _ σ' => k v σ' := by
  unfold mappend at h
  unfold gappend
  split at h
  · rename_i el hk
    simp only [hk]
    split at h
    · rename_i ys hy
      obtain ⟨os, hos⟩ := src_ex hy
      have hsrc := msrc_stOf (e := (td P el).size) hos
      rw [hy] at hsrc
      split at h
      · refine ⟨os, ⟨(td P xt).k.isSrc = true ∧ (td P el).zok = true ∧ Fits ys.length (td P el).bytes, none, none, some (.row el (td P el).size ys), fun l u => u = .vec (td P el).size l 0 ys.length⟩, hos, by simp only [hsrc], h.1, fun l => ⟨_, rfl⟩, fun u U' σ' ho => ?_⟩
        obtain ⟨l, hl, rfl, -, rfl⟩ := ho
        rw [app_id ⟨rfl, rfl⟩]
        exact h.2 l (fresh_of hd hl)
      · rename_i e xs
        refine ⟨os, ⟨(td P xt).k.isSrc = true ∧ (td P el).zok = true ∧ e = (td P el).size ∧ (xs = [] ∨ 0 < ys.length) ∧ Fits (xs.length + ys.length) (td P el).bytes, none, none, some (.row el (td P el).size (xs ++ ys)), fun l u => u = .vec (td P el).size l 0 (xs.length + ys.length)⟩, hos, by simp only [hsrc], h.1, fun l => ⟨_, rfl⟩, fun u U' σ' ho => ?_⟩
        obtain ⟨l, hl, rfl, -, rfl⟩ := ho
        rw [app_id ⟨rfl, rfl⟩]
        exact h.2 l (fresh_of hd hl)
      · rename_i e l lo n
        split at h
        · rename_i tt e' xs hs
          refine ⟨.row tt e' xs :: os, ⟨(td P xt).k.isSrc = true ∧ (td P el).zok = true ∧ e = (td P el).size ∧ e' = (td P el).size ∧ tt = el ∧ lo + n ≤ xs.length ∧ Fits (n + ys.length) (td P el).bytes, some l, none, some (.row el (td P el).size (appRow xs lo n ys)), fun l' u => u = .vec (td P el).size l' 0 (n + ys.length)⟩, by simp [hs, hos], by simp only [hsrc], h.1, fun l => ⟨_, rfl⟩, fun u U' σ' ho => ?_⟩
          obtain ⟨l', hl, rfl, -, rfl⟩ := ho
          rw [app_kill]
          exact h.2 l' (fresh_of hd hl)
        · exact h.elim
      · exact h.elim
    · exact h.elim
  · exact h.elim

theorem append_gs {t xt : TypeId} {s x : MV} {k : MV → (Nat → Prop) → St → Prop} (h : gs U σ (gappend P t xt s x) k) : mappend P t xt s x σ (Newly U σ k) := by
  unfold gappend at h
  unfold mappend
  split at h
  · rename_i el hk
    split at h
    · obtain ⟨os, e, h1, h2, h3, h4, h5⟩ := h
      simp only at h1 h2
      split at h2
      · rename_i ys hy
        cases h2
        rw [msrc_stOf h1] at hy
        simp only [hk, hy]
        refine ⟨h3, fun l hl hn => ⟨fun x => x = l ∨ U x, fun x hx => hx.elim (fun e => .inr (by rw [e, set_hit]; simp)) .inl, h5 _ _ _ ⟨l, hn l (by rw [set_hit]; simp) hl, rfl, rfl, ?_⟩⟩⟩
        rw [app_id ⟨rfl, rfl⟩]
      · cases h2
    · obtain ⟨os, e, h1, h2, h3, h4, h5⟩ := h
      simp only at h1 h2
      split at h2
      · rename_i ys hy
        cases h2
        rw [msrc_stOf h1] at hy
        simp only [hk, hy]
        refine ⟨h3, fun l hl hn => ⟨fun x => x = l ∨ U x, fun x hx => hx.elim (fun e => .inr (by rw [e, set_hit]; simp)) .inl, h5 _ _ _ ⟨l, hn l (by rw [set_hit]; simp) hl, rfl, rfl, ?_⟩⟩⟩
        rw [app_id ⟨rfl, rfl⟩]
      · cases h2
    · obtain ⟨os, e, h1, h2, h3, h4, h5⟩ := h
      simp only at h1 h2
      split at h2
      · rename_i tt e' xs os'
        simp only [List.map_cons, List.cons.injEq] at h1
        split at h2
        · rename_i ys hy
          cases h2
          rw [msrc_stOf h1.2] at hy
          simp only [hk, hy, h1.1]
          refine ⟨h3, fun l hl hn => ⟨fun x => x = l ∨ U x, fun x hx => hx.elim (fun e => .inr (by rw [e, set_hit]; simp)) .inl, h5 _ _ _ ⟨l, hn l (by rw [set_hit]; simp) hl, rfl, rfl, ?_⟩⟩⟩
          rw [app_kill]
        · cases h2
      · cases h2
    · obtain ⟨os, e, h1, h2, _⟩ := h
      simp [gfail] at h2
  · obtain ⟨os, e, h1, h2, _⟩ := h
    simp [gfail] at h2

theorem no_fail {k : MV → (Nat → Prop) → St → Prop} (h : gs U σ gfail k) : False := by
  obtain ⟨os, e, h1, h2, _⟩ := h
  simp [gfail] at h2

theorem gs_src {D : Prop} {x : MV} {k : MV → St → Prop} (h : match msrc σ 1 x with | some ys => (D ∧ ys.all isByte = true) ∧ k (.str (bytesOf ys)) σ | none => False) :
    gs U σ (srcLoc x, fun os => match msrc (stOf os) 1 x with
    | some ys => some ⟨D ∧ ys.all isByte = true, none, none, none, fun _ u => u = .str (bytesOf ys)⟩
    | none => none) fun v _ σ' => k v σ' := by
  split at h
  · rename_i ys hy
    obtain ⟨os, hos⟩ := src_ex hy
    have hsrc := msrc_stOf (e := 1) hos
    rw [hy] at hsrc
    refine ⟨os, ⟨D ∧ ys.all isByte = true, none, none, none, fun _ u => u = .str (bytesOf ys)⟩, hos, by simp only [hsrc], h.1, fun _ => ⟨_, rfl⟩, fun u U' σ' ho => ?_⟩
    obtain ⟨rfl, -, rfl⟩ := ho
    rw [app_id ⟨rfl, rfl⟩]; exact h.2
  · exact h.elim

theorem src_gs {D : Prop} {x : MV} {k : MV → (Nat → Prop) → St → Prop} (h : gs U σ (srcLoc x, fun os => match msrc (stOf os) 1 x with
    | some ys => some ⟨D ∧ ys.all isByte = true, none, none, none, fun _ u => u = .str (bytesOf ys)⟩
    | none => none) k) : match msrc σ 1 x with | some ys => (D ∧ ys.all isByte = true) ∧ Newly U σ k (.str (bytesOf ys)) σ | none => False := by
  obtain ⟨os, e, h1, h2, h3, h4, h5⟩ := h
  simp only at h1 h2
  split at h2
  · rename_i ys hy
    cases h2
    rw [msrc_stOf h1] at hy
    simp only [hy]
    refine ⟨h3, fun _ => ⟨U, fun _ h => .inl h, h5 _ _ _ ⟨rfl, rfl, ?_⟩⟩⟩
    rw [app_id ⟨rfl, rfl⟩]
  · cases h2

theorem gs_convert {s d : TypeId} {x : MV} {k : MV → St → Prop} (hd : Dom U σ) (h : mconvert P s d x σ k) : gs U σ (gconvert P s d x) fun v _ σ' => k v σ' := by
  unfold mconvert at h
  unfold gconvert
  cases hs : (td P s).k <;> cases hk : (td P d).k <;> simp only [hs, hk] at h ⊢ <;> first
    | exact gs_pure h
    | (cases x <;> first | exact gs_pure h | exact gs_alloc hd h | exact h.elim | exact gs_src h)

theorem convert_gs {s d : TypeId} {x : MV} {k : MV → (Nat → Prop) → St → Prop} (h : gs U σ (gconvert P s d x) k) : mconvert P s d x σ (Newly U σ k) := by
  unfold gconvert at h
  unfold mconvert
  have hp : ∀ {pv : PV}, gs U σ (gpure pv) k → mpure σ (Newly U σ k) pv := fun h => mpure_mono (pure_gs h) fun v σ' hh _ => hh
  cases hs : (td P s).k <;> cases hk : (td P d).k <;> simp only [hs, hk] at h ⊢ <;> first
    | exact hp h
    | (cases x <;> first | exact hp h | exact alloc_gs h | exact (no_fail h).elim | exact src_gs h)

theorem gs_call {g : FuncId} {ms : List MV} {k : MV → St → Prop} (h : mcallC P C g ms σ k) : gs U σ (gcall P C g ms) fun v _ σ' => k v σ' := by
  obtain ⟨rd, q, os, h1, h2, h3, h4, h5⟩ := h
  unfold gcall
  rw [h1]
  refine ⟨os, ⟨MCalls P g ms (St.ofList rd os) (fun v σ' => q v ∧ σ' = St.ofList rd os), none, none, none, fun _ u => q u⟩, h2, rfl, h3, fun _ => h4, fun u U' σ' ho => ?_⟩
  obtain ⟨hq, -, rfl⟩ := ho
  rw [app_id ⟨rfl, rfl⟩]
  exact h5 u hq

theorem call_gs {g : FuncId} {ms : List MV} {k : MV → (Nat → Prop) → St → Prop} (h : gs U σ (gcall P C g ms) k) : MCalls P g ms σ (Newly U σ k) := by
  unfold gcall at h
  split at h
  · rename_i rd q hC
    obtain ⟨os, e, h1, h2, h3, h4, h5⟩ := h
    simp only [Option.some.injEq] at h2
    subst h2
    simp only at h1 h3
    have hle := ofList_le rd os h1
    refine (h3.frame hle).mono ?_
    rintro v σ1 ⟨σ', ⟨hq, rfl⟩, rfl, -⟩
    rw [over_minus hle]
    refine fun _ => ⟨U, fun _ h => .inl h, h5 _ _ _ ⟨hq, rfl, ?_⟩⟩
    rw [app_id ⟨rfl, rfl⟩]
  · exact (no_fail h).elim

theorem gs_op {op : Op} {k : MV → St → Prop} (hd : Dom U σ) (h : mopC P C f σ k op) : gs U σ (gop P C f op) fun v _ σ' => k v σ' := by
  cases op
  case alloc t => exact gs_alloc hd h
  case box t x => exact gs_alloc hd h
  case load t x => exact gs_load h
  case store t x y => exact gs_store h
  case convert s d x => exact gs_convert hd h
  case buildSlice t n p =>
    have h : mbuildSlice P f t n p σ k := h
    simp only [gop]
    unfold mbuildSlice at h
    unfold gbuildSlice
    split at h
    · rename_i el hk; simp only [hk]; exact gs_alloc hd h
    · exact h.elim
  case makeSlice t x y =>
    have h : mmakeSlice P t (mval f x) (mval f y) σ k := h
    simp only [gop]
    unfold mmakeSlice at h
    unfold gmakeSlice
    split at h
    · rename_i el n c hk hx hy; simp only [hk, hx, hy]; exact gs_alloc hd h
    · exact h.elim
  case defer c => exact h.elim
  case call c =>
    obtain ⟨callee, args, ts⟩ := c
    cases callee with
    | value x =>
      simp only [mopC] at h
      simp only [gop]
      split at h
      · rename_i g ms ns hx; simp only [hx]; exact gs_call h
      · exact h.elim
    | invoke r m => exact h.elim
    | builtin b =>
      by_cases hb : b = .append
      · subst hb
        have h : mbcall P f .append args.toList ts.toList σ k := h
        simp only [gop]
        simp only [mbcall] at h
        split at h
        · rename_i s x t xt ha ht; simp only [ha, ht]; exact gs_append hd h
        · exact h.elim
      · have h : mbcall P f b args.toList ts.toList σ k := h
        have e1 : gop P C f (.call ⟨.builtin b, args, ts⟩) = if ts.toList.length = args.toList.length then gpure (mbuiltin P b ts.toList.toArray (args.toList.map (mval f))) else gfail := by
          cases b <;> first | rfl | exact absurd rfl hb
        have e2 : mbcall P f b args.toList ts.toList σ k = (ts.toList.length = args.toList.length ∧ mpure σ k (mbuiltin P b ts.toList.toArray (args.toList.map (mval f)))) := by
          cases b <;> first | rfl | exact absurd rfl hb
        rw [e2] at h
        rw [e1, if_pos h.1]
        exact gs_pure h.2
  all_goals exact gs_pure h

theorem op_gs {op : Op} {k : MV → (Nat → Prop) → St → Prop} (h : gs U σ (gop P C f op) k) : mop P f σ (Newly U σ k) op := by
  have hp : ∀ {pv : PV}, gs U σ (gpure pv) k → mpure σ (Newly U σ k) pv := fun h => mpure_mono (pure_gs h) fun v σ' hh _ => hh
  cases op
  case alloc t => exact alloc_gs h
  case box t x => exact alloc_gs h
  case load t x => exact load_gs h
  case store t x y => exact store_gs h
  case convert s d x => exact convert_gs h
  case buildSlice t n p =>
    simp only [gop] at h
    show mbuildSlice P f t n p σ _
    unfold mbuildSlice
    unfold gbuildSlice at h
    split at h
    · rename_i el hk; simp only [hk]; exact alloc_gs h
    · exact (no_fail h).elim
  case makeSlice t x y =>
    simp only [gop] at h
    show mmakeSlice P t (mval f x) (mval f y) σ _
    unfold mmakeSlice
    unfold gmakeSlice at h
    split at h
    · rename_i el n c hk hx hy; simp only [hk, hx, hy]; exact alloc_gs h
    · exact (no_fail h).elim
  case defer c => exact (no_fail h).elim
  case call c =>
    obtain ⟨callee, args, ts⟩ := c
    cases callee with
    | value x =>
      simp only [gop] at h
      show mcall P f ⟨.value x, args, ts⟩ σ _
      simp only [mcall]
      split at h
      · rename_i g ms ns hx; simp only [hx]; exact call_gs h
      · exact (no_fail h).elim
    | invoke r m => exact (no_fail h).elim
    | builtin b =>
      show mbcall P f b args.toList ts.toList σ _
      by_cases hb : b = .append
      · subst hb
        simp only [gop] at h
        simp only [mbcall]
        split at h
        · rename_i s x t xt ha ht; simp only [ha, ht]; exact append_gs h
        · exact (no_fail h).elim
      · have e1 : gop P C f (.call ⟨.builtin b, args, ts⟩) = if ts.toList.length = args.toList.length then gpure (mbuiltin P b ts.toList.toArray (args.toList.map (mval f))) else gfail := by
          cases b <;> first | rfl | exact absurd rfl hb
        have e2 : mbcall P f b args.toList ts.toList σ (Newly U σ k) = (ts.toList.length = args.toList.length ∧ mpure σ (Newly U σ k) (mbuiltin P b ts.toList.toArray (args.toList.map (mval f)))) := by
          cases b <;> first | rfl | exact absurd rfl hb
        rw [e1] at h
        rw [e2]
        split at h
        · rename_i hl; exact ⟨hl, hp h⟩
        · exact (no_fail h).elim
  all_goals exact hp h

end
end Go.Proofs.Ytielcgplbnlgbaa
