/- Regions whose order is drawn (4): one order for all. -/
import Derived.Test.YtielcgplbnlgbaaMl17
set_option linter.unusedVariables false
set_option linter.unusedSimpArgs false
namespace Go.Proofs.Ytielcgplbnlgbaa

section
variable {P : Program} {C : Know} {ops : Array Oper}

/-! ### Frames that hold the same -/
def FEq (f f' : FR) : Prop := f.n = f'.n ∧ f.d = f'.d ∧ ∀ t, f.get t = f'.get t
theorem FEq.refl (f : FR) : FEq f f := ⟨rfl, rfl, fun _ => rfl⟩
theorem FEq.symm {f f' : FR} (h : FEq f f') : FEq f' f := ⟨h.1.symm, h.2.1.symm, fun t => (h.2.2 t).symm⟩
theorem FEq.trans {f f' f'' : FR} (h : FEq f f') (k : FEq f' f'') : FEq f f'' := ⟨h.1.trans k.1, h.2.1.trans k.2.1, fun t => (h.2.2 t).trans (k.2.2 t)⟩

theorem get_put (f : FR) (dst : Option Tmp) (v : MV) (t : Nat) : (mput f dst v).get t = if dst = some t ∧ t < f.n then v else f.get t := by
  cases dst with
  | none => simp [mput]
  | some d =>
    simp only [mput]
    split
    · rename_i hd
      simp only [FR.get, lget]
      by_cases ht : t = d
      · subst ht; simp [hd]
      · rw [if_neg ht, if_neg (by simp; intro e; exact absurd e.symm ht)]
    · rename_i hd
      rw [if_neg]
      rintro ⟨e, h⟩
      cases e
      exact hd h

theorem put_n (f : FR) (dst : Option Tmp) (v : MV) : (mput f dst v).n = f.n := by
  unfold mput
  split <;> (try split) <;> rfl

theorem FEq.put {f f' : FR} (h : FEq f f') (dst : Option Tmp) (v : MV) : FEq (mput f dst v) (mput f' dst v) :=
  ⟨by rw [put_n, put_n]; exact h.1, by rw [mput_d, mput_d]; exact h.2.1, fun t => by rw [get_put, get_put, h.1, h.2.2 t]⟩

theorem FEq.comm (f : FR) {x y : Option Tmp} (v u : MV) (h : ∀ d, x = some d → y ≠ some d) : FEq (mput (mput f x v) y u) (mput (mput f y u) x v) :=
  ⟨by simp only [put_n], by simp only [mput_d], fun t => by
    simp only [get_put, put_n]
    by_cases hx : x = some t
    · have := h t hx
      simp [hx, this]
    · simp [hx]⟩

theorem FEq.mval {f f' : FR} (h : FEq f f') : mval f = mval f' := by
  funext x
  cases x with
  | tmp t => exact h.2.2 t
  | _ => rfl

theorem mval_put {f : FR} {dst : Option Tmp} {v : MV} {x : Operand} (h : ∀ d, dst = some d → x ≠ .tmp d) : mval (mput f dst v) x = mval f x := by
  cases x with
  | tmp t =>
    show (mput f dst v).get t = f.get t
    rw [get_put, if_neg]
    rintro ⟨e, _⟩
    exact h t e rfl
  | _ => rfl

theorem buildFrom_congr {f f' : FR} {place : Nat → Option (Nat × TypeId)} : ∀ (parts : List (Nat × Operand)) (cs : List MV), (∀ p, p ∈ parts → mval f p.2 = mval f' p.2) → buildFrom P f place parts cs = buildFrom P f' place parts cs := by
  intro parts
  induction parts with
  | nil => intro cs _; rfl
  | cons p r ih =>
    intro cs h
    obtain ⟨i, x⟩ := p
    simp only [buildFrom]
    have hx : mval f x = mval f' x := h (i, x) (by simp)
    rw [hx]
    cases place i with
    | none => rfl
    | some q => simp only []; rw [ih _ (fun p hp => h p (by simp [hp]))]

theorem mbuild_congr {f f' : FR} {t : TypeId} {parts : Array (Nat × Operand)} (h : ∀ p, p ∈ parts.toList → mval f p.2 = mval f' p.2) : mbuild P f t parts = mbuild P f' t parts := by
  unfold mbuild
  cases (td P t).k <;> simp only [] <;> rw [buildFrom_congr _ _ h]

theorem map_congr' {f f' : FR} {xs : List Operand} (h : ∀ x, x ∈ xs → mval f x = mval f' x) : xs.map (mval f) = xs.map (mval f') := List.map_congr_left h

theorem gop_congr {f f' : FR} {op : Op} (h : ∀ x, x ∈ op.operands → mval f x = mval f' x) : gop P C f op = gop P C f' op := by
  cases op <;> simp only [Op.operands] at h
  case buildSlice t n ps =>
    simp only [gop, gbuildSlice]
    have hp : ∀ p, p ∈ ps.toList → mval f p.2 = mval f' p.2 := fun p hp => h p.2 (by simpa using ⟨p.1, by simpa using hp⟩)
    have e1 : (ps.toList.all fun p => (mval f p.2).cells.all MV.isCell && (mval f p.2).cells.length == 0) = (ps.toList.all fun p => (mval f' p.2).cells.all MV.isCell && (mval f' p.2).cells.length == 0) := by
      rw [Bool.eq_iff_iff]; simp only [List.all_eq_true]
      exact ⟨fun q x hx => by rw [← hp x hx]; exact q x hx, fun q x hx => by rw [hp x hx]; exact q x hx⟩
    have e2 : ∀ z, (ps.toList.all fun p => (mval f p.2).cells.all MV.isCell && (mval f p.2).cells.length == z) = (ps.toList.all fun p => (mval f' p.2).cells.all MV.isCell && (mval f' p.2).cells.length == z) := fun z => by
      rw [Bool.eq_iff_iff]; simp only [List.all_eq_true]
      exact ⟨fun q x hx => by rw [← hp x hx]; exact q x hx, fun q x hx => by rw [hp x hx]; exact q x hx⟩
    have e3 : (ps.toList.map fun p => (mval f p.2).cells) = (ps.toList.map fun p => (mval f' p.2).cells) := List.map_congr_left fun p hq => by rw [hp p hq]
    simp only [e2, e3]
  case build t ps =>
    simp only [gop, qop]
    rw [mbuild_congr fun p hp => h p.2 (by simpa using ⟨p.1, by simpa using hp⟩)]
  case makeFunc fn first captured =>
    simp only [gop, qop]
    rw [map_congr' (xs := first.toList) fun x hx => h x (by simp at hx ⊢; exact .inl hx), map_congr' (xs := captured.toList) fun x hx => h x (by simp at hx ⊢; exact .inr hx)]
  case slice t x lo hi mx =>
    simp only [gop, qop]
    rw [h x (by simp)]
    cases lo <;> cases hi <;> cases mx <;> simp_all
  case call c =>
    obtain ⟨callee, args, ts⟩ := c
    have ha : args.toList.map (mval f) = args.toList.map (mval f') := map_congr' fun x hx => h x (by simp [Call.operands]; exact .inr (by simpa using hx))
    cases callee with
    | value x => simp only [gop]; rw [h x (by simp [Call.operands]), ha]
    | invoke r m => rfl
    | builtin b =>
      by_cases hb : b = .append
      · subst hb
        simp only [gop]
        have hm : ∀ y, y ∈ args.toList → mval f y = mval f' y := fun y hy => h y (by simp [Call.operands]; simpa using hy)
        split
        · rename_i s x t xt hl _
          rw [hm s (by simp [hl]), hm x (by simp [hl])]
        · rfl
      · have e1 : ∀ f, gop P C f (.call ⟨.builtin b, args, ts⟩) = if ts.toList.length = args.toList.length then gpure (mbuiltin P b ts.toList.toArray (args.toList.map (mval f))) else gfail := fun f => by
          cases b <;> first | rfl | exact absurd rfl hb
        rw [e1, e1, ha]
  all_goals first
    | rfl
    | (simp_all [gop, qop]; done)

theorem yields_congr {f f' : FR} (h : FEq f f') : True := trivial

/-- An operation and its guard. -/
def gfo (P : Program) (C : Know) (ops : Array Oper) (f : FR) (o : Oper) : GF :=
  match o.guard with
  | none => gop P C f o.op
  | some (j, want) => match (ops[j]?).bind (·.dst) with
    | some t => match f.get t with
      | .bool b => if b = want then gop P C f o.op else gpure (some (True, .junk))
      | _ => gfail
    | none => gfail

theorem wf_gfo (f : FR) (o : Oper) : Wf (gfo P C ops f o) ∧ (noUpd o.op = true → NoUpd (gfo P C ops f o)) ∧ (noW o.op = true → NoW (gfo P C ops f o)) ∧ (rd0 o.op = true → (gfo P C ops f o).1 = []) := by
  have hf : Wf gfail ∧ (noUpd o.op = true → NoUpd gfail) ∧ (noW o.op = true → NoW gfail) ∧ (rd0 o.op = true → gfail.1 = []) := ⟨wf_fail.1, fun _ => wf_fail.2.2.1, fun _ => wf_fail.2.1, fun _ => rfl⟩
  unfold gfo
  split
  · exact wf_gop P C f o.op
  · split
    · split
      · split
        · exact wf_gop P C f o.op
        · exact ⟨(wf_pure _).1, fun _ => (wf_pure _).2.2.1, fun _ => (wf_pure _).2.1, fun _ => rfl⟩
      · exact hf
    · exact hf

theorem gfo_congr {f f' : FR} (h : FEq f f') (o : Oper) : gfo P C ops f o = gfo P C ops f' o := by
  unfold gfo
  rw [gop_congr (f := f) (f' := f') fun x _ => by rw [h.mval]]
  simp only [h.2.2]

theorem gfo_put {f : FR} {dst : Option Tmp} {v : MV} {o : Oper} (h : ∀ d, dst = some d → d ∉ o.looksAt ops) : gfo P C ops (mput f dst v) o = gfo P C ops f o := by
  have h1 : gop P C (mput f dst v) o.op = gop P C f o.op := gop_congr fun x hx => mval_put fun d hd e => h d hd (by
    subst e
    exact List.mem_append_left _ (List.mem_filterMap.2 ⟨.tmp d, by simpa using hx, rfl⟩))
  unfold gfo
  rw [h1]
  split
  · rfl
  · rename_i j want hg
    split
    · rename_i t ht
      have : (mput f dst v).get t = f.get t := by
        rw [get_put, if_neg]
        rintro ⟨e, -⟩
        exact h t e (by simp [Oper.looksAt, hg, ht])
      rw [this]
    · rfl

/-- Operations one by one, as forms. -/
def gl (P : Program) (C : Know) (ops : Array Oper) (K : FR → (Nat → Prop) → St → Prop) : List Oper → FR → (Nat → Prop) → St → Prop
  | [], f, U, σ => K f U σ
  | o :: r, f, U, σ => gs U σ (gfo P C ops f o) fun v U' σ' => gl P C ops K r (mput f o.dst v) U' σ'

def KOk (K : FR → (Nat → Prop) → St → Prop) : Prop := ∀ f f' U U' σ, FEq f f' → (∀ l, U l → U' l) → K f U σ → K f' U' σ

theorem gs_imp {U : Nat → Prop} {σ : St} {g : GF} {k k' : MV → (Nat → Prop) → St → Prop} (h : gs U σ g k) (hk : ∀ v U' σ', k v U' σ' → k' v U' σ') : gs U σ g k' := by
  obtain ⟨os, e, h1, h2, h3, h4, h5⟩ := h
  exact ⟨os, e, h1, h2, h3, h4, fun v U' σ' ho => hk v U' σ' (h5 v U' σ' ho)⟩

theorem gl_ok {K : FR → (Nat → Prop) → St → Prop} (hK : KOk K) : ∀ l, KOk (gl P C ops K l)
  | [] => hK
  | o :: r => fun f f' U U' σ hf hu h => by
    simp only [gl] at h ⊢
    rw [← gfo_congr hf]
    refine gs_anti (gs_imp h fun v U' σ' hh => gl_ok hK r _ (mput f' o.dst v) U' U' σ' (hf.put o.dst v) (fun _ h => h) hh) hu fun v V V' σ hv hh => gl_ok hK r _ _ V V' σ (.refl _) hv hh

/-- Two operations may change places. -/
def swapB (ops : Array Oper) (x y : Oper) : Bool := x.apart ops y && ((rd0 y.op || noUpd x.op) && (rd0 x.op || noW y.op) && (noW x.op || noW y.op))

/-- Pointers that lie in slots which the region does not turn, each to a place of its own. -/
def DOk (Ds : List Nat) (loc : Nat → Nat) (f : FR) : Prop := (∀ t, t ∈ Ds → ∃ i o, f.get t = .ptr (loc t) i o) ∧ ∀ t t', t ∈ Ds → t' ∈ Ds → t ≠ t' → loc t ≠ loc t'
def dsr (Ds : List Nat) : Op → Option Nat
  | .load _ (.tmp t) => if Ds.contains t then some t else none
  | .store _ (.tmp t) _ => if Ds.contains t then some t else none
  | _ => none
def disjD (Ds : List Nat) (x y : Op) : Bool := match dsr Ds x, dsr Ds y with
  | some a, some b => a != b
  | _, _ => false
def swapD (Ds : List Nat) (ops : Array Oper) (x y : Oper) : Bool := swapB ops x y || (x.apart ops y && disjD Ds x.op y.op)
def keepsD (Ds : List Nat) (o : Oper) : Bool := match o.dst with
  | some d => !Ds.contains d
  | none => true

theorem DOk.put {Ds : List Nat} {loc : Nat → Nat} {f : FR} (h : DOk Ds loc f) {o : Oper} (hk : keepsD Ds o = true) (v : MV) : DOk Ds loc (mput f o.dst v) :=
  ⟨fun t ht => by
    rw [get_put, if_neg]
    · exact h.1 t ht
    · rintro ⟨e, -⟩
      simp only [keepsD, e, Bool.not_eq_true', List.contains_iff_mem] at hk
      simp [ht] at hk, h.2⟩

theorem dsr_reads {Ds : List Nat} {loc : Nat → Nat} {f : FR} (h : DOk Ds loc f) {o : Oper} {t : Nat} (ho : dsr Ds o.op = some t) : t ∈ Ds ∧ ∀ l, l ∈ (gfo P C ops f o).1 → l = loc t := by
  have key : t ∈ Ds ∧ ∀ l, l ∈ (gop P C f o.op).1 → l = loc t := by
    unfold dsr at ho
    split at ho
    · rename_i ty u hop
      split at ho
      · rename_i hu
        cases ho
        have hm : t ∈ Ds := by simpa using hu
        obtain ⟨i, q, e⟩ := h.1 t hm
        refine ⟨hm, fun l hl => ?_⟩
        rw [hop] at hl
        simp only [gop, mval, e, gload, List.mem_singleton] at hl
        exact hl
      · cases ho
    · rename_i ty u y hop
      split at ho
      · rename_i hu
        cases ho
        have hm : t ∈ Ds := by simpa using hu
        obtain ⟨i, q, e⟩ := h.1 t hm
        refine ⟨hm, fun l hl => ?_⟩
        rw [hop] at hl
        simp only [gop, mval, e, gstore, List.mem_singleton] at hl
        exact hl
      · cases ho
    · cases ho
  refine ⟨key.1, fun l hl => ?_⟩
  unfold gfo at hl
  split at hl
  · exact key.2 l hl
  · split at hl
    · split at hl
      · split at hl
        · exact key.2 l hl
        · simp [gpure] at hl
      · simp [gfail] at hl
    · simp [gfail] at hl

theorem pull {K : FR → (Nat → Prop) → St → Prop} (hK : KOk K) {Ds : List Nat} {loc : Nat → Nat} (l2 : List Oper) (o : Oper) : ∀ (l1 : List Oper) (f : FR) (U : Nat → Prop) (σ : St), Dom U σ → Fin U → DOk Ds loc f → (∀ x, x ∈ l1 → swapD Ds ops x o = true) → (∀ x, x ∈ l1 → keepsD Ds x = true) →
    gl P C ops K (l1 ++ o :: l2) f U σ → gs U σ (gfo P C ops f o) fun v U1 σ1 => ∀ U1', (∀ l, U1 l → U1' l) → gl P C ops K (l1 ++ l2) (mput f o.dst v) U1' σ1 := by
  intro l1
  induction l1 with
  | nil =>
    intro f U σ hd hf _ _ _ h
    exact gs_imp h fun v U' σ' hh U1' hu => gl_ok hK _ _ _ U' U1' σ' (.refl _) hu hh
  | cons x l1 ih =>
    intro f U σ hd hf hD hsw hkp h
    have hx := hsw x (by simp)
    have wx := wf_gfo (P := P) (C := C) (ops := ops) f x
    have wo := wf_gfo (P := P) (C := C) (ops := ops) f o
    have hx2 : x.apart ops o = true ∧ ((((gfo P C ops f o).1 = [] ∨ NoUpd (gfo P C ops f x)) ∧ ((gfo P C ops f x).1 = [] ∨ NoW (gfo P C ops f o)) ∧ (NoW (gfo P C ops f x) ∨ NoW (gfo P C ops f o))) ∨ ∀ l, l ∈ (gfo P C ops f x).1 → l ∉ (gfo P C ops f o).1) := by
      simp only [swapD, swapB, Bool.or_eq_true, Bool.and_eq_true] at hx
      rcases hx with ⟨hap, ⟨c1, c2⟩, c3⟩ | ⟨hap, hdj⟩
      · exact ⟨hap, .inl ⟨c1.imp wo.2.2.2 wx.2.1, c2.imp wx.2.2.2 wo.2.2.1, c3.imp wx.2.2.1 wo.2.2.1⟩⟩
      · refine ⟨hap, .inr ?_⟩
        unfold disjD at hdj
        split at hdj
        · rename_i a b ha hb
          obtain ⟨m1, r1⟩ := dsr_reads (P := P) (C := C) (ops := ops) hD ha
          obtain ⟨m2, r2⟩ := dsr_reads (P := P) (C := C) (ops := ops) hD hb
          intro l h1 h2
          have e1 := r1 l h1
          have e2 := r2 l h2
          exact hD.2 a b m1 m2 (by simpa using hdj) (e1.symm.trans e2)
        · cases hdj
    obtain ⟨hap, hc⟩ := hx2
    obtain ⟨a1, a2, a3⟩ := Oper.apart_spec hap
    simp only [List.cons_append, gl] at h
    have h' := gs_mono h hd hf (k' := fun v U1 σ1 => gs U1 σ1 (gfo P C ops f o) fun u U2 σ2 => ∀ U2', (∀ l, U2 l → U2' l) → gl P C ops K (l1 ++ l2) (mput (mput f x.dst v) o.dst u) U2' σ2) (fun v U1 σ1 hd1 hf1 _ hh => by
      have := ih (mput f x.dst v) U1 σ1 hd1 hf1 (hD.put (hkp x (by simp)) v) (fun y hy => hsw y (by simp [hy])) (fun y hy => hkp y (by simp [hy])) hh
      rwa [gfo_put a1] at this) wx.1
    have h2 := gs_swap (K := fun v u U2 σ2 => ∀ U2', (∀ l, U2 l → U2' l) → gl P C ops K (l1 ++ l2) (mput (mput f x.dst v) o.dst u) U2' σ2) hd hf wx.1 wo.1 hc
      (fun v u V V' σ hv hh U2' hu => hh U2' fun l hl => hu l (hv l hl)) h'
    refine gs_imp h2 fun u U1 σ1 hh U1' hu => ?_
    simp only [List.cons_append, gl]
    rw [gfo_put a3]
    refine gs_imp (hh U1' hu) fun v U2 σ2 hk => ?_
    exact gl_ok hK _ _ _ U2 U2 σ2 (FEq.comm f v u a2) (fun _ h => h) (hk U2 fun _ h => h)

end
end Go.Proofs.Ytielcgplbnlgbaa
