/- Views: what is written no more may be seen as fixed; the frame of a call; calls of functions that write nothing. -/
import Derived.Test.YtielcgplbnlgbaaMl12
set_option linter.unusedVariables false
set_option linter.unusedSimpArgs false
namespace Go.Proofs.Ytielcgplbnlgbaa

def St.le (σ1 σ : St) : Prop := ∀ l o, σ1 l = some o → σ l = some o
theorem St.le_refl (σ : St) : σ.le σ := fun _ _ h => h
theorem St.none_le (σ : St) : St.none.le σ := fun _ _ h => by simp [St.none] at h
theorem St.le_set {σ1 σ : St} {l : Nat} {o : MObj} (h : σ1.le σ) (hl : σ1 l = Option.none) : σ1.le (σ.set l o) := fun k q hk => by
  by_cases e : k = l
  · subst e; rw [hl] at hk; cases hk
  · rw [set_miss _ _ _ _ e]; exact h k q hk
theorem St.set_le_set {σ1 σ : St} {l : Nat} {o : MObj} (h : σ1.le σ) : (σ1.set l o).le (σ.set l o) := fun k q hk => by
  by_cases e : k = l
  · subst e; rw [set_hit] at hk ⊢; exact hk
  · rw [set_miss _ _ _ _ e] at hk ⊢; exact h k q hk
theorem St.set_le {σ1 σ : St} {l : Nat} {o : MObj} (h : σ1.le σ) (hl : σ l = some o) : (σ1.set l o).le σ := fun k q hk => by
  by_cases e : k = l
  · subst e; rw [set_hit] at hk; rw [hl]; exact hk
  · rw [set_miss _ _ _ _ e] at hk; exact h k q hk

theorem R_le {x y : St} : R (x.le y) = x.le y := rfl
attribute [go_sem] R_le
/-- What holds of the store's part σv may be seen as fixed. -/
inductive View (σ : St) : MV → MV → Prop where
  | same (m : MV) : View σ m m
  | junk (m : MV) : View σ m .junk
  | nil (e : Nat) (t : Bool) : View σ .nils (.lst e [] t)
  | tight (e : Nat) (xs : List (List MV)) : View σ (.lst e xs true) (.lst e xs false)
  | vec {l lo n : Nat} {t : TypeId} {e : Nat} {xs : List (List MV)} (h : σ l = some (.row t e xs)) (hn : lo + n ≤ xs.length) : View σ (.vec e l lo n) (.lst e ((xs.drop lo).take n) false)
  | vecAll {l n : Nat} {t : TypeId} {e : Nat} {xs : List (List MV)} (h : σ l = some (.row t e xs)) (hn : n = xs.length) : View σ (.vec e l 0 n) (.lst e xs false)
  | ptr {l i o : Nat} {t : TypeId} {e : Nat} {xs : List (List MV)} (h : σ l = some (.row t e xs)) (hn : i < xs.length) : View σ (.ptr l i o) (.cptr ((xs.getD i []).drop o))
  | agg {ms ms' : List MV} (h : ms.length = ms'.length) (hc : ∀ (i : Nat) (m : MV), ms'[i]? = some m → m.isCell = true) (hv : ∀ (i : Nat) (m m' : MV), ms[i]? = some m → ms'[i]? = some m' → View σ m m') : View σ (.agg ms) (.agg ms')
  | tup {ms ms' : List MV} (h : ms.length = ms'.length) (hv : ∀ (i : Nat) (m m' : MV), ms[i]? = some m → ms'[i]? = some m' → View σ m m') : View σ (.tup ms) (.tup ms')

/-- The snapshots hold all that the store's blocks hold. -/
def Shot (Φ Φ' : Phi) (w : World) (σ : St) : Prop := Φ.le Φ' ∧ ∀ l o p R, σ l = some o → Φ.obj l = some p → p.blk = some R → ∀ off v, w.cell? ⟨R, off, none⟩ = some v → Φ'.snap ⟨R, off, none⟩ = some v

theorem OwnOk.cells {Φ : Phi} {w : World} {l : Nat} {t : TypeId} {e : Nat} {xs : List (List MV)} (h : OwnOk Φ w l (.row t e xs)) {p : Place} (hp : Φ.obj l = some p) {R : Nat} (hR : p.blk = some R) :
    ∀ (i : Nat) (x : List MV) (j : Nat) (m : MV), xs[i]? = some x → x[j]? = some m → m.isCell = true ∧ ∃ v, w.cell? ⟨R, p.bo + (i * e + j), none⟩ = some v ∧ Rel Φ v m := by
  obtain ⟨p', hp', he, h1, h2, h3, h4⟩ := h
  rw [hp] at hp'; cases hp'
  rw [hR] at h4
  obtain ⟨c, fz, hc, hf, hs, hv⟩ := h4
  intro i x j m hx hm
  obtain ⟨hcell, v, hv1, hv2⟩ := hv i x j m hx hm
  exact ⟨hcell, v, by simpa [World.cell?, hc] using hv1, hv2⟩

theorem OwnOk.cellsAt {Φ Φ' : Phi} {w : World} {l : Nat} {t : TypeId} {e : Nat} {xs : List (List MV)} (h : OwnOk Φ w l (.row t e xs)) {p : Place} (hp : Φ.obj l = some p) {R : Nat} (hR : p.blk = some R)
    (hle : Φ.le Φ') (hs : ∀ off v, w.cell? ⟨R, off, none⟩ = some v → Φ'.snap ⟨R, off, none⟩ = some v) : CellsAt Φ' R p.bo e xs := by
  refine ⟨h.e_eq, fun i j => (w.cell? ⟨R, p.bo + (i * e + j), none⟩).getD undef, fun i x j m hx hm => ?_⟩
  obtain ⟨hcell, v, hv1, hv2⟩ := h.cells hp hR i x j m hx hm
  have := hs _ _ hv1
  simp only [Nat.add_assoc] at this hv1 ⊢
  refine ⟨hcell, ?_, ?_⟩
  · rw [this, hv1]; rfl
  · rw [hv1]; exact hv2.mono hle

theorem view_vec {Φ Φ' : Phi} {w : World} {σ : St} (hi : Inv Φ w σ) (hs : Shot Φ Φ' w σ) {l lo n : Nat} {t : TypeId} {e : Nat} {xs : List (List MV)} (h : σ l = some (.row t e xs)) (hn : lo + n ≤ xs.length) {v : Value} (r : Rel Φ v (.vec e l lo n)) :
    Rel Φ' v (.lst e ((xs.drop lo).take n) false) := by
  obtain ⟨a, cap, p, rfl, hp, he, hcap, hn', hva⟩ := r.inv_vec
  have own := hi.own l _ h
  obtain ⟨p', hp', he', h1, h2, h3, h4⟩ := hi.own l _ h
  rw [hp] at hp'; cases hp'
  refine Rel.mk_lst (by simp; omega) hn' (by omega) (by simp) (fun ha => ?_) (fun h0 => ?_)
  · rcases hva with ⟨R, hR, ha'⟩ | hva
    · rw [ha'] at ha; cases ha
    · exact hva
  · rcases hva with ⟨R, hR, ha⟩ | hva
    · subst ha
      refine ⟨_, _, rfl, ?_⟩
      rw [he]
      exact ((own.cellsAt hp hR hs.1 (hs.2 l _ p R h hp hR)).drop).take
    · omega

theorem View.rel {Φ Φ' : Phi} {w : World} {σ : St} (hi : Inv Φ w σ) (hs : Shot Φ Φ' w σ) {m m' : MV} (h : View σ m m') : ∀ {v : Value}, Rel Φ v m → Rel Φ' v m' := by
  induction h with
  | same m => intro v r; exact r.mono hs.1
  | junk m => intro v r; exact .junk v
  | nil e t => intro v r; cases r; exact .lstn e t
  | tight e xs => intro v r; exact ((Weak.tight e xs).rel r).mono hs.1
  | vec h hn => intro v r; exact view_vec hi hs h hn r
  | @vecAll l n t e xs h hn =>
    intro v r
    have := view_vec hi hs h (lo := 0) (n := n) (by omega) r
    subst hn
    simpa using this
  | @ptr l i o t e xs h hn =>
    intro v r
    obtain ⟨p, R, hp, hR, rfl⟩ := r.inv_ptr
    have own := hi.own l _ h
    obtain ⟨p', hp', he', -⟩ := hi.own l _ h
    rw [hp] at hp'; cases hp'
    obtain ⟨-, vs, hv⟩ := own.cellsAt hp hR hs.1 (hs.2 l _ p R h hp hR)
    have hx : xs[i]? = some (xs.getD i []) := by simp [List.getD, List.getElem?_eq_getElem hn]
    refine .cptr (fun j => vs i (o + j)) (fun j m hm => ?_) (fun j m hm => ?_)
    all_goals
      rw [List.getElem?_drop] at hm
      have := hv i _ _ m hx hm
    · refine ⟨this.1, ?_⟩
      rw [he']
      simpa [Nat.add_assoc] using this.2.1
    · exact this.2.2
  | agg h hc hv ih =>
    intro v r
    obtain ⟨cs, rfl, h1, h2, h3⟩ := r.inv_agg
    refine .agg (by omega) hc (fun i m' hm' => ?_)
    have hlt := (List.getElem?_eq_some_iff.1 hm').1
    rename_i ms ms'
    obtain ⟨m, hm⟩ : ∃ m, ms[i]? = some m := ⟨_, List.getElem?_eq_getElem (by omega)⟩
    exact ih i m m' hm hm' (h3 i m hm)
  | tup h hv ih =>
    intro v r
    obtain ⟨cs, rfl, h1, h3⟩ := r.inv_tup
    refine .tup (by omega) (fun i m' hm' => ?_)
    have hlt := (List.getElem?_eq_some_iff.1 hm').1
    rename_i ms ms'
    obtain ⟨m, hm⟩ : ∃ m, ms[i]? = some m := ⟨_, List.getElem?_eq_getElem (by omega)⟩
    exact ih i m m' hm hm' (h3 i m hm)

/-- The snapshots with all of some blocks. -/
def Phi.shot (Φ : Phi) (w : World) (B : Nat → Prop) [DecidablePred B] : Phi := { Φ with snap := fun a => match Φ.snap a with | some v => some v | none => if B a.block then w.cell? a else none }

theorem shot_le (Φ : Phi) (w : World) (B : Nat → Prop) [DecidablePred B] : Φ.le (Φ.shot w B) := ⟨fun a v h => by simp [Phi.shot, h], fun _ _ h => h⟩

theorem shot_snap {Φ : Phi} {w : World} {B : Nat → Prop} [DecidablePred B] {a : Addr} {v : Value} (h : (Φ.shot w B).snap a = some v) : Φ.snap a = some v ∨ (B a.block ∧ w.cell? a = some v) := by
  simp only [Phi.shot] at h
  split at h
  · rename_i u hu; left; rw [hu, ← h]
  · split at h
    · rename_i hb; exact .inr ⟨hb, h⟩
    · cases h

theorem shot_of {Φ : Phi} {w : World} {σ : St} (hi : Inv Φ w σ) {B : Nat → Prop} [DecidablePred B] {σv : St} (hle : σv.le σ) (hB : ∀ R, Owned Φ σv R → B R) : Shot Φ (Φ.shot w B) w σv := by
  refine ⟨shot_le _ _ _, fun l o p R hl hp hR off v hv => ?_⟩
  have hb : B R := hB R ⟨l, o, p, hl, hp, hR⟩
  simp only [Phi.shot]
  split
  · rename_i u hu
    have := hi.snap _ _ hu
    rw [hv] at this
    exact this.symm
  · rw [if_pos hb]; exact hv

/-- A part of the store becomes fixed. -/
theorem Ghost.freeze {n : Nat} {l l1 : List (Nat × MV)} {d : List (FuncId × List MV)} {σ σ1 : St} (σv : St) (hle : σv.le σ) (h1 : σ1.le σ) (hd : ∀ k o, σ1 k = some o → σv k = none)
    (h : ∀ p, p ∈ l1 → View σv (lget l p.1) p.2) : Ghost ⟨n, l, d⟩ σ ⟨n, l1, d⟩ σ1 := by
  refine ⟨rfl, fun Φ w vs hi hr => ?_⟩
  classical
  have hs := shot_of (Φ := Φ) hi (B := Owned Φ σv) hle (fun R h => h)
  refine ⟨Φ.shot w (Owned Φ σv), ⟨?_, ?_, ?_, ?_, hi.fresh⟩, ⟨hr.1, ?_⟩, ⟨hs.1, rfl, rfl, rfl, Nat.le_refl _, Nat.le_refl _, fun _ _ _ => rfl, ?_, fun l o h => .inl ⟨o, h1 l o h⟩, fun R hR => .inl ?_⟩⟩
  · exact fun k o hk => (hi.own k o (h1 k o hk)).mono hs.1 (fun _ _ _ _ => rfl)
  · exact fun k k' o o' p p' R a b c e => hi.inj k k' o o' p p' R (h1 k o a) (h1 k' o' b) c e
  · intro a v hv
    rcases shot_snap hv with q | ⟨-, q⟩
    · exact hi.snap a v q
    · exact q
  · intro k o p R a v hk hp hR hv
    rcases shot_snap hv with q | ⟨⟨k2, o2, p2, q1, q2, q3⟩, -⟩
    · exact hi.apart k o p R a v (h1 k o hk) hp hR q
    · intro e
      rw [e] at q3
      have := hi.inj k k2 o o2 p p2 R (h1 k o hk) (hle k2 o2 q1) hp q2 hR q3
      subst this
      rw [hd k o hk] at q1
      cases q1
  · intro t
    show Rel _ _ (lget l1 t)
    have key : ∀ l1' : List (Nat × MV), (∀ p, p ∈ l1' → View σv (lget l p.1) p.2) → View σv (lget l t) (lget l1' t) := by
      intro l1'
      induction l1' with
      | nil => intro _; exact .junk _
      | cons q r ih =>
        obtain ⟨k, v⟩ := q
        intro h
        simp only [lget]
        split
        · rename_i ht; subst ht; exact h (t, v) (by simp)
        · exact ih fun q hq => h q (by simp [hq])
    exact (key l1 h).rel (hi.less hle) hs (hr.2 t)
  · intro a v hv
    rcases shot_snap hv with q | ⟨⟨k, o, p, q1, q2, q3⟩, -⟩
    · exact .inl q
    · exact .inr (.inr ⟨k, o, p, hle k o q1, q2, q3⟩)
  · obtain ⟨k, o, p, q1, q2, q3⟩ := hR
    exact ⟨k, o, p, h1 k o q1, q2, q3⟩

/-- An object whose cells may be seen as others. -/
def OView (σv : St) (o o1 : MObj) : Prop := o1 = o ∨ ∃ t e xs xs1, o = .row t e xs ∧ o1 = .row t e xs1 ∧ xs.length = xs1.length ∧ ∀ (i : Nat) (x x1 : List MV), xs[i]? = some x → xs1[i]? = some x1 → x.length = x1.length ∧
  ∀ (j : Nat) (m m1 : MV), x[j]? = some m → x1[j]? = some m1 → m1 = m ∨ (m1.isCell = true ∧ View σv m m1)

theorem OView.own {Φ Φ' : Phi} {w : World} {σv : St} {k : Nat} {o o1 : MObj} (hv : OView σv o o1) (h : OwnOk Φ w k o) (hle : Φ.le Φ') (hi : Inv Φ w σv) (hs : Shot Φ Φ' w σv) : OwnOk Φ' w k o1 := by
  rcases hv with rfl | ⟨t, e, xs, xs1, rfl, rfl, hl, hx⟩
  · exact h.mono hle (fun _ _ _ _ => rfl)
  · obtain ⟨p, hp, hpe, q1, q2, q3, q4⟩ := h
    have get : ∀ (i : Nat) (x1 : List MV), xs1[i]? = some x1 → ∃ x, xs[i]? = some x := fun i x1 h1 => by
      have := (List.getElem?_eq_some_iff.1 h1).1
      exact ⟨xs[i]'(by omega), by simp⟩
    refine ⟨p, hle.obj _ _ hp, hpe, by omega, q2, fun i x1 h1 => ?_, ?_⟩
    · obtain ⟨x, hx0⟩ := get i x1 h1
      rw [← (hx i x x1 hx0 h1).1]
      exact q3 i x hx0
    · cases hb : p.blk with
      | none => rw [hb] at q4; exact q4
      | some R =>
        rw [hb] at q4
        obtain ⟨c, fz, k1, k2, k3, k4⟩ := q4
        refine ⟨c, fz, k1, k2, k3, fun i x1 j m1 h1 hm1 => ?_⟩
        obtain ⟨x, hx0⟩ := get i x1 h1
        obtain ⟨hlen, hview⟩ := hx i x x1 hx0 h1
        have hj := (List.getElem?_eq_some_iff.1 hm1).1
        obtain ⟨m, hm⟩ : ∃ m, x[j]? = some m := ⟨x[j]'(by omega), by simp⟩
        obtain ⟨hc0, v, hcv, hrel⟩ := k4 i x j m hx0 hm
        rcases hview j m m1 hm hm1 with rfl | ⟨hc, hv⟩
        · exact ⟨hc0, v, hcv, hrel.mono hle⟩
        · exact ⟨hc, v, hcv, hv.rel hi hs hrel⟩

/-- A part of the store becomes fixed, also as what other objects hold. -/
theorem Ghost.freezeIn {n : Nat} {l l1 : List (Nat × MV)} {d : List (FuncId × List MV)} {σ σ1 : St} (σv : St) (hle : σv.le σ) (h1 : ∀ k o1, σ1 k = some o1 → ∃ o, σ k = some o ∧ OView σv o o1) (hd : ∀ k o, σ1 k = some o → σv k = none)
    (h : ∀ p, p ∈ l1 → View σv (lget l p.1) p.2) : Ghost ⟨n, l, d⟩ σ ⟨n, l1, d⟩ σ1 := by
  refine ⟨rfl, fun Φ w vs hi hr => ?_⟩
  classical
  have hs := shot_of (Φ := Φ) hi (B := Owned Φ σv) hle (fun R h => h)
  refine ⟨Φ.shot w (Owned Φ σv), ⟨?_, ?_, ?_, ?_, hi.fresh⟩, ⟨hr.1, ?_⟩, ⟨hs.1, rfl, rfl, rfl, Nat.le_refl _, Nat.le_refl _, fun _ _ _ => rfl, ?_, fun l o h => ?_, fun R hR => .inl ?_⟩⟩
  · intro k o1 hk
    obtain ⟨o, ho, hv⟩ := h1 k o1 hk
    exact hv.own (hi.own k o ho) hs.1 (hi.less hle) hs
  · intro k k' o o' p p' R a b c e
    obtain ⟨q, hq, -⟩ := h1 k o a
    obtain ⟨q', hq', -⟩ := h1 k' o' b
    exact hi.inj k k' q q' p p' R hq hq' c e
  · intro a v hv
    rcases shot_snap hv with q | ⟨-, q⟩
    · exact hi.snap a v q
    · exact q
  · intro k o p R a v hk hp hR hv
    obtain ⟨o0, ho0, -⟩ := h1 k o hk
    rcases shot_snap hv with q | ⟨⟨k2, o2, p2, q1, q2, q3⟩, -⟩
    · exact hi.apart k o0 p R a v ho0 hp hR q
    · intro e
      rw [e] at q3
      have := hi.inj k k2 o0 o2 p p2 R ho0 (hle k2 o2 q1) hp q2 hR q3
      subst this
      rw [hd k o hk] at q1
      cases q1
  · intro t
    show Rel _ _ (lget l1 t)
    have key : ∀ l1' : List (Nat × MV), (∀ p, p ∈ l1' → View σv (lget l p.1) p.2) → View σv (lget l t) (lget l1' t) := by
      intro l1'
      induction l1' with
      | nil => intro _; exact .junk _
      | cons q r ih =>
        obtain ⟨k, v⟩ := q
        intro h
        simp only [lget]
        split
        · rename_i ht; subst ht; exact h (t, v) (by simp)
        · exact ih fun q hq => h q (by simp [hq])
    exact (key l1 h).rel (hi.less hle) hs (hr.2 t)
  · intro a v hv
    rcases shot_snap hv with q | ⟨⟨k, o, p, q1, q2, q3⟩, -⟩
    · exact .inl q
    · exact .inr (.inr ⟨k, o, p, hle k o q1, q2, q3⟩)
  · obtain ⟨o0, ho0, -⟩ := h1 l o h
    exact .inl ⟨o0, ho0⟩
  · obtain ⟨k, o, p, q1, q2, q3⟩ := hR
    obtain ⟨o0, ho0, -⟩ := h1 k o q1
    exact ⟨k, o0, p, ho0, q2, q3⟩

/-- Less known of the slots, less of the store. -/
theorem Ghost.less {n : Nat} {l l1 : List (Nat × MV)} {d : List (FuncId × List MV)} {σ σ1 : St} (h : ∀ p, p ∈ l1 → Weak (lget l p.1) p.2) (hs : σ1.le σ) : Ghost ⟨n, l, d⟩ σ ⟨n, l1, d⟩ σ1 :=
  (Ghost.keep h).trans (Ghost.drop hs)

end Go.Proofs.Ytielcgplbnlgbaa
