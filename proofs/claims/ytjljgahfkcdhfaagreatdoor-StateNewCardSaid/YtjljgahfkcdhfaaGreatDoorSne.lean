/- Parts of the proof, joined. Each part says what it proves, and under which conditions it does: those that its theorems name. -/
import Derived.Test.YtjljgahfkcdhfaaGreatDoorSnd
set_option linter.unusedVariables false
set_option linter.unusedSimpArgs false
set_option maxHeartbeats 4000000
section
namespace Go.Proofs.YtjljgahfkcdhfaaGreatDoor
def St.le (σ1 σ : St) : Prop := ∀ l o, σ1 l = some o → σ l = some o
theorem St.le_refl (σ : St) : σ.le σ := fun _ _ h => h
theorem St.none_le (σ : St) : St.none.le σ := fun _ _ h => by simp [St.none] at h
theorem St.set_le {σ1 σ : St} {l : Nat} {o : MObj} (h : σ1.le σ) (hl : σ l = some o) : (σ1.set l o).le σ := fun k q hk => by
 by_cases e : k = l
 ·subst e; rw [set_hit] at hk; rw [hl]; exact hk
 ·rw [set_miss _ _ _ _ e] at hk; exact h k q hk
theorem R_le {x y : St} : R (x.le y) = x.le y := rfl
attribute [go_sem] R_le
inductive View (σ : St) : MV → MV → Prop where
 | same (m : MV) : View σ m m
 | junk (m : MV) : View σ m .junk
 | nil (e : Nat) (t : Bool) : View σ .nils (.lst e [] t)
 | tight (e : Nat) (xs : List (List MV)) : View σ (.lst e xs true) (.lst e xs false)
 | vec {l lo n : Nat} {t : TypeId} {e : Nat} {xs : List (List MV)} (h : σ l = some (.row t e xs)) (hn : lo + n ≤ xs.length) : View σ (.vec e l lo n) (.lst e ((xs.drop lo).take n) false)
 | vecAll {l n : Nat} {t : TypeId} {e : Nat} {xs : List (List MV)} (h : σ l = some (.row t e xs)) (hn : n = xs.length) : View σ (.vec e l 0 n) (.lst e xs false)
 | ptr {l i o : Nat} {t : TypeId} {e : Nat} {xs : List (List MV)} (h : σ l = some (.row t e xs)) (hn : i < xs.length) : View σ (.ptr l i o) (.cptr ((xs.getD i []).drop o))
 | agg {ms ms' : List MV} (h : ms.length = ms'.length) (hc : ∀ (i : Nat) (m : MV), ms'[i]? = some m → m.isCell = true) (hv : ∀ (i : Nat) (m m' : MV), ms[i]? = some m → ms'[i]? = some m' → View σ m m') : View σ (.agg ms) (.agg ms')
 | tup {ms ms' : List MV} (h : ms.length = ms'.length) (hv : ∀ (i : Nat) (m m' : MV), ms[i]? = some m → ms'[i]? = some m' → View σ m m') : View σ (.tup ms) (.tup ms')
def Shot (Φ Φ' : Phi) (w : World) (σ : St) : Prop := Φ.le Φ' ∧ ∀ l o p R, σ l = some o → Φ.obj l = some p → p.blk = some R → ∀ off v, w.cell? ⟨R, off, none⟩ = some v → Φ'.snap ⟨R, off, none⟩ = some v
theorem OwnOk.cells {Φ : Phi} {w : World} {l : Nat} {t : TypeId} {e : Nat} {xs : List (List MV)} (h : OwnOk Φ w l (.row t e xs)) {p : Place} (hp : Φ.obj l = some p) {R : Nat} (hR : p.blk = some R) :
  ∀ (i : Nat) (x : List MV) (j : Nat) (m : MV), xs[i]? = some x → x[j]? = some m → m.isCell = true ∧ ∃ v, w.cell? ⟨R, p.bo + (i * e + j), none⟩ = some v ∧ Rel Φ v m := by
 obtain ⟨p', hp', he, h1, h2, h3, h4⟩ := h
 rw [hp] at hp'; cases hp'
 rw [hR] at h4
 obtain ⟨c, fz, hc, hf, hs, hv⟩ := h4
 intro i x j m hx hm
 obtain ⟨hcell, v, hv1, hv2⟩ := hv i x j m hx hm
 exact ⟨hcell, v, by simpa [World.cell?, hc] using hv1, hv2⟩
theorem OwnOk.cellsAt {Φ Φ' : Phi} {w : World} {l : Nat} {t : TypeId} {e : Nat} {xs : List (List MV)} (h : OwnOk Φ w l (.row t e xs)) {p : Place} (hp : Φ.obj l = some p) {R : Nat} (hR : p.blk = some R)
  (hle : Φ.le Φ') (hs : ∀ off v, w.cell? ⟨R, off, none⟩ = some v → Φ'.snap ⟨R, off, none⟩ = some v) : CellsAt Φ' R p.bo e xs := by
 refine ⟨h.e_eq, fun i j => (w.cell? ⟨R, p.bo + (i * e + j), none⟩).getD undef, fun i x j m hx hm => ?_⟩
 obtain ⟨hcell, v, hv1, hv2⟩ := h.cells hp hR i x j m hx hm
 have := hs _ _ hv1
 simp only [Nat.add_assoc] at this hv1 ⊢
 refine ⟨hcell, ?_, ?_⟩
 ·rw [this, hv1]; rfl
 ·rw [hv1]; exact hv2.mono hle
theorem view_vec {Φ Φ' : Phi} {w : World} {σ : St} (hi : Inv Φ w σ) (hs : Shot Φ Φ' w σ) {l lo n : Nat} {t : TypeId} {e : Nat} {xs : List (List MV)} (h : σ l = some (.row t e xs)) (hn : lo + n ≤ xs.length) {v : Value} (r : Rel Φ v (.vec e l lo n)) :
  Rel Φ' v (.lst e ((xs.drop lo).take n) false) := by
 obtain ⟨a, cap, p, rfl, hp, he, hcap, hn', hva⟩ := r.inv_vec
 have own := hi.own l _ h
 obtain ⟨p', hp', he', h1, h2, h3, h4⟩ := hi.own l _ h
 rw [hp] at hp'; cases hp'
 refine Rel.mk_lst (by simp; omega) hn' (by omega) (by simp) (fun ha => ?_) (fun h0 => ?_)
 ·rcases hva with ⟨R, hR, ha'⟩ | hva
  ·rw [ha'] at ha; cases ha
  ·exact hva
 ·rcases hva with ⟨R, hR, ha⟩ | hva
  ·subst ha
   refine ⟨_, _, rfl, ?_⟩
   rw [he]
   exact ((own.cellsAt hp hR hs.1 (hs.2 l _ p R h hp hR)).drop).take
  ·omega
theorem View.rel {Φ Φ' : Phi} {w : World} {σ : St} (hi : Inv Φ w σ) (hs : Shot Φ Φ' w σ) {m m' : MV} (h : View σ m m') : ∀ {v : Value}, Rel Φ v m → Rel Φ' v m' := by
 induction h with
 | same m => intro v r; exact r.mono hs.1
 | junk m => intro v r; exact .junk v
 | nil e t => intro v r; cases r; exact .lstn e t
 | tight e xs => intro v r; exact ((Weak.tight e xs).rel r).mono hs.1
 | vec h hn => intro v r; exact view_vec hi hs h hn r
 | @vecAll l n t e xs h hn =>
  intro v r
  have := view_vec hi hs h (lo := 0) (n := n) (by omega) r
  subst hn
  simpa using this
 | @ptr l i o t e xs h hn =>
  intro v r
  obtain ⟨p, R, hp, hR, rfl⟩ := r.inv_ptr
  have own := hi.own l _ h
  obtain ⟨p', hp', he', -⟩ := hi.own l _ h
  rw [hp] at hp'; cases hp'
  obtain ⟨-, vs, hv⟩ := own.cellsAt hp hR hs.1 (hs.2 l _ p R h hp hR)
  have hx : xs[i]? = some (xs.getD i []) := by simp [List.getD, List.getElem?_eq_getElem hn]
  refine .cptr (fun j => vs i (o + j)) (fun j m hm => ?_) (fun j m hm => ?_)
  all_goals
   rw [List.getElem?_drop] at hm
   have := hv i _ _ m hx hm
  ·refine ⟨this.1, ?_⟩
   rw [he']
   simpa [Nat.add_assoc] using this.2.1
  ·exact this.2.2
 | agg h hc hv ih =>
  intro v r
  obtain ⟨cs, rfl, h1, h2, h3⟩ := r.inv_agg
  refine .agg (by omega) hc (fun i m' hm' => ?_)
  have hlt := (List.getElem?_eq_some_iff.1 hm').1
  rename_i ms ms'
  obtain ⟨m, hm⟩ : ∃ m, ms[i]? = some m := ⟨_, List.getElem?_eq_getElem (by omega)⟩
  exact ih i m m' hm hm' (h3 i m hm)
 | tup h hv ih =>
  intro v r
  obtain ⟨cs, rfl, h1, h3⟩ := r.inv_tup
  refine .tup (by omega) (fun i m' hm' => ?_)
  have hlt := (List.getElem?_eq_some_iff.1 hm').1
  rename_i ms ms'
  obtain ⟨m, hm⟩ : ∃ m, ms[i]? = some m := ⟨_, List.getElem?_eq_getElem (by omega)⟩
  exact ih i m m' hm hm' (h3 i m hm)
def Phi.shot (Φ : Phi) (w : World) (B : Nat → Prop) [DecidablePred B] : Phi := { Φ with snap := fun a => match Φ.snap a with | some v => some v | none => if B a.block then w.cell? a else none }
theorem shot_le (Φ : Phi) (w : World) (B : Nat → Prop) [DecidablePred B] : Φ.le (Φ.shot w B) := ⟨fun a v h => by simp [Phi.shot, h], fun _ _ h => h, rfl⟩
theorem shot_snap {Φ : Phi} {w : World} {B : Nat → Prop} [DecidablePred B] {a : Addr} {v : Value} (h : (Φ.shot w B).snap a = some v) : Φ.snap a = some v ∨ (B a.block ∧ w.cell? a = some v) := by
 simp only [Phi.shot] at h
 split at h
 ·rename_i u hu; left; rw [hu, ← h]
 ·split at h
  ·rename_i hb; exact .inr ⟨hb, h⟩
  ·cases h
theorem shot_of {Φ : Phi} {w : World} {σ : St} (hi : Inv Φ w σ) {B : Nat → Prop} [DecidablePred B] {σv : St} (hle : σv.le σ) (hB : ∀ R, Owned Φ σv R → B R) : Shot Φ (Φ.shot w B) w σv := by
 refine ⟨shot_le _ _ _, fun l o p R hl hp hR off v hv => ?_⟩
 have hb : B R := hB R ⟨l, o, p, hl, hp, hR⟩
 simp only [Phi.shot]
 split
 ·rename_i u hu
  have := hi.snap _ _ hu
  rw [hv] at this
  exact this.symm
 ·rw [if_pos hb]; exact hv
theorem Ghost.freeze {n : Nat} {l l1 : List (Nat × MV)} {d : List (FuncId × List MV)} {σ σ1 : St} (σv : St) (hle : σv.le σ) (h1 : σ1.le σ) (hd : ∀ k o, σ1 k = some o → σv k = none)
  (h : ∀ p, p ∈ l1 → View σv (lget l p.1) p.2) : Ghost ⟨n, l, d⟩ σ ⟨n, l1, d⟩ σ1 := by
 refine ⟨rfl, fun Φ w vs hi hr => ?_⟩
 classical
 have hs := shot_of (Φ := Φ) hi (B := Owned Φ σv) hle (fun R h => h)
 refine ⟨Φ.shot w (Owned Φ σv), ⟨?_, ?_, ?_, ?_, hi.fresh.1, fun g i v q => hs.1.snap _ _ (hi.fresh.2 g i v q)⟩, ⟨hr.1, ?_⟩, ⟨hs.1, rfl, rfl, rfl, Nat.le_refl _, Nat.le_refl _, fun _ _ _ => rfl, ?_, fun l o h => .inl ⟨o, h1 l o h⟩, fun R hR => .inl ?_⟩⟩
 ·exact fun k o hk => (hi.own k o (h1 k o hk)).mono hs.1 (fun _ _ _ _ => rfl)
 ·exact fun k k' o o' p p' R a b c e => hi.inj k k' o o' p p' R (h1 k o a) (h1 k' o' b) c e
 ·intro a v hv
  rcases shot_snap hv with q | ⟨-, q⟩
  ·exact hi.snap a v q
  ·exact q
 ·intro k o p R a v hk hp hR hv
  rcases shot_snap hv with q | ⟨⟨k2, o2, p2, q1, q2, q3⟩, -⟩
  ·exact hi.apart k o p R a v (h1 k o hk) hp hR q
  ·intro e
   rw [e] at q3
   have := hi.inj k k2 o o2 p p2 R (h1 k o hk) (hle k2 o2 q1) hp q2 hR q3
   subst this
   rw [hd k o hk] at q1
   cases q1
 ·intro t
  show Rel _ _ (lget l1 t)
  have key : ∀ l1' : List (Nat × MV), (∀ p, p ∈ l1' → View σv (lget l p.1) p.2) → View σv (lget l t) (lget l1' t) := by
   intro l1'
   induction l1' with
   | nil => intro _; exact .junk _
   | cons q r ih =>
    obtain ⟨k, v⟩ := q
    intro h
    simp only [lget]
    split
    ·rename_i ht; subst ht; exact h (t, v) (by simp)
    ·exact ih fun q hq => h q (by simp [hq])
  exact (key l1 h).rel (hi.less hle) hs (hr.2 t)
 ·intro a v hv
  rcases shot_snap hv with q | ⟨⟨k, o, p, q1, q2, q3⟩, -⟩
  ·exact .inl q
  ·exact .inr (.inr ⟨k, o, p, hle k o q1, q2, q3⟩)
 ·obtain ⟨k, o, p, q1, q2, q3⟩ := hR
  exact ⟨k, o, p, h1 k o q1, q2, q3⟩
def OView (σv : St) (o o1 : MObj) : Prop := o1 = o ∨ ∃ t e xs xs1, o = .row t e xs ∧ o1 = .row t e xs1 ∧ xs.length = xs1.length ∧ ∀ (i : Nat) (x x1 : List MV), xs[i]? = some x → xs1[i]? = some x1 → x.length = x1.length ∧
 ∀ (j : Nat) (m m1 : MV), x[j]? = some m → x1[j]? = some m1 → m1 = m ∨ (m1.isCell = true ∧ View σv m m1)
theorem OView.own {Φ Φ' : Phi} {w : World} {σv : St} {k : Nat} {o o1 : MObj} (hv : OView σv o o1) (h : OwnOk Φ w k o) (hle : Φ.le Φ') (hi : Inv Φ w σv) (hs : Shot Φ Φ' w σv) : OwnOk Φ' w k o1 := by
 rcases hv with rfl | ⟨t, e, xs, xs1, rfl, rfl, hl, hx⟩
 ·exact h.mono hle (fun _ _ _ _ => rfl)
 ·obtain ⟨p, hp, hpe, q1, q2, q3, q4⟩ := h
  have get : ∀ (i : Nat) (x1 : List MV), xs1[i]? = some x1 → ∃ x, xs[i]? = some x := fun i x1 h1 => by
   have := (List.getElem?_eq_some_iff.1 h1).1
   exact ⟨xs[i]'(by omega), by simp⟩
  refine ⟨p, hle.obj _ _ hp, hpe, by omega, q2, fun i x1 h1 => ?_, ?_⟩
  ·obtain ⟨x, hx0⟩ := get i x1 h1
   rw [← (hx i x x1 hx0 h1).1]
   exact q3 i x hx0
  ·cases hb : p.blk with
   | none => rw [hb] at q4; exact q4
   | some R =>
    rw [hb] at q4
    obtain ⟨c, fz, k1, k2, k3, k4⟩ := q4
    refine ⟨c, fz, k1, k2, k3, fun i x1 j m1 h1 hm1 => ?_⟩
    obtain ⟨x, hx0⟩ := get i x1 h1
    obtain ⟨hlen, hview⟩ := hx i x x1 hx0 h1
    have hj := (List.getElem?_eq_some_iff.1 hm1).1
    obtain ⟨m, hm⟩ : ∃ m, x[j]? = some m := ⟨x[j]'(by omega), by simp⟩
    obtain ⟨hc0, v, hcv, hrel⟩ := k4 i x j m hx0 hm
    rcases hview j m m1 hm hm1 with rfl | ⟨hc, hv⟩
    ·exact ⟨hc0, v, hcv, hrel.mono hle⟩
    ·exact ⟨hc, v, hcv, hv.rel hi hs hrel⟩
theorem Ghost.freezeIn {n : Nat} {l l1 : List (Nat × MV)} {d : List (FuncId × List MV)} {σ σ1 : St} (σv : St) (hle : σv.le σ) (h1 : ∀ k o1, σ1 k = some o1 → ∃ o, σ k = some o ∧ OView σv o o1) (hd : ∀ k o, σ1 k = some o → σv k = none)
  (h : ∀ p, p ∈ l1 → View σv (lget l p.1) p.2) : Ghost ⟨n, l, d⟩ σ ⟨n, l1, d⟩ σ1 := by
 refine ⟨rfl, fun Φ w vs hi hr => ?_⟩
 classical
 have hs := shot_of (Φ := Φ) hi (B := Owned Φ σv) hle (fun R h => h)
 refine ⟨Φ.shot w (Owned Φ σv), ⟨?_, ?_, ?_, ?_, hi.fresh.1, fun g i v q => hs.1.snap _ _ (hi.fresh.2 g i v q)⟩, ⟨hr.1, ?_⟩, ⟨hs.1, rfl, rfl, rfl, Nat.le_refl _, Nat.le_refl _, fun _ _ _ => rfl, ?_, fun l o h => ?_, fun R hR => .inl ?_⟩⟩
 ·intro k o1 hk
  obtain ⟨o, ho, hv⟩ := h1 k o1 hk
  exact hv.own (hi.own k o ho) hs.1 (hi.less hle) hs
 ·intro k k' o o' p p' R a b c e
  obtain ⟨q, hq, -⟩ := h1 k o a
  obtain ⟨q', hq', -⟩ := h1 k' o' b
  exact hi.inj k k' q q' p p' R hq hq' c e
 ·intro a v hv
  rcases shot_snap hv with q | ⟨-, q⟩
  ·exact hi.snap a v q
  ·exact q
 ·intro k o p R a v hk hp hR hv
  obtain ⟨o0, ho0, -⟩ := h1 k o hk
  rcases shot_snap hv with q | ⟨⟨k2, o2, p2, q1, q2, q3⟩, -⟩
  ·exact hi.apart k o0 p R a v ho0 hp hR q
  ·intro e
   rw [e] at q3
   have := hi.inj k k2 o0 o2 p p2 R ho0 (hle k2 o2 q1) hp q2 hR q3
   subst this
   rw [hd k o hk] at q1
   cases q1
 ·intro t
  show Rel _ _ (lget l1 t)
  have key : ∀ l1' : List (Nat × MV), (∀ p, p ∈ l1' → View σv (lget l p.1) p.2) → View σv (lget l t) (lget l1' t) := by
   intro l1'
   induction l1' with
   | nil => intro _; exact .junk _
   | cons q r ih =>
    obtain ⟨k, v⟩ := q
    intro h
    simp only [lget]
    split
    ·rename_i ht; subst ht; exact h (t, v) (by simp)
    ·exact ih fun q hq => h q (by simp [hq])
  exact (key l1 h).rel (hi.less hle) hs (hr.2 t)
 ·intro a v hv
  rcases shot_snap hv with q | ⟨⟨k, o, p, q1, q2, q3⟩, -⟩
  ·exact .inl q
  ·exact .inr (.inr ⟨k, o, p, hle k o q1, q2, q3⟩)
 ·obtain ⟨o0, ho0, -⟩ := h1 l o h
  exact .inl ⟨o0, ho0⟩
 ·obtain ⟨k, o, p, q1, q2, q3⟩ := hR
  obtain ⟨o0, ho0, -⟩ := h1 k o q1
  exact ⟨k, o0, p, ho0, q2, q3⟩
theorem Ghost.less {n : Nat} {l l1 : List (Nat × MV)} {d : List (FuncId × List MV)} {σ σ1 : St} (h : ∀ p, p ∈ l1 → Weak (lget l p.1) p.2) (hs : σ1.le σ) : Ghost ⟨n, l, d⟩ σ ⟨n, l1, d⟩ σ1 :=
 (Ghost.keep h).trans (Ghost.drop hs)
end Go.Proofs.YtjljgahfkcdhfaaGreatDoor
end

section
namespace Go.Proofs.YtjljgahfkcdhfaaGreatDoor
theorem Gh.row {n : Nat} {l : List (Nat × MV)} {d : List (FuncId × List MV)} {σ : St} {K : FR → St → Prop} (t : TypeId) (e : Nat) (l1 : Nat → List (Nat × MV))
  (h1 : ∀ k, ∀ p, p ∈ l1 k → lget l p.1 = p.2 ∨ (p.2 = .vec e k 0 0 ∧ (lget l p.1 = .nils ∨ lget l p.1 = .lst e [] true)))
  (h : ∀ k, σ k = none → Gh ⟨n, l1 k, d⟩ (σ.set k (.row t e [])) K) : Gh ⟨n, l, d⟩ σ K := by
 intro Φ w vs hi hr
 obtain ⟨k, hk, hk'⟩ := inv_eq hi
 obtain ⟨v1, v2, -⟩ := virt_row hi (fun _ _ h => h) hk t e none
 have hfr : FRel (Φ.put k ⟨none, 0, e, 0⟩) vs ⟨n, l1 k, d⟩ := by
  refine ⟨hr.1, fun s => ?_⟩
  show Rel _ _ (lget (l1 k) s)
  have key : ∀ l2 : List (Nat × MV), (∀ p, p ∈ l2 → lget l p.1 = p.2 ∨ (p.2 = .vec e k 0 0 ∧ (lget l p.1 = .nils ∨ lget l p.1 = .lst e [] true))) → Rel (Φ.put k ⟨none, 0, e, 0⟩) (vs.getD s undef) (lget l2 s) := by
   intro l2
   induction l2 with
   | nil => intro _; exact .junk _
   | cons q r ih =>
    obtain ⟨j, v⟩ := q
    intro h
    simp only [lget]
    split
    ·rename_i ht
     subst ht
     have hs := hr.2 s
     change Rel Φ _ (lget l s) at hs
     rcases h (s, v) (by simp) with q | ⟨q1, q2 | q2⟩
     ·simp only at q; rw [← q]; exact hs.mono v2.le
     ·simp only at q1 q2
      rw [q2] at hs
      have := hs.inv_nils
      rw [this, q1]
      exact (virt_row hi (fun _ _ h => h) hk t e none).2.2
     ·simp only at q1 q2
      rw [q2] at hs
      obtain ⟨a, cap, hv, -, -, h0, -⟩ := hs.inv_lst
      have hcap : cap = 0 := by simpa using h0 rfl
      subst hcap
      rw [hv, q1]
      exact (virt_row hi (fun _ _ h => h) hk t e a).2.2
    ·exact ih fun q hq => h q (by simp [hq])
  exact key _ (h1 k)
 obtain ⟨f2, σ2, Φ2, e2, k2, i2, r2, s2⟩ := h k hk' _ w vs v1 hfr
 exact ⟨f2, σ2, Φ2, e2, k2, i2, r2, v2.trans s2⟩
def St.over (x y : St) : St := fun l => match x l with | some o => some o | Option.none => y l
def St.minus (x y : St) : St := fun l => match y l with | some _ => Option.none | Option.none => x l
theorem over_some {x y : St} {l : Nat} {o : MObj} (h : (St.over x y) l = some o) : x l = some o ∨ (x l = none ∧ y l = some o) := by
 simp only [St.over] at h
 split at h
 ·rename_i q hq; exact .inl (by rw [hq, h])
 ·rename_i hq; exact .inr ⟨hq, h⟩
theorem minus_some {x y : St} {l : Nat} {o : MObj} (h : (St.minus x y) l = some o) : y l = none ∧ x l = some o := by
 simp only [St.minus] at h
 split at h
 ·cases h
 ·rename_i hq; exact ⟨hq, h⟩
theorem MCalls.frame {P : Program} {g : FuncId} {ms : List MV} {σa σ : St} {Q : MV → St → Prop} (h : MCalls P g ms σa Q) (hle : σa.le σ) :
  MCalls P g ms σ fun v σ1 => ∃ σ', Q v σ' ∧ σ1 = σ'.over (σ.minus σa) ∧ ∀ l o, σ' l = some o → σ l = none ∨ ∃ o', σa l = some o' := by
 refine ⟨h.1, fun Φ w vs hi hr => (h.2 Φ w vs (hi.less hle) hr).mono ?_⟩
 rintro e w' ⟨v, mv, σ', Φ', rfl, r1, i1, s1, hq⟩
 have rest : ∀ l o, (σ.minus σa) l = some o → ∃ p, Φ.obj l = some p ∧ Φ'.obj l = some p ∧ ∀ R, p.blk = some R → R < w.heap.size ∧ ¬ Owned Φ σa R ∧ w'.heap[R]? = w.heap[R]? := by
  intro l o hl
  obtain ⟨q1, q2⟩ := minus_some hl
  obtain ⟨p, hp, hR⟩ := (hi.own l o q2).place
  refine ⟨p, hp, s1.le.obj _ _ hp, fun R hb => ?_⟩
  have hno : ¬ Owned Φ σa R := by
   rintro ⟨l2, o2, p2, u1, u2, u3⟩
   have := hi.inj l l2 o o2 p p2 R q2 (hle _ _ u1) hp u2 hb u3
   subst this
   rw [q1] at u1; cases u1
  exact ⟨hR R hb, hno, s1.block R (hR R hb) hno⟩
 have hdis : ∀ l o, σ' l = some o → σ l = none ∨ ∃ o', σa l = some o' := by
  intro l o hl
  rcases s1.locs l o hl with q | q
  ·exact .inr q
  ·exact .inl (hi.obj_none q)
 have hnew : ∀ l o p R, σ' l = some o → Φ'.obj l = some p → p.blk = some R → Owned Φ σa R ∨ w.heap.size ≤ R := fun l o p R a b c => s1.ownd R ⟨l, o, p, a, b, c⟩
 refine ⟨v, mv, σ'.over (σ.minus σa), Φ', rfl, r1, ⟨?_, ?_, i1.snap, ?_, i1.fresh⟩, ⟨s1.le, s1.os, s1.tape, s1.output, s1.drawn, s1.size, ?_, ?_, ?_, ?_⟩, σ', hq, rfl, hdis⟩
 ·intro l o hl
  rcases over_some hl with q | ⟨q1, q2⟩
  ·exact i1.own l o q
  ·obtain ⟨p, hp, hp', hR⟩ := rest l o q2
   exact (hi.own l o (minus_some q2).2).mono s1.le fun p1 R h1 h2 => by
    rw [hp] at h1; cases h1
    exact (hR R h2).2.2
 ·intro l l' o o' p p' R hl hl' hp hp' hb hb'
  rcases over_some hl with q | ⟨q1, q2⟩ <;> rcases over_some hl' with q' | ⟨q1', q2'⟩
  ·exact i1.inj l l' o o' p p' R q q' hp hp' hb hb'
  ·obtain ⟨p2, u1, u2, u3⟩ := rest l' o' q2'
   rw [hp'] at u2; cases u2
   rcases hnew l o p R q hp hb with k | k
   ·exact absurd k (u3 R hb').2.1
   ·have := (u3 R hb').1; omega
  ·obtain ⟨p2, u1, u2, u3⟩ := rest l o q2
   rw [hp] at u2; cases u2
   rcases hnew l' o' p' R q' hp' hb' with k | k
   ·exact absurd k (u3 R hb).2.1
   ·have := (u3 R hb).1; omega
  ·obtain ⟨p2, u1, u2, u3⟩ := rest l o q2
   rw [hp] at u2; cases u2
   obtain ⟨p3, v1, v2, v3⟩ := rest l' o' q2'
   rw [hp'] at v2; cases v2
   exact hi.inj l l' o o' p p' R (minus_some q2).2 (minus_some q2').2 u1 v1 hb hb'
 ·intro l o p R a u hl hp hb hu
  rcases over_some hl with q | ⟨q1, q2⟩
  ·exact i1.apart l o p R a u q hp hb hu
  ·obtain ⟨p2, u1, u2, u3⟩ := rest l o q2
   rw [hp] at u2; cases u2
   intro e
   rcases s1.snapn a u hu with k | k | k
   ·exact hi.apart l o p R a u (minus_some q2).2 u1 hb k e
   ·have := (u3 R hb).1; omega
   ·rw [e] at k; exact (u3 R hb).2.1 k
 ·exact fun k hk hno => s1.block k hk fun q => hno (q.less hle)
 ·intro a u hu
  rcases s1.snapn a u hu with k | k | k
  ·exact .inl k
  ·exact .inr (.inl k)
  ·exact .inr (.inr (k.less hle))
 ·intro l o hl
  rcases over_some hl with q | ⟨q1, q2⟩
  ·rcases s1.locs l o q with ⟨o', k⟩ | k
   ·exact .inl ⟨o', hle _ _ k⟩
   ·exact .inr k
  ·exact .inl ⟨o, (minus_some q2).2⟩
 ·rintro R ⟨l, o, p, hl, hp, hb⟩
  rcases over_some hl with q | ⟨q1, q2⟩
  ·rcases hnew l o p R q hp hb with k | k
   ·exact .inl (k.less hle)
   ·exact .inr k
  ·obtain ⟨p2, u1, u2, u3⟩ := rest l o q2
   rw [hp] at u2; cases u2
   exact .inl ⟨l, o, p, (minus_some q2).2, u1, hb⟩
theorem MCalls.less {P : Program} {g : FuncId} {ms : List MV} {σ : St} {Q Q' : MV → St → Prop} (h : MCalls P g ms σ Q') (hq : ∀ v σ', Q' v σ' → ∃ σ1, σ1.le σ' ∧ Q v σ1) : MCalls P g ms σ Q := by
 refine ⟨h.1, fun Φ w vs hi hr => (h.2 Φ w vs hi hr).mono ?_⟩
 rintro e w' ⟨v, mv, σ', Φ', rfl, r1, i1, s1, k⟩
 obtain ⟨σ1, hle, hk⟩ := hq mv σ' k
 exact ⟨v, mv, σ1, Φ', rfl, r1, i1.less hle, s1.trans (.less _ hle), hk⟩
theorem MCalls.drops {P : Program} {g : FuncId} {ms : List MV} {σ : St} {Q : MV → St → Prop} (h : MCalls P g ms σ fun v σ' => ∃ σ1, σ1.le σ' ∧ Q v σ1) : MCalls P g ms σ Q := h.less fun _ _ k => k
theorem minus_none (σ : St) : σ.minus St.none = σ := by funext l; simp [St.minus, St.none]
theorem MCalls.pure {P : Program} {g : FuncId} {ms : List MV} {σ : St} {q : MV → Prop} (h : MCalls P g ms St.none fun v _ => q v) : MCalls P g ms σ fun v σ' => q v ∧ σ' = σ := by
 refine (h.frame (St.none_le σ)).less ?_
 rintro v σ1 ⟨σ', hq, rfl, hd⟩
 refine ⟨σ, fun l o hl => ?_, hq, rfl⟩
 rw [minus_none]
 simp only [St.over]
 cases hs : σ' l with
 | none => exact hl
 | some o' =>
  rcases hd l o' hs with k | ⟨_, k⟩
  ·rw [hl] at k; cases k
  ·simp [St.none] at k
theorem MCalls.mono_pure {P : Program} {g : FuncId} {ms : List MV} {q : MV → Prop} (h : MCalls P g ms St.none fun v _ => q v) : MCalls P g ms St.none fun v σ' => q v ∧ σ' = St.none := h.pure
theorem use_pure {P : Program} {g : FuncId} {ms : List MV} {σ : St} {r : MV} {k : MV → St → Prop} (h : MCalls P g ms St.none fun v _ => v = r) (hk : R (mlet r σ k)) : R (mcallE P g ms σ k) := by
 refine (MCalls.pure (σ := σ) h).mono ?_
 rintro v σ' ⟨rfl, rfl⟩
 exact hk
inductive Flat : MV → Prop where
 | junk : Flat .junk
 | bool (b : Bool) : Flat (.bool b)
 | int (k : IntKind) (n : Int) : Flat (.int k n)
 | str (s : ByteArray) : Flat (.str s)
 | nilp : Flat .nilp
 | nils : Flat .nils
 | lst0 (e : Nat) : Flat (.lst e [] true)
 | nilm : Flat .nilm
 | nilfn : Flat .nilfn
 | nili : Flat .nili
 | agg {cs : List MV} (h : ∀ c, c ∈ cs → Flat c) : Flat (.agg cs)
 | tup {cs : List MV} (h : ∀ c, c ∈ cs → Flat c) : Flat (.tup cs)
theorem Flat.rel {Φ Φ' : Phi} {m : MV} (h : Flat m) : ∀ {v : Value}, Rel Φ v m → Rel Φ' v m := by
 induction h with
 | junk => intro v r; exact .junk v
 | bool b => intro v r; cases r; exact .bool b
 | int k n => intro v r; cases r; exact .int k n
 | str s => intro v r; cases r; exact .str s
 | nilp => intro v r; cases r; exact .nilp
 | nils => intro v r; cases r; exact .nils
 | nilm => intro v r; cases r; exact .nilm
 | nilfn => intro v r; cases r; exact .nilfn
 | nili => intro v r; cases r; exact .nili
 | lst0 e =>
  intro v r
  cases r with
  | lstn => exact .lstn e true
  | lst0 a e cap t ht hm => exact .lst0 a e cap true ht hm
  | lst hl h0 => simp at hl; omega
 | agg h ih =>
  intro v r
  cases r with
  | agg h hc hr => exact .agg h hc (fun i m hm => ih m (List.mem_of_getElem? hm) (hr i m hm))
 | tup h ih =>
  intro v r
  cases r with
  | tup h hr => exact .tup h (fun i m hm => ih m (List.mem_of_getElem? hm) (hr i m hm))
theorem MCalls.lend {P : Program} {g : FuncId} {ms ms' : List MV} {σ : St} {q : MV → Prop} (h : MCalls P g ms' St.none fun v _ => q v) (hf : ∀ r, q r → Flat r) (hl : ms.length = ms'.length)
  (hv : ∀ (i : Nat) (m m' : MV), ms[i]? = some m → ms'[i]? = some m' → View σ m m') : MCalls P g ms σ fun v σ' => q v ∧ σ' = σ := by
 refine ⟨h.1, fun Φ w vs hi hr => ?_⟩
 classical
 have hs : Shot Φ (Φ.shot w (fun _ => True)) w σ := shot_of hi (St.le_refl σ) (fun _ _ => trivial)
 have hi' : Inv (Φ.shot w (fun _ => True)) w St.none := by
  refine ⟨fun l o hl => by simp [St.none] at hl, fun l l' o o' p p' R hl => by simp [St.none] at hl, fun a v hv => ?_, fun l o p R a v hl => by simp [St.none] at hl, hi.fresh.1, fun g i v q => (shot_le _ _ _).snap _ _ (hi.fresh.2 g i v q)⟩
  rcases shot_snap hv with q | ⟨-, q⟩
  ·exact hi.snap a v q
  ·exact q
 have hr' : Rels (Φ.shot w (fun _ => True)) vs ms' := by
  refine ⟨hr.1.trans hl, fun i m' hm' => ?_⟩
  have hlt := (List.getElem?_eq_some_iff.1 hm').1
  obtain ⟨m, hm⟩ : ∃ m, ms[i]? = some m := ⟨_, List.getElem?_eq_getElem (by omega)⟩
  exact (hv i m m' hm hm').rel hi hs (hr.2 i m hm)
 refine (h.2 _ w vs hi' hr').mono ?_
 rintro e w' ⟨v, mv, σ', Φ', rfl, r1, i1, s1, hq⟩
 have hblk : ∀ k, k < w.heap.size → w'.heap[k]? = w.heap[k]? := fun k hk => s1.block k hk fun ⟨l, o, p, a, _⟩ => by simp [St.none] at a
 have hown : ∀ l o, σ l = some o → OwnOk Φ w' l o := fun l o hl' => by
  obtain ⟨p, hp, hR⟩ := (hi.own l o hl').place
  exact (hi.own l o hl').mono (.refl Φ) fun p1 R h1 h2 => by
   rw [hp] at h1; cases h1
   exact hblk R (hR R h2)
 refine ⟨v, mv, σ, Φ, rfl, (hf mv hq).rel r1, ⟨hown, hi.inj, fun a u hu => ?_, hi.apart, hi.fresh⟩, ⟨.refl Φ, s1.os, s1.tape, s1.output, s1.drawn, s1.size, fun k hk _ => hblk k hk, fun _ _ h => .inl h, fun l o h => .inl ⟨o, h⟩, fun _ h => .inl h⟩, hq, rfl⟩
 have h1 := hi.snap a u hu
 have := World.block_lt_of_cell? w a h1
 rw [World.cell?_heap (hblk _ this)]
 exact h1
theorem use_lend {P : Program} {g : FuncId} {ms : List MV} (ms' : List MV) {σ : St} {r : MV} {k : MV → St → Prop} (h : MCalls P g ms' St.none fun v _ => v = r) (hf : Flat r) (hl : ms.length = ms'.length)
  (hv : ∀ (i : Nat) (m m' : MV), ms[i]? = some m → ms'[i]? = some m' → View σ m m') (hk : R (mlet r σ k)) : R (mcallE P g ms σ k) := by
 refine (MCalls.lend (σ := σ) h (fun _ e => e ▸ hf) hl hv).mono ?_
 rintro v σ' ⟨rfl, rfl⟩
 exact hk
theorem use_frame {P : Program} {g : FuncId} {ms : List MV} {σa σ : St} {Q k : MV → St → Prop} (h : MCalls P g ms σa Q) (hle : σa.le σ)
  (hk : ∀ v σ', Q v σ' → (∀ l o, σ' l = some o → σ l = none ∨ ∃ o', σa l = some o') → R (mlet v (σ'.over (σ.minus σa)) k)) : R (mcallE P g ms σ k) := by
 refine (h.frame hle).mono ?_
 rintro v σ1 ⟨σ', hq, rfl, hd⟩
 exact hk v σ' hq hd
theorem over_minus {σ σa : St} (h : σa.le σ) : σa.over (σ.minus σa) = σ := by
 funext l
 simp only [St.over, St.minus]
 cases ha : σa l with
 | none => rfl
 | some o => exact (h l o ha).symm
theorem use_same {P : Program} {g : FuncId} {ms : List MV} {σa σ : St} {r : MV} {k : MV → St → Prop} (h : MCalls P g ms σa fun v σ' => v = r ∧ σ' = σa) (hle : σa.le σ) (hk : R (mlet r σ k)) : R (mcallE P g ms σ k) := by
 refine use_frame h hle ?_
 rintro v σ' ⟨rfl, rfl⟩ -
 rw [over_minus hle]
 exact hk
theorem over_set (x y : St) (l : Nat) (o : MObj) : (x.set l o).over y = (x.over y).set l o := by
 funext k
 simp only [St.over, St.set]
 by_cases h : k = l
 ·simp [h]
 ·simp [h]
theorem over_none (y : St) : St.none.over y = y := rfl
theorem MCalls.seen {P : Program} {g : FuncId} {ms : List MV} {σ : St} {r : MV} (h : MCalls P g ms σ fun v σ' => View σ' v r) : MCalls P g ms σ fun v _ => v = r := by
 refine MCalls.ghost (h.mono fun v σ' hv => ⟨r, St.none, ?_, rfl⟩)
 exact Ghost.freeze σ' (St.le_refl _) (St.none_le _) (fun k o hk => by simp [St.none] at hk) (fun p hp => by
  simp only [List.mem_singleton] at hp
  subst hp
  simpa [lget] using hv)
theorem View.two {σ : St} {a b a' b' : MV} (h : View σ a a') (k : View σ b b') : View σ (.tup [a, b]) (.tup [a', b']) := by
 refine .tup rfl fun i m m' hm hm' => ?_
 match i with
 | 0 => simp only [List.getElem?_cons_zero, Option.some.injEq] at hm hm'; subst hm; subst hm'; exact h
 | 1 => simp only [List.getElem?_cons_succ, List.getElem?_cons_zero, Option.some.injEq] at hm hm'; subst hm; subst hm'; exact k
 | i + 2 => simp at hm
theorem wT {σ : St} {K : Nat → Prop} (h : R (mnew σ K)) : R (mnew σ K) := h
theorem wN {σ : St} {K : Nat → Prop} (h : ∀ l, σ l = none → R (K l)) : R (mnew σ K) := h
theorem wS {σ : St} {l k : Nat} {o : MObj} {p : Prop} (h : l ≠ k → k ≠ l → σ l = none → p) : (σ.set k o) l = none → p := set_none_intro h
theorem wI {c A B : Prop} (h1 : c → R A) (h2 : ¬ c → R B) : R (mif c A B) := mif_go h1 h2
theorem wF {p : Prop} [Decidable p] {A B : Prop} (h1 : p → R A) (h2 : ¬ p → R B) : R (mfork (.bool (decide p)) A B) := mfork_dec h1 h2
theorem wG {p : Prop} [Decidable p] {A B : Prop} (h1 : p → R A) (h2 : ¬ p → R B) : R (mgfork (.bool (decide p)) true A B) := mgfork_dec h1 h2
theorem wH {p : Prop} [Decidable p] {A B : Prop} (h1 : ¬ p → R A) (h2 : p → R B) : R (mgfork (.bool (decide p)) false A B) := mgfork_dec' h1 h2
theorem wL {α : Type} {β : Type} : (∀ a b : List α, (a ++ b).length = a.length + b.length) ∧ (∀ (a : List α) (i : Nat), (a.take i).length = min i a.length) ∧ (∀ (a : List α) (i : Nat), (a.drop i).length = a.length - i) ∧
  (∀ (x : α) (a : List α), (x :: a).length = a.length + 1) ∧ ([] : List α).length = 0 ∧ (∀ (g : α → β) (a : List α), (a.map g).length = a.length) ∧ (∀ (a : List α) (i : Nat) (x : α), (a.set i x).length = a.length) ∧
  (∀ (n : Nat) (x : α), (List.replicate n x).length = n) :=
 ⟨fun _ _ => List.length_append, fun _ _ => List.length_take, fun _ _ => List.length_drop, fun _ _ => rfl, rfl, fun _ _ => List.length_map _, fun _ _ _ => List.length_set, fun _ _ => List.length_replicate⟩
theorem up {P : Program} {g : FuncId} {ms : List MV} {σ : St} {r : MV} {k : MV → St → Prop} (h : MCalls P g ms St.none fun v _ => v = r) (hk : R (mlet r σ k)) : R (mcallE P g ms σ k) := use_pure h hk
end Go.Proofs.YtjljgahfkcdhfaaGreatDoor
end

section
namespace Go.Proofs.YtjljgahfkcdhfaaGreatDoor
structure Eff where
 C : Prop
 kill : Option Nat
 upd : Option (Nat × MObj)
 new : Option MObj
 v : Nat → MV → Prop
abbrev GF := List Nat × (List MObj → Option Eff)
def Eff.app (e : Eff) (σ : St) : St := fun l => if e.upd.map (·.1) = some l then e.upd.map (·.2) else if e.kill = some l then none else σ l
def Eff.out (e : Eff) (U : Nat → Prop) (σ : St) (v : MV) (U' : Nat → Prop) (σ' : St) : Prop :=
 match e.new with
 | none => e.v 0 v ∧ U' = U ∧ σ' = e.app σ
 | some o => ∃ l, ¬ U l ∧ e.v l v ∧ U' = (fun x => x = l ∨ U x) ∧ σ' = (e.app σ).set l o
def gs (U : Nat → Prop) (σ : St) (g : GF) (k : MV → (Nat → Prop) → St → Prop) : Prop :=
 ∃ os e, g.1.map σ = os.map some ∧ g.2 os = some e ∧ e.C ∧ (∀ l, ∃ v, e.v l v) ∧ ∀ v U' σ', e.out U σ v U' σ' → k v U' σ'
def Wf (g : GF) : Prop := ∀ os e, os.length = g.1.length → g.2 os = some e → (∀ l, e.kill = some l → l ∈ g.1) ∧ (∀ p, e.upd = some p → p.1 ∈ g.1)
def NoUpd (g : GF) : Prop := ∀ os e, os.length = g.1.length → g.2 os = some e → e.upd = none
def NoW (g : GF) : Prop := ∀ os e, os.length = g.1.length → g.2 os = some e → e.upd = none ∧ e.kill = none
def Dom (U : Nat → Prop) (σ : St) : Prop := ∀ l, σ l ≠ none → U l
def Fin (U : Nat → Prop) : Prop := ∃ n, ∀ l, n ≤ l → ¬ U l
theorem app_id {e : Eff} (h : e.upd = none ∧ e.kill = none) (σ : St) : e.app σ = σ := by
 funext l; simp [Eff.app, h.1, h.2]
theorem map_len {rd : List Nat} {σ : St} {os : List MObj} (h : rd.map σ = os.map some) : os.length = rd.length := by
 have := congrArg List.length h; simpa using this.symm
theorem map_mem {rd : List Nat} {σ : St} {os : List MObj} (h : rd.map σ = os.map some) {l : Nat} (hl : l ∈ rd) : σ l ≠ none := by
 have : σ l ∈ rd.map σ := List.mem_map_of_mem hl
 rw [h] at this
 obtain ⟨o, _, ho⟩ := List.mem_map.1 this
 rw [← ho]; simp
theorem map_inj {rd : List Nat} {σ σ' : St} {os os' : List MObj} (h : rd.map σ = os.map some) (h' : rd.map σ' = os'.map some) (he : ∀ l, l ∈ rd → σ l = σ' l) : os = os' := by
 have : rd.map σ = rd.map σ' := List.map_congr_left he
 rw [h, h'] at this
 clear h h' he
 induction os generalizing os' with
 | nil => cases os' with
  | nil => rfl
  | cons a r => simp at this
 | cons b r ih => cases os' with
  | nil => simp at this
  | cons a r' =>
   simp only [List.map_cons, List.cons.injEq, Option.some.injEq] at this
   rw [this.1, ih this.2]
theorem gs_mono {U : Nat → Prop} {σ : St} {g : GF} {k k' : MV → (Nat → Prop) → St → Prop} (h : gs U σ g k) (hd : Dom U σ) (hf : Fin U) (hk : ∀ v U' σ', Dom U' σ' → Fin U' → (∀ l, U l → U' l) → k v U' σ' → k' v U' σ') (wf : Wf g) : gs U σ g k' := by
 obtain ⟨os, e, h1, h2, h3, h4, h5⟩ := h
 refine ⟨os, e, h1, h2, h3, h4, fun v U' σ' ho => ?_⟩
 have hw := wf os e (map_len h1) h2
 have hdom : Dom U (e.app σ) := fun l hl => by
  simp only [Eff.app] at hl
  split at hl
  ·rename_i hu
   cases hup : e.upd with
   | none => rw [hup] at hu; cases hu
   | some p =>
    rw [hup] at hu
    simp only [Option.map_some, Option.some.injEq] at hu
    have := hw.2 p hup
    rw [hu] at this
    exact hd l (map_mem h1 this)
  ·split at hl
   ·exact absurd rfl hl
   ·exact hd l hl
 refine hk v U' σ' ?_ ?_ ?_ (h5 v U' σ' ho)
 all_goals
  unfold Eff.out at ho
  split at ho
 ·obtain ⟨-, rfl, rfl⟩ := ho; exact hdom
 ·obtain ⟨l, -, -, rfl, rfl⟩ := ho
  intro k hk
  simp only [St.set] at hk
  split at hk
  ·rename_i e; exact .inl e
  ·exact .inr (hdom k hk)
 ·obtain ⟨-, rfl, rfl⟩ := ho; exact hf
 ·obtain ⟨l, -, -, rfl, rfl⟩ := ho
  obtain ⟨n, hn⟩ := hf
  exact ⟨max n (l + 1), fun k hk q => q.elim (fun e => by omega) (hn k (by omega))⟩
 ·obtain ⟨-, rfl, rfl⟩ := ho; exact fun _ h => h
 ·obtain ⟨l, -, -, rfl, rfl⟩ := ho; exact fun _ h => .inr h
theorem gs_anti {U U' : Nat → Prop} {σ : St} {g : GF} {k : MV → (Nat → Prop) → St → Prop} (h : gs U σ g k) (hu : ∀ l, U l → U' l) (hk : ∀ v V V' σ, (∀ l, V l → V' l) → k v V σ → k v V' σ) : gs U' σ g k := by
 obtain ⟨os, e, h1, h2, h3, h4, h5⟩ := h
 refine ⟨os, e, h1, h2, h3, h4, fun v V σ' ho => ?_⟩
 unfold Eff.out at ho h5
 split at ho
 ·rename_i hn
  obtain ⟨a, rfl, rfl⟩ := ho
  refine hk v U _ _ hu (h5 v U _ ?_)
  rw [hn]; exact ⟨a, rfl, rfl⟩
 ·rename_i o hn
  obtain ⟨l, a, b, rfl, rfl⟩ := ho
  refine hk v (fun x => x = l ∨ U x) _ _ (fun x hx => hx.imp id (hu x)) (h5 v _ _ ?_)
  rw [hn]; exact ⟨l, fun q => a (hu l q), b, rfl, rfl⟩
theorem out_some {e : Eff} {U : Nat → Prop} {σ : St} (hf : Fin U) (hv : ∀ l, ∃ v, e.v l v) (rd : List Nat) : ∃ v U' σ', e.out U σ v U' σ' ∧ ∀ l, l ∈ rd → σ' l = (e.app σ) l := by
 unfold Eff.out
 cases e.new with
 | none => obtain ⟨v, hv⟩ := hv 0; exact ⟨v, U, e.app σ, ⟨hv, rfl, rfl⟩, fun _ _ => rfl⟩
 | some o =>
  obtain ⟨n, hn⟩ := hf
  have key : ∃ m, ∀ l, l ∈ rd → l < m := by
   clear hv
   induction rd with
   | nil => exact ⟨0, by simp⟩
   | cons a r ih =>
    obtain ⟨m, hm⟩ := ih
    refine ⟨max m (a + 1), fun l hl => ?_⟩
    rcases List.mem_cons.1 hl with q | q
    ·omega
    ·have := hm l q; omega
  obtain ⟨m, hm⟩ := key
  obtain ⟨v, hv⟩ := hv (max n m)
  refine ⟨v, _, _, ⟨max n m, hn _ (by omega), hv, rfl, rfl⟩, fun l hl => ?_⟩
  have := hm l hl
  exact set_miss _ _ _ _ (by omega)
theorem app_set {e : Eff} {σ : St} {l : Nat} {o : MObj} (hk : e.kill ≠ some l) (hu : ∀ p, e.upd = some p → p.1 ≠ l) : e.app (σ.set l o) = (e.app σ).set l o := by
 funext k
 simp only [Eff.app, St.set]
 by_cases h : k = l
 ·subst h
  rw [if_neg, if_neg hk, if_pos rfl]
  ·simp
  ·intro q
   cases hup : e.upd with
   | none => rw [hup] at q; cases q
   | some p => rw [hup] at q; simp at q; exact hu p hup q
 ·simp only [if_neg h]
theorem gs_swap {U : Nat → Prop} {σ : St} {gx gy : GF} {K : MV → MV → (Nat → Prop) → St → Prop} (hd : Dom U σ) (hf : Fin U) (wx : Wf gx) (wy : Wf gy)
  (hc : ((gy.1 = [] ∨ NoUpd gx) ∧ (gx.1 = [] ∨ NoW gy) ∧ (NoW gx ∨ NoW gy)) ∨ ∀ l, l ∈ gx.1 → l ∉ gy.1)
  (hK : ∀ v u V V' σ, (∀ l, V l → V' l) → K v u V σ → K v u V' σ)
  (h : gs U σ gx fun v U1 σ1 => gs U1 σ1 gy fun u U2 σ2 => K v u U2 σ2) :
  gs U σ gy fun u U1 σ1 => ∀ U1', (∀ l, U1 l → U1' l) → gs U1' σ1 gx fun v U2 σ2 => K v u U2 σ2 := by
 obtain ⟨ox, ex, x1, x2, x3, x4, x5⟩ := h
 have wx' := wx ox ex (map_len x1) x2
 -- what y reads is there already
 have agree : ∀ v U1 σ1, ex.out U σ v U1 σ1 → ∀ oy : List MObj, gy.1.map σ1 = oy.map some → (∀ l, l ∈ gy.1 → σ1 l = (ex.app σ) l) → ∀ l, l ∈ gy.1 → σ1 l = σ l := by
  intro v U1 σ1 ho oy hoy hsame l hl
  rw [hsame l hl]
  rcases hc.imp_left (·.1) with (c | c) | c
  ·rw [c] at hl; cases hl
  ·have hu := c ox ex (map_len x1) x2
   have hne := map_mem hoy hl
   rw [hsame l hl] at hne
   simp only [Eff.app, hu, Option.map_none] at hne ⊢
   split at hne
   ·rename_i q; cases q
   ·split at hne
    ·exact absurd rfl hne
    ·rename_i q1 q2; rw [if_neg q1, if_neg q2]
  ·simp only [Eff.app]
   rw [if_neg, if_neg]
   ·intro e; exact c l (wx'.1 l e) hl
   ·intro e
    obtain ⟨p, hp, he⟩ := Option.map_eq_some_iff.1 e
    exact c l (he ▸ wx'.2 p hp) hl
 obtain ⟨v0, V0, σ0, out0, same0⟩ := out_some (σ := σ) hf x4 gy.1
 obtain ⟨oy, ey, y1, y2, y3, y4, y5⟩ := x5 v0 V0 σ0 out0
 have ag0 := agree v0 V0 σ0 out0 oy y1 same0
 have y1' : gy.1.map σ = oy.map some := by rw [← y1]; exact (List.map_congr_left ag0).symm
 have wy' := wy oy ey (map_len y1) y2
 refine ⟨oy, ey, y1', y2, y3, y4, fun u U1 σ1 hoy U1' hU1 => ?_⟩
 -- what x reads is there still
 have hx1 : gx.1.map σ1 = ox.map some := by
  rw [← x1]
  refine List.map_congr_left fun l hl => ?_
  rcases hc.imp_left (·.2.1) with (c | c) | c
  ·rw [c] at hl; cases hl
  ·have hw := c oy ey (map_len y1) y2
   unfold Eff.out at hoy
   split at hoy
   ·obtain ⟨-, -, rfl⟩ := hoy; rw [app_id hw]
   ·obtain ⟨k, q1, q2, q3, rfl⟩ := hoy
    rw [app_id hw]
    refine set_miss _ _ _ _ (fun e => q1 ?_)
    subst e
    exact hd l (map_mem x1 hl)
  ·have hap : (ey.app σ) l = σ l := by
    simp only [Eff.app]
    rw [if_neg, if_neg]
    ·intro e; exact c l hl (wy'.1 l e)
    ·intro e
     obtain ⟨p, hp, he⟩ := Option.map_eq_some_iff.1 e
     exact c l hl (he ▸ wy'.2 p hp)
   unfold Eff.out at hoy
   split at hoy
   ·obtain ⟨-, -, rfl⟩ := hoy; exact hap
   ·obtain ⟨k, q1, q2, q3, rfl⟩ := hoy
    rw [← hap]
    refine set_miss _ _ _ _ (fun e => q1 ?_)
    subst e
    exact hd l (map_mem x1 hl)
 refine ⟨ox, ex, hx1, x2, x3, x4, fun v U2 σ2 hox => ?_⟩
 -- the two in their old order, at the same places
 have noty : ∀ l, ¬ U l → ey.kill ≠ some l ∧ ∀ p, ey.upd = some p → p.1 ≠ l := fun l hl =>
  ⟨fun e => hl (hd l (map_mem y1' (wy'.1 l e))), fun p hp e => hl (hd l (e ▸ map_mem y1' (wy'.2 p hp)))⟩
 have notx : ∀ l, ¬ U l → ex.kill ≠ some l ∧ ∀ p, ex.upd = some p → p.1 ≠ l := fun l hl =>
  ⟨fun e => hl (hd l (map_mem x1 (wx'.1 l e))), fun p hp e => hl (hd l (e ▸ map_mem x1 (wx'.2 p hp)))⟩
 have comm : ex.app (ey.app σ) = ey.app (ex.app σ) := by
  rcases hc.imp_left (·.2.2) with (c | c) | c
  ·rw [app_id (c ox ex (map_len x1) x2), app_id (c ox ex (map_len x1) x2)]
  ·rw [app_id (c oy ey (map_len y1) y2), app_id (c oy ey (map_len y1) y2)]
  ·funext l
   by_cases hx : l ∈ gx.1
   ·have hy := c l hx
    have n1 : ey.upd.map (·.1) ≠ some l := fun e => by
     obtain ⟨p, hp, he⟩ := Option.map_eq_some_iff.1 e
     exact hy (he ▸ wy'.2 p hp)
    have n2 : ey.kill ≠ some l := fun e => hy (wy'.1 l e)
    simp only [Eff.app, if_neg n1, if_neg n2]
   ·have n1 : ex.upd.map (·.1) ≠ some l := fun e => by
     obtain ⟨p, hp, he⟩ := Option.map_eq_some_iff.1 e
     exact hx (he ▸ wx'.2 p hp)
    have n2 : ex.kill ≠ some l := fun e => hx (wx'.1 l e)
    simp only [Eff.app, if_neg n1, if_neg n2]
 have finish : ∀ V σ', ex.out U σ v V σ' → (∀ l, l ∈ gy.1 → σ' l = (ex.app σ) l) → ∀ W σ'', ey.out V σ' u W σ'' → K v u W σ'' := by
  intro V σ' ho hsame W σ'' hoy'
  obtain ⟨oy2, ey2, z1, z2, z3, z4, z5⟩ := x5 v V σ' ho
  have ag := agree v V σ' ho oy2 z1 hsame
  have : oy = oy2 := map_inj y1' z1 (fun l hl => (ag l hl).symm)
  subst this
  rw [y2] at z2; cases z2
  exact z5 u W σ'' hoy'
 have hmem : ∀ l, ¬ U l → l ∉ gy.1 := fun l hl q => hl (hd l (map_mem y1' q))
 unfold Eff.out at hox hoy
 cases hnx : ex.new with
 | none =>
  rw [hnx] at hox
  obtain ⟨a1, rfl, rfl⟩ := hox
  have hout : ex.out U σ v U (ex.app σ) := by unfold Eff.out; rw [hnx]; exact ⟨a1, rfl, rfl⟩
  cases hny : ey.new with
  | none =>
   rw [hny] at hoy
   obtain ⟨b1, rfl, rfl⟩ := hoy
   refine hK v u U1 U2 _ hU1 (finish _ _ hout (fun _ _ => rfl) _ _ ?_)
   unfold Eff.out; rw [hny]; exact ⟨b1, rfl, comm⟩
  | some o =>
   rw [hny] at hoy
   obtain ⟨l, b0, b1, rfl, rfl⟩ := hoy
   refine hK v u _ U2 _ hU1 (finish _ _ hout (fun _ _ => rfl) _ _ ?_)
   unfold Eff.out; rw [hny]
   refine ⟨l, b0, b1, rfl, ?_⟩
   rw [app_set (notx l b0).1 (notx l b0).2, comm]
 | some p =>
  rw [hnx] at hox
  obtain ⟨k, a0, a1, rfl, rfl⟩ := hox
  have hout : ∀ W : Nat → Prop, (∀ l, U l → W l) → ¬ W k → ex.out U σ v (fun x => x = k ∨ U x) ((ex.app σ).set k p) := fun W hW hk => by
   unfold Eff.out; rw [hnx]; exact ⟨k, fun q => hk (hW k q), a1, rfl, rfl⟩
  cases hny : ey.new with
  | none =>
   rw [hny] at hoy
   obtain ⟨b1, rfl, rfl⟩ := hoy
   have hk : ¬ U1 k := fun q => a0 (hU1 k q)
   refine hK v u (fun x => x = k ∨ U1 x) _ _ (fun l q => q.imp id (hU1 l)) (finish _ _ (hout U1' hU1 a0) (fun l hl => set_miss _ _ _ _ (fun e => hmem k hk (e ▸ hl))) _ _ ?_)
   unfold Eff.out; rw [hny]
   refine ⟨b1, rfl, ?_⟩
   rw [comm, app_set (noty k hk).1 (noty k hk).2]
  | some o =>
   rw [hny] at hoy
   obtain ⟨l, b0, b1, rfl, rfl⟩ := hoy
   have hk : ¬ U k := fun q => a0 (hU1 k (.inr q))
   have hkl : k ≠ l := fun e => a0 (hU1 k (.inl e))
   refine hK v u (fun x => x = l ∨ (x = k ∨ U x)) _ _ (fun x q => ?_) (finish _ _ (hout U1' (fun x q => hU1 x (.inr q)) a0) (fun x hx => set_miss _ _ _ _ (fun e => hmem k hk (e ▸ hx))) _ _ ?_)
   ·rcases q with q | q | q
    ·exact .inr (hU1 x (.inl q))
    ·exact .inl q
    ·exact .inr (hU1 x (.inr q))
   ·unfold Eff.out; rw [hny]
    refine ⟨l, fun q => q.elim (fun e => hkl e.symm) b0, b1, rfl, ?_⟩
    rw [app_set (notx l b0).1 (notx l b0).2, comm, app_set (noty k hk).1 (noty k hk).2, set_comm _ _ _ (Ne.symm hkl)]
end Go.Proofs.YtjljgahfkcdhfaaGreatDoor
end

section
namespace Go.Proofs.YtjljgahfkcdhfaaGreatDoor
def St.ofList : List Nat → List MObj → St
 | l :: ls, o :: os => (St.ofList ls os).set l o
 | _, _ => St.none
structure Fact where
 rd : List Nat
 q : MV → Prop
 new : Option (MObj × (Nat → MV))
abbrev Know := FuncId → List MV → Option Fact
def gfail : GF := ([], fun _ => none)
def gpure (pv : PV) : GF := ([], fun _ => pv.map fun x => ⟨x.1, none, none, none, fun _ u => u = x.2⟩)
def galloc (C : Prop) (o : MObj) (v : Nat → MV) : GF := ([], fun _ => some ⟨C, none, none, some o, fun l u => u = v l⟩)
def srcLoc : MV → List Nat
 | .vec _ l _ _ => [l]
 | _ => []
def stOf (os : List MObj) : St := fun _ => os.head?
def gload (P : Program) (t : TypeId) : MV → GF
 | .ptr l i o => ([l], fun os => match os with
  | [.row _ _ xs] => some ⟨(td P t).ok = true ∧ i < xs.length ∧ o + (td P t).size ≤ (xs.getD i []).length ∧ 0 < (td P t).size, none, none, none, fun _ u => u = mpart (td P t) (xs.getD i []) o⟩
  | _ => none)
 | .cptr cs => gpure (some ((td P t).ok = true ∧ (td P t).size ≤ cs.length ∧ 0 < (td P t).size, mpart (td P t) cs 0))
 | _ => gfail
def gstore (P : Program) (t : TypeId) (x y : MV) : GF :=
 match x with
 | .ptr l i o => ([l], fun os => match os with
  | [.row tt e xs] => some ⟨(td P t).ok = true ∧ i < xs.length ∧ y.cells.all MV.isCell = true ∧ y.cells.length = (td P t).size ∧ o + y.cells.length ≤ (xs.getD i []).length, none, some (l, .row tt e (xs.set i (laid (xs.getD i []) o y.cells))), none, fun _ u => u = .junk⟩
  | _ => none)
 | _ => gfail
def gappend (P : Program) (t xt : TypeId) (s x : MV) : GF :=
 match (td P t).k with
 | .slice el => match s with
  | .nils => (srcLoc x, fun os => match msrc (stOf os) (td P el).size x with
   | some ys => some ⟨(td P xt).k.isSrc = true ∧ (td P el).zok = true ∧ Fits ys.length (td P el).bytes, none, none, some (.row el (td P el).size ys), fun l u => u = .vec (td P el).size l 0 ys.length⟩
   | none => none)
  | .lst e xs true => (srcLoc x, fun os => match msrc (stOf os) (td P el).size x with
   | some ys => some ⟨(td P xt).k.isSrc = true ∧ (td P el).zok = true ∧ e = (td P el).size ∧ (xs = [] ∨ 0 < ys.length) ∧ Fits (xs.length + ys.length) (td P el).bytes, none, none, some (.row el (td P el).size (xs ++ ys)), fun l u => u = .vec (td P el).size l 0 (xs.length + ys.length)⟩
   | none => none)
  | .vec e l lo n => (l :: srcLoc x, fun os => match os with
   | .row tt e' xs :: os => match msrc (stOf os) (td P el).size x with
    | some ys => some ⟨(td P xt).k.isSrc = true ∧ (td P el).zok = true ∧ e = (td P el).size ∧ e' = (td P el).size ∧ tt = el ∧ lo = 0 ∧ lo + n ≤ xs.length ∧ Fits (n + ys.length) (td P el).bytes, some l, none, some (.row el (td P el).size (appRow xs lo n ys)), fun l' u => u = .vec (td P el).size l' 0 (n + ys.length)⟩
    | none => none
   | _ => none)
  | _ => gfail
 | _ => gfail
def gbuildSlice (P : Program) (ρ : Operand → MV) (t : TypeId) (len : Nat) (parts : Array (Nat × Operand)) : GF :=
 match (td P t).k with
 | .slice el => galloc ((td P el).zok = true ∧ parts.toList.map (·.1) = List.range len ∧ (parts.toList.all fun p => (ρ p.2).cells.all MV.isCell && (ρ p.2).cells.length == (td P el).size) = true ∧ len * (td P el).size ≤ 16777216 ∧ len ≤ 16777216)
   (.row el (td P el).size (parts.toList.map fun p => (ρ p.2).cells)) (fun l => .vec (td P el).size l 0 len)
 | _ => gfail
def gmakeSlice (P : Program) (t : TypeId) (x y : MV) : GF :=
 match (td P t).k, x, y with
 | .slice el, .int .i64 n, .int .i64 c => galloc ((td P el).zok = true ∧ 0 ≤ n ∧ n ≤ c ∧ Fits c.toNat (td P el).bytes) (.row el (td P el).size (List.replicate n.toNat (td P el).zero)) (fun l => .vec (td P el).size l 0 n.toNat)
 | _, _, _ => gfail
def gconvert (P : Program) (s d : TypeId) (x : MV) : GF :=
 match (td P s).k, (td P d).k, x with
 | .str, .slice el, .str b => galloc ((td P el).k = .int .u8 ∧ b.size ≤ 140737488355328) (.row el 1 (b.toList.map fun c => [.int .u8 (c.toNat : Int)])) (fun l => .vec 1 l 0 b.size)
 | .slice el, .str, .str _ => gfail
 | .slice el, .str, x => (srcLoc x, fun os => match msrc (stOf os) 1 x with
  | some ys => some ⟨(td P el).k = .int .u8 ∧ ys.all isByte = true, none, none, none, fun _ u => u = .str (bytesOf ys)⟩
  | none => none)
 | _, _, x => gpure (mconv P s d x)
def gcall (P : Program) (C : Know) (g : FuncId) (ms : List MV) : GF :=
 match C g ms with
 | some ⟨rd, q, none⟩ => (rd, fun os => some ⟨MCalls P g ms (St.ofList rd os) (fun v σ' => q v ∧ σ' = St.ofList rd os), none, none, none, fun _ u => q u⟩)
 | some ⟨[], _, some (o, u)⟩ => galloc (MCalls P g ms St.none fun v σ' => ∃ l, v = u l ∧ σ' = St.none.set l o) o u
 | some ⟨[l], _, some (o', u)⟩ => ([l], fun os => match os with
  | [o] => some ⟨MCalls P g ms (St.none.set l o) (fun v σ' => v = u l ∧ σ' = St.none.set l o'), none, some (l, o'), none, fun _ w => w = u l⟩
  | _ => none)
 | _ => gfail
def Pl (C : Know) : Prop := ∀ g ms rd q x, C g ms = some ⟨rd, q, some x⟩ → rd = []
def Know.pl (C : Know) : Know := fun g ms => (C g ms).map fun F => match F with
 | ⟨rd, q, none⟩ => ⟨rd, q, none⟩
 | ⟨_, q, some x⟩ => ⟨[], q, some x⟩
theorem Know.pl_pl (C : Know) : Pl C.pl := by
 intro g ms rd q x h
 unfold Know.pl at h
 cases hC : C g ms with
 | none => rw [hC] at h; cases h
 | some F =>
  rw [hC] at h
  obtain ⟨rd', q', n⟩ := F
  cases n with
  | none => simp at h
  | some y => simp at h; exact h.1.symm ▸ rfl
def gop (P : Program) (C : Know) (f : FR) : Op → GF
 | .alloc t => galloc ((td P t).zok = true) (.row t (td P t).size [(td P t).zero]) (fun l => .ptr l 0 0)
 | .box t x => galloc ((mval f x).cells.all MV.isCell = true) (.row t (mval f x).cells.length [(mval f x).cells]) (fun l => .ptr l 0 0)
 | .load t x => gload P t (mval f x)
 | .store t x y => gstore P t (mval f x) (mval f y)
 | .buildSlice t len parts => gbuildSlice P (mval f) t len parts
 | .makeSlice t x y => gmakeSlice P t (mval f x) (mval f y)
 | .convert s d x => gconvert P s d (mval f x)
 | .call ⟨.builtin .append, args, ts⟩ => match args.toList, ts.toList with
  | [s, x], [t, xt] => gappend P t xt (mval f s) (mval f x)
  | _, _ => gfail
 | .call ⟨.builtin b, args, ts⟩ => if ts.toList.length = args.toList.length then gpure (mbuiltin P b ts.toList.toArray (args.toList.map (mval f))) else gfail
 | .call ⟨.value x, args, ts⟩ => match mval f x with
  | .fn (.func g) ms ns => gcall P C g (ms ++ args.toList.map (mval f) ++ ns)
  | _ => gfail
 | .call ⟨.invoke _ _, _, _⟩ => gfail
 | .defer _ => gfail
 | op => gpure (qop P f op)
theorem wf_pure (pv : PV) : Wf (gpure pv) ∧ NoW (gpure pv) ∧ NoUpd (gpure pv) ∧ (gpure pv).1 = [] := by
 have key : ∀ os e, (gpure pv).2 os = some e → e.upd = none ∧ e.kill = none := fun os e h => by
  simp only [gpure, Option.map_eq_some_iff] at h
  obtain ⟨x, -, rfl⟩ := h
  exact ⟨rfl, rfl⟩
 exact ⟨fun os e _ h => by simp [key os e h], fun os e _ h => key os e h, fun os e _ h => (key os e h).1, rfl⟩
theorem wf_alloc (C : Prop) (o : MObj) (v : Nat → MV) : Wf (galloc C o v) ∧ NoW (galloc C o v) ∧ NoUpd (galloc C o v) ∧ (galloc C o v).1 = [] := by
 have key : ∀ os e, (galloc C o v).2 os = some e → e.upd = none ∧ e.kill = none := fun os e h => by
  simp only [galloc, Option.some.injEq] at h
  subst h; exact ⟨rfl, rfl⟩
 exact ⟨fun os e _ h => by simp [key os e h], fun os e _ h => key os e h, fun os e _ h => (key os e h).1, rfl⟩
theorem wf_fail : Wf gfail ∧ NoW gfail ∧ NoUpd gfail ∧ gfail.1 = [] := ⟨fun os e _ h => by simp [gfail] at h, fun os e _ h => by simp [gfail] at h, fun os e _ h => by simp [gfail] at h, rfl⟩
def rd0 : Op → Bool
 | .load .. | .store .. | .convert .. | .call ⟨.builtin .append, _, _⟩ | .call ⟨.value _, _, _⟩ => false
 | _ => true
def noUpd (u : Bool) : Op → Bool
 | .store .. => false
 | .call ⟨.value _, _, _⟩ => !u
 | _ => true
def noW (u : Bool) : Op → Bool
 | .store .. | .call ⟨.builtin .append, _, _⟩ => false
 | .call ⟨.value _, _, _⟩ => !u
 | _ => true
theorem wf_load (P : Program) (t : TypeId) (x : MV) : Wf (gload P t x) ∧ NoW (gload P t x) ∧ NoUpd (gload P t x) := by
 unfold gload
 split
 ·have key : ∀ (os : List MObj) (e : Eff) (l i o : Nat), (match os with
   | [.row _ _ xs] => some (⟨(td P t).ok = true ∧ i < xs.length ∧ o + (td P t).size ≤ (xs.getD i []).length ∧ 0 < (td P t).size, none, none, none, fun _ u => u = mpart (td P t) (xs.getD i []) o⟩ : Eff)
   | _ => none) = some e → e.upd = none ∧ e.kill = none := by
   intro os e l i o h
   split at h
   ·cases h; exact ⟨rfl, rfl⟩
   ·cases h
  exact ⟨fun os e _ h => by simp [key os e 0 _ _ h], fun os e _ h => key os e 0 _ _ h, fun os e _ h => (key os e 0 _ _ h).1⟩
 ·exact ⟨(wf_pure _).1, (wf_pure _).2.1, (wf_pure _).2.2.1⟩
 ·exact ⟨wf_fail.1, wf_fail.2.1, wf_fail.2.2.1⟩
theorem wf_store (P : Program) (t : TypeId) (x y : MV) : Wf (gstore P t x y) := by
 unfold gstore
 split
 ·intro os e _ h
  simp only at h
  split at h
  ·cases h; simp
  ·cases h
 ·exact wf_fail.1
theorem wf_append (P : Program) (t xt : TypeId) (s x : MV) : Wf (gappend P t xt s x) ∧ NoUpd (gappend P t xt s x) := by
 unfold gappend
 split
 ·split
  ·refine ⟨fun os e _ h => ?_, fun os e _ h => ?_⟩ <;>
   ·simp only at h
    split at h
    ·cases h; simp
    ·cases h
  ·refine ⟨fun os e _ h => ?_, fun os e _ h => ?_⟩ <;>
   ·simp only at h
    split at h
    ·cases h; simp
    ·cases h
  ·refine ⟨fun os e _ h => ?_, fun os e _ h => ?_⟩ <;>
   ·simp only at h
    split at h
    ·split at h
     ·cases h; simp
     ·cases h
    ·cases h
  ·exact ⟨wf_fail.1, wf_fail.2.2.1⟩
 ·exact ⟨wf_fail.1, wf_fail.2.2.1⟩
theorem wf_convert (P : Program) (s d : TypeId) (x : MV) : Wf (gconvert P s d x) ∧ NoW (gconvert P s d x) ∧ NoUpd (gconvert P s d x) := by
 unfold gconvert
 split
 ·exact ⟨(wf_alloc _ _ _).1, (wf_alloc _ _ _).2.1, (wf_alloc _ _ _).2.2.1⟩
 ·exact ⟨wf_fail.1, wf_fail.2.1, wf_fail.2.2.1⟩
 ·refine ⟨fun os e _ h => ?_, fun os e _ h => ?_, fun os e _ h => ?_⟩ <;>
  ·simp only at h
   split at h
   ·cases h; simp
   ·cases h
 ·exact ⟨(wf_pure _).1, (wf_pure _).2.1, (wf_pure _).2.2.1⟩
theorem wf_call (P : Program) (C : Know) (g : FuncId) (ms : List MV) : Wf (gcall P C g ms) ∧ (Pl C → NoW (gcall P C g ms) ∧ NoUpd (gcall P C g ms)) := by
 unfold gcall
 split
 ·refine ⟨fun os e _ h => ?_, fun _ => ⟨fun os e _ h => ?_, fun os e _ h => ?_⟩⟩ <;>
  ·simp only [Option.some.injEq] at h
   subst h; simp
 ·exact ⟨(wf_alloc _ _ _).1, fun _ => ⟨(wf_alloc _ _ _).2.1, (wf_alloc _ _ _).2.2.1⟩⟩
 ·rename_i l q o' u hC
  refine ⟨fun os e _ h => ?_, fun hp => ?_⟩
  ·simp only at h
   split at h
   ·cases h; simp
   ·cases h
  ·have := hp _ _ _ _ _ hC; cases this
 ·exact ⟨wf_fail.1, fun _ => ⟨wf_fail.2.1, wf_fail.2.2.1⟩⟩
theorem wf_buildSlice (P : Program) (ρ : Operand → MV) (t : TypeId) (len : Nat) (parts : Array (Nat × Operand)) : Wf (gbuildSlice P ρ t len parts) ∧ NoW (gbuildSlice P ρ t len parts) ∧ NoUpd (gbuildSlice P ρ t len parts) ∧ (gbuildSlice P ρ t len parts).1 = [] := by
 unfold gbuildSlice
 split
 ·exact wf_alloc _ _ _
 ·exact wf_fail
theorem wf_makeSlice (P : Program) (t : TypeId) (x y : MV) : Wf (gmakeSlice P t x y) ∧ NoW (gmakeSlice P t x y) ∧ NoUpd (gmakeSlice P t x y) ∧ (gmakeSlice P t x y).1 = [] := by
 unfold gmakeSlice
 split
 ·exact wf_alloc _ _ _
 ·exact wf_fail
theorem wf_gop (P : Program) (C : Know) {u : Bool} (hu : u = true ∨ Pl C) (f : FR) (op : Op) : Wf (gop P C f op) ∧ (noUpd u op = true → NoUpd (gop P C f op)) ∧ (noW u op = true → NoW (gop P C f op)) ∧ (rd0 op = true → (gop P C f op).1 = []) := by
 cases op
 case load t x => exact ⟨(wf_load _ _ _).1, fun _ => (wf_load _ _ _).2.2, fun _ => (wf_load _ _ _).2.1, fun h => by simp [rd0] at h⟩
 case store t x y => exact ⟨wf_store _ _ _ _, fun h => by simp [noUpd] at h, fun h => by simp [noW] at h, fun h => by simp [rd0] at h⟩
 case convert s d x => exact ⟨(wf_convert _ _ _ _).1, fun _ => (wf_convert _ _ _ _).2.2, fun _ => (wf_convert _ _ _ _).2.1, fun h => by simp [rd0] at h⟩
 case alloc t => exact ⟨(wf_alloc _ _ _).1, fun _ => (wf_alloc _ _ _).2.2.1, fun _ => (wf_alloc _ _ _).2.1, fun _ => rfl⟩
 case box t x => exact ⟨(wf_alloc _ _ _).1, fun _ => (wf_alloc _ _ _).2.2.1, fun _ => (wf_alloc _ _ _).2.1, fun _ => rfl⟩
 case buildSlice t n p => exact ⟨(wf_buildSlice _ _ _ _ _).1, fun _ => (wf_buildSlice _ _ _ _ _).2.2.1, fun _ => (wf_buildSlice _ _ _ _ _).2.1, fun _ => (wf_buildSlice _ _ _ _ _).2.2.2⟩
 case makeSlice t x y => exact ⟨(wf_makeSlice _ _ _ _).1, fun _ => (wf_makeSlice _ _ _ _).2.2.1, fun _ => (wf_makeSlice _ _ _ _).2.1, fun _ => (wf_makeSlice _ _ _ _).2.2.2⟩
 case defer c => exact ⟨wf_fail.1, fun _ => wf_fail.2.2.1, fun _ => wf_fail.2.1, fun _ => rfl⟩
 case call c =>
  obtain ⟨callee, args, ts⟩ := c
  cases callee with
  | value x =>
   simp only [gop]
   split
   ·have hp : u = false → Pl C := fun h => hu.resolve_left (by simp [h])
    exact ⟨(wf_call _ _ _ _).1, fun h => ((wf_call _ _ _ _).2 (hp (by simpa [noUpd] using h))).2, fun h => ((wf_call _ _ _ _).2 (hp (by simpa [noW] using h))).1, fun h => by simp [rd0] at h⟩
   ·exact ⟨wf_fail.1, fun _ => wf_fail.2.2.1, fun _ => wf_fail.2.1, fun _ => rfl⟩
  | invoke r m => exact ⟨wf_fail.1, fun _ => wf_fail.2.2.1, fun _ => wf_fail.2.1, fun _ => rfl⟩
  | builtin b =>
   by_cases hb : b = .append
   ·subst hb
    simp only [gop]
    split
    ·exact ⟨(wf_append _ _ _ _ _).1, fun _ => (wf_append _ _ _ _ _).2, fun h => by simp [noW] at h, fun h => by simp [rd0] at h⟩
    ·exact ⟨wf_fail.1, fun _ => wf_fail.2.2.1, fun _ => wf_fail.2.1, fun _ => rfl⟩
   ·have : gop P C f (.call ⟨.builtin b, args, ts⟩) = if ts.toList.length = args.toList.length then gpure (mbuiltin P b ts.toList.toArray (args.toList.map (mval f))) else gfail := by
     cases b <;> first | rfl | exact absurd rfl hb
    rw [this]
    split
    ·exact ⟨(wf_pure _).1, fun _ => (wf_pure _).2.2.1, fun _ => (wf_pure _).2.1, fun _ => rfl⟩
    ·exact ⟨wf_fail.1, fun _ => wf_fail.2.2.1, fun _ => wf_fail.2.1, fun _ => rfl⟩
 all_goals exact ⟨(wf_pure _).1, fun _ => (wf_pure _).2.2.1, fun _ => (wf_pure _).2.1, fun _ => rfl⟩
end Go.Proofs.YtjljgahfkcdhfaaGreatDoor
end
