/- Regions whose order is drawn (5): the region's rule. -/
import Derived.Test.YtielcgplbnlgbaaMl18
set_option linter.unusedVariables false
set_option linter.unusedSimpArgs false
namespace Go.Proofs.Ytielcgplbnlgbaa

/-- What stands ahead of each operation, as bits. -/
def masks : List Oper → List Nat → List Nat
  | [], acc => acc
  | o :: r, acc => masks r (acc ++ [o.after.toList.foldl (fun m e => if Region.binds .any e then (m ||| 2 ^ e.on) ||| acc.getD e.on 0 else m) 0])

/-- One order serves for all. -/
def chkD (Ds : List Nat) (ops : Array Oper) : Bool :=
  let ms := masks ops.toList []
  (ops.toList.all (keepsD Ds)) && (List.range ops.size).all fun i => match ops[i]? with
    | none => true
    | some oi => (oi.after.toList.all fun e => !Region.binds .any e || decide (e.on < i)) &&
      ((List.range i).all fun j => match ops[j]? with
        | none => true
        | some oj => (ms.getD i 0).testBit j || swapD Ds ops oj oi)
def chk (ops : Array Oper) : Bool := chkD [] ops

section
variable {P : Program} {C : Know} {ops : Array Oper}

/-- Whatever is done, what stands ahead of it is done. -/
def Closed (ops : Array Oper) (L : Nat → Prop) : Prop := ∀ i o, ops[i]? = some o → L i → ∀ e, e ∈ o.after.toList → Region.binds .any e = true → L e.on

theorem fold_bit {L : Nat → Prop} {acc : List Nat} {B : Edge → Bool} (hacc : ∀ i, L i → ∀ j, (acc.getD i 0).testBit j = true → L j) : ∀ (es : List Edge) (m : Nat), (∀ e, e ∈ es → B e = true → L e.on) → (∀ j, m.testBit j = true → L j) →
    ∀ j, (es.foldl (fun m e => if B e then (m ||| 2 ^ e.on) ||| acc.getD e.on 0 else m) m).testBit j = true → L j := by
  intro es
  induction es with
  | nil => intro m _ hm j h; exact hm j h
  | cons e r ih =>
    intro m he hm j h
    simp only [List.foldl_cons] at h
    refine ih _ (fun e' h' => he e' (by simp [h'])) (fun k hk => ?_) j h
    split at hk
    · rename_i hb
      simp only [Nat.testBit_or, Bool.or_eq_true] at hk
      rcases hk with (hk | hk) | hk
      · exact hm k hk
      · rw [Nat.testBit_two_pow] at hk
        have : e.on = k := by simpa using hk
        exact this ▸ he e (by simp) hb
      · exact hacc e.on (he e (by simp) hb) k hk
    · exact hm k hk

theorem masks_good {L : Nat → Prop} : ∀ (l pre : List Oper) (acc : List Nat), acc.length = pre.length → Closed (pre ++ l).toArray L →
    (∀ i, (L i ∨ ∃ o, (pre ++ l)[i]? = some o ∧ ∀ e, e ∈ o.after.toList → Region.binds .any e = true → L e.on) → ∀ j, (acc.getD i 0).testBit j = true → L j) →
    ∀ i, (L i ∨ ∃ o, (pre ++ l)[i]? = some o ∧ ∀ e, e ∈ o.after.toList → Region.binds .any e = true → L e.on) → ∀ j, ((masks l acc).getD i 0).testBit j = true → L j := by
  intro l
  induction l with
  | nil => intro pre acc _ _ h; exact h
  | cons o r ih =>
    intro pre acc hl hc h
    have e1 : pre ++ o :: r = (pre ++ [o]) ++ r := by simp
    simp only [masks]
    rw [e1] at hc h ⊢
    refine ih (pre ++ [o]) _ (by simp [hl]) hc (fun i hi j hj => ?_)
    rcases Nat.lt_trichotomy i acc.length with q | q | q
    · refine h i hi j ?_
      simpa [List.getD, List.getElem?_append_left q] using hj
    · have ho : ((pre ++ [o]) ++ r)[i]? = some o := by
        rw [q, hl]; simp
      have hpre : ∀ e, e ∈ o.after.toList → Region.binds .any e = true → L e.on := by
        rcases hi with hi | ⟨o', h1, h2⟩
        · exact hc i o (by simpa using ho) hi
        · rw [ho] at h1; cases h1; exact h2
      rw [q] at hj
      simp only [List.getD, List.getElem?_append_right (Nat.le_refl _), Nat.sub_self, List.getElem?_cons_zero, Option.getD_some] at hj
      exact fold_bit (B := Region.binds .any) (fun k hk => h k (.inl hk)) o.after.toList 0 hpre (fun j hj => by simp at hj) j hj
    · have : (acc ++ [o.after.toList.foldl (fun m e => if Region.binds .any e then (m ||| 2 ^ e.on) ||| acc.getD e.on 0 else m) 0])[i]? = none := by
        rw [List.getElem?_eq_none]; simp; omega
      rw [List.getD, this] at hj
      simp at hj

/-- What is to come. -/
def left (listed : Array Bool) (n : Nat) : List Nat := (List.range n).filter fun i => !listed.getD i true

theorem left_set {listed : Array Bool} {n i : Nat} (hs : listed.size = n) : left (listed.setIfInBounds i true) n = (left listed n).filter fun j => j != i := by
  unfold left
  rw [List.filter_filter]
  refine List.filter_congr fun j hj => ?_
  have hj : j < n := by simpa using hj
  by_cases h : j = i
  · subst h; simp [hs, hj]
  · have : (i : Nat) ≠ j := fun e => h e.symm
    simp [h, Array.getElem?_setIfInBounds_ne this]

theorem left_split {listed : Array Bool} {n i : Nat} (h : i ∈ left listed n) : ∃ l1 l2, left listed n = l1 ++ i :: l2 ∧ (∀ j, j ∈ l1 → j < i) ∧ (left listed n).filter (fun j => j != i) = l1 ++ l2 := by
  obtain ⟨l1, l2, he⟩ := List.append_of_mem h
  have hp : (left listed n).Pairwise (· < ·) := List.Pairwise.filter _ List.pairwise_lt_range
  rw [he] at hp
  obtain ⟨h1, h2, h3⟩ := List.pairwise_append.1 hp
  have h4 := (List.pairwise_cons.1 h2).1
  refine ⟨l1, l2, he, fun j hj => h3 j hj i (by simp), ?_⟩
  rw [he]
  simp only [List.filter_append, List.filter_cons, bne_self_eq_false, Bool.false_eq_true, if_false]
  congr 1
  · exact List.filter_eq_self.2 fun j hj => by have := h3 j hj i (by simp); simp; omega
  · exact List.filter_eq_self.2 fun j hj => by have := h4 j hj; simp; omega

def opsOf (ops : Array Oper) (is : List Nat) : List Oper := is.filterMap fun i => ops[i]?

theorem mem_left {listed : Array Bool} {n i : Nat} : i ∈ left listed n ↔ i < n ∧ listed.getD i true = false := by simp [left]

theorem any_sound {Ds : List Nat} {loc : Nat → Nat} (hchk : chkD Ds ops = true) {Q : MQ} {Φ0 : Phi} {σ0 : St} {w0 : World} : ∀ (fuel : Nat) (listed : Array Bool) (f : FR) (σ : St) (Φ : Phi) (w : World) (a : Act), listed.size = ops.size → (left listed ops.size).length = fuel →
    Closed ops (fun i => listed.getD i false = true) → Inv Φ w σ → FRel Φ a.tmps f → DRel Φ a.defers f.d → DOk Ds loc f → Step Φ0 σ0 w0 Φ σ w →
    gl P C ops (fun f' _ σ' => ∃ f'', FEq f' f'' ∧ Q .normal f'' σ') (opsOf ops (left listed ops.size)) f (fun l => Φ.obj l ≠ none) σ → wpAny P .any ops (lift Φ0 σ0 w0 Q) fuel listed a w := by
  have hKok : KOk (fun f' (_ : Nat → Prop) σ' => ∃ f'', FEq f' f'' ∧ Q .normal f'' σ') := fun f f' U U' σ hf _ ⟨f'', h1, h2⟩ => ⟨f'', hf.symm.trans h1, h2⟩
  have fin : ∀ (listed : Array Bool) (f : FR) (σ : St) (Φ : Phi) (w : World) (a : Act), left listed ops.size = [] → Inv Φ w σ → FRel Φ a.tmps f → DRel Φ a.defers f.d → Step Φ0 σ0 w0 Φ σ w →
      gl P C ops (fun f' _ σ' => ∃ f'', FEq f' f'' ∧ Q .normal f'' σ') (opsOf ops (left listed ops.size)) f (fun l => Φ.obj l ≠ none) σ → lift Φ0 σ0 w0 Q .normal a w := by
    intro listed f σ Φ w a hl hi hr hd hs h
    rw [hl] at h
    obtain ⟨f'', h1, h2⟩ := h
    exact ⟨f'', σ, Φ, h1.2.1 ▸ hd, ⟨hr.1.trans h1.1, fun t => by rw [← h1.2.2 t]; exact hr.2 t⟩, hi, hs, h2⟩
  have ready_left : ∀ (listed : Array Bool) i, i ∈ Region.ready .any ops listed → i ∈ left listed ops.size := fun listed i hi => by
    obtain ⟨h0, o, ho, -⟩ := mem_ready.1 hi
    exact mem_left.2 ⟨(Array.getElem?_eq_some_iff.1 ho).1, h0⟩
  have chk1 : ∀ i oi, ops[i]? = some oi → (∀ e, e ∈ oi.after.toList → Region.binds .any e = true → e.on < i) ∧ ∀ j oj, j < i → ops[j]? = some oj → ((masks ops.toList []).getD i 0).testBit j = true ∨ swapD Ds ops oj oi = true := by
    intro i oi hoi
    have hlt := (Array.getElem?_eq_some_iff.1 hoi).1
    have h := hchk
    simp only [chkD, Bool.and_eq_true] at h
    replace h := h.2
    simp only [List.all_eq_true, List.mem_range] at h
    have h1 := h i hlt
    rw [hoi] at h1
    simp only [Bool.and_eq_true, List.all_eq_true, Bool.or_eq_true, Bool.not_eq_true', decide_eq_true_eq, List.mem_range] at h1
    refine ⟨fun e he hb => ?_, fun j oj hj hoj => ?_⟩
    · rcases h1.1 e he with q | q
      · rw [hb] at q; cases q
      · exact q
    · have := h1.2 j hj
      rw [hoj] at this
      simpa using this
  intro fuel
  induction fuel with
  | zero =>
    intro listed f σ Φ w a hsz hl hc hi hr hd hD hs h
    have hnil : left listed ops.size = [] := List.eq_nil_of_length_eq_zero hl
    refine ⟨?_, fin listed f σ Φ w a hnil hi hr hd hs h⟩
    rw [List.eq_nil_iff_forall_not_mem]
    intro i hi
    have := ready_left listed i hi
    rw [hnil] at this; cases this
  | succ fuel ih =>
    intro listed f σ Φ w a hsz hl hc hi hr hd hD hs h
    refine ⟨fun hnone => ?_, fun i hrd => ?_⟩
    · -- the first that is left is ready
      exfalso
      cases hleft : left listed ops.size with
      | nil => rw [hleft] at hl; cases hl
      | cons i0 r =>
        have h0 : i0 ∈ left listed ops.size := by rw [hleft]; simp
        obtain ⟨hlt, h0'⟩ := mem_left.1 h0
        have hoi : ops[i0]? = some ops[i0] := Array.getElem?_eq_getElem hlt
        have : i0 ∈ Region.ready .any ops listed := mem_ready.2 ⟨h0', _, hoi, fun e he hb => by
          have hlt' := (chk1 i0 _ hoi).1 e (by simpa using he) hb
          cases hq : listed.getD e.on false with
          | true => rfl
          | false =>
            exfalso
            have hm : e.on ∈ left listed ops.size := mem_left.2 ⟨by omega, by
              have hb2 : e.on < listed.size := by omega
              simpa [hb2] using hq⟩
            have hp : (left listed ops.size).Pairwise (· < ·) := List.Pairwise.filter _ List.pairwise_lt_range
            rw [hleft] at hp hm
            have := (List.pairwise_cons.1 hp).1
            rcases List.mem_cons.1 hm with q | q
            · omega
            · have := this e.on q; omega⟩
        rw [hnone] at this; cases this
    · have hmem := ready_left listed i hrd
      obtain ⟨l1, l2, he, hlt, hflt⟩ := left_split hmem
      obtain ⟨h0, o, ho, hpre⟩ := mem_ready.1 hrd
      have hsw : ∀ x, x ∈ opsOf ops l1 → swapD Ds ops x o = true := by
        intro x hx
        obtain ⟨j, hj, hx⟩ := List.mem_filterMap.1 hx
        rcases (chk1 i o ho).2 j x (hlt j hj) hx with q | q
        · exfalso
          have := masks_good (L := fun i => listed.getD i false = true) ops.toList [] [] rfl (by simpa using hc) (fun i hi j hj => by simp at hj) i (.inr ⟨o, by simpa using ho, fun e he hb => hpre e (by simpa using he) hb⟩) j q
          have hjl : j ∈ left listed ops.size := by rw [he]; simp [hj]
          have hj2 := (mem_left.1 hjl)
          have hb2 : j < listed.size := by omega
          simp [hb2] at this hj2
          simp [this] at hj2
        · exact q
      have e2 : opsOf ops (left listed ops.size) = opsOf ops l1 ++ o :: opsOf ops l2 := by rw [he]; simp [opsOf, List.filterMap_append, ho]
      rw [e2] at h
      have hdom : Dom (fun l => Φ.obj l ≠ none) σ := fun l hl q => hl (hi.obj_none q)
      have hfin : Fin (fun l => Φ.obj l ≠ none) := by
        obtain ⟨n, hn⟩ := hi.fresh
        exact ⟨n, fun l hl q => q (hn l hl)⟩
      have hkall : ∀ (j : Nat) x, ops[j]? = some x → keepsD Ds x = true := fun j x hx => by
        have h := hchk
        simp only [chkD, Bool.and_eq_true, List.all_eq_true] at h
        exact h.1 x (by rw [← Array.getElem?_toList] at hx; exact List.mem_of_getElem? hx)
      have hp := pull hKok (opsOf ops l2) o (opsOf ops l1) f _ σ hdom hfin hD hsw (fun x hx => by
        obtain ⟨j, hj, hx⟩ := List.mem_filterMap.1 hx
        exact hkall j x hx) h
      have e3 : opsOf ops (left (listed.setIfInBounds i true) ops.size) = opsOf ops l1 ++ opsOf ops l2 := by rw [left_set hsz, hflt]; simp [opsOf, List.filterMap_append]
      have hlen : (left (listed.setIfInBounds i true) ops.size).length = fuel := by
        rw [left_set hsz, hflt]
        rw [he] at hl
        simp at hl ⊢; omega
      have hcl : Closed ops (fun k => (listed.setIfInBounds i true).getD k false = true) := by
        intro k ok hk hlk e hek hb
        by_cases hki : k = i
        · subst hki
          rw [ho] at hk; cases hk
          exact getD_set_true (hpre e (by simpa using hek) hb)
        · have : listed.getD k false = true := by rw [← hlk, getD_set_ne _ (Ne.symm hki)]
          exact getD_set_true (hc k ok hk this e hek hb)
      -- what comes then
      have next : ∀ v mv σ' Φ' w' , Rel Φ' v mv → Inv Φ' w' σ' → Step Φ σ w Φ' σ' w' →
          (∃ U' : Nat → Prop, (∀ l, U' l → Φ.obj l ≠ none ∨ σ' l ≠ none) ∧ ∀ U1', (∀ l, U' l → U1' l) → gl P C ops (fun f' _ σ' => ∃ f'', FEq f' f'' ∧ Q .normal f'' σ') (opsOf ops l1 ++ opsOf ops l2) (mput f o.dst mv) U1' σ') →
          wpAny P .any ops (lift Φ0 σ0 w0 Q) fuel (listed.setIfInBounds i true) (a.put o.dst v) w' := by
        rintro v mv σ' Φ' w' r1 i1 s1 ⟨U', hu, hk⟩
        refine ih _ (mput f o.dst mv) σ' Φ' w' (a.put o.dst v) (by simpa using hsz) hlen hcl i1 (rels_put (hr.mono s1.le) o.dst r1) (by rw [put_defers', mput_d]; exact hd.mono s1.le) (hD.put (hkall i o ho) mv) (hs.trans s1) ?_
        rw [e3]
        refine hk _ fun l hl => ?_
        rcases hu l hl with q | q
        · intro hn
          cases hp : Φ.obj l with
          | none => exact q hp
          | some p => rw [s1.le.obj l p hp] at hn; cases hn
        · intro hn; exact q (i1.obj_none hn)
      unfold wpOp
      rw [ho]
      simp only
      have run : gs (fun l => Φ.obj l ≠ none) σ (gop P C f o.op) (fun v U1 σ1 => ∀ U1', (∀ l, U1 l → U1' l) → gl P C ops (fun f' _ σ' => ∃ f'', FEq f' f'' ∧ Q .normal f'' σ') (opsOf ops l1 ++ opsOf ops l2) (mput f o.dst v) U1' σ1) →
          o.wp P a w (wpAny P .any ops (lift Φ0 σ0 w0 Q) fuel (listed.setIfInBounds i true)) (lift Φ0 σ0 w0 Q) := by
        intro hg
        refine mop_sound (op_gs hg) Φ w a _ _ hi hr fun v mv σ' Φ' w' r1 i1 s1 hk => next v mv σ' Φ' w' r1 i1 s1 (hk fun l h1 h2 q => ?_)
        rcases s1.locs l _ (Option.ne_none_iff_exists'.1 h1).choose_spec with ⟨o', ho'⟩ | ho'
        · rw [h2] at ho'; cases ho'
        · exact q ho'
      unfold gfo at hp
      split at hp
      · rename_i hg
        have hw : Region.wanted o (yielded ops a.tmps) = true := by unfold Region.wanted; rw [hg]
        rw [if_pos hw]
        exact .inl (run hp)
      · rename_i j want hg
        split at hp
        · rename_i t ht
          split at hp
          · rename_i b hb
            have hmg : ∀ {A B : Prop}, (b = want → A) ∧ (b = (!want) → B) → (Region.wanted o (yielded ops a.tmps) = true ∧ A) ∨ (Region.wanted o (yielded ops a.tmps) = false ∧ B) := fun {A B} h =>
              mguard_sound (ops := ops) (o := o) (f := f) (by unfold mguard; rw [hg]; simp only [ht, hb]; exact h) hr
            split at hp
            · rename_i hbw
              rcases hmg (A := True) (B := False) ⟨fun _ => trivial, fun e => by rw [hbw] at e; cases want <;> cases e⟩ with ⟨hw, -⟩ | ⟨-, hw⟩
              · rw [if_pos hw]; exact .inl (run hp)
              · exact hw.elim
            · rename_i hbw
              rcases hmg (A := False) (B := True) ⟨fun e => hbw e, fun _ => trivial⟩ with ⟨-, hw⟩ | ⟨hw, -⟩
              · exact hw.elim
              · rw [if_neg (by simp [hw])]
                obtain ⟨-, U', hu, hk⟩ := pure_gs hp
                exact next undef .junk σ Φ w (.junk _) hi (.refl _ _ _) ⟨U', hu, hk⟩
          · exact (no_fail hp).elim
        · exact (no_fail hp).elim

/-- Operations one by one, calls by what is known of them. -/
def mopsC (P : Program) (C : Know) (ops : Array Oper) (K : FR → St → Prop) : List Oper → FR → St → Prop
  | [], f, σ => K f σ
  | o :: rest, f, σ => mguard ops f o (mopC P C f σ (fun v σ' => mopsC P C ops K rest (mput f o.dst v) σ') o.op) (mopsC P C ops K rest (mput f o.dst .junk) σ)

theorem gl_of {K : FR → St → Prop} : ∀ (l : List Oper) (f : FR) (U : Nat → Prop) (σ : St), Dom U σ → Fin U → mopsC P C ops K l f σ → gl P C ops (fun f' _ σ' => ∃ f'', FEq f' f'' ∧ K f'' σ') l f U σ := by
  intro l
  induction l with
  | nil => intro f U σ _ _ h; exact ⟨f, .refl f, h⟩
  | cons o r ih =>
    intro f U σ hd hf h
    simp only [mopsC] at h
    simp only [gl]
    have run : mopC P C f σ (fun v σ' => mopsC P C ops K r (mput f o.dst v) σ') o.op → gs U σ (gop P C f o.op) fun v U' σ' => gl P C ops (fun f' _ σ' => ∃ f'', FEq f' f'' ∧ K f'' σ') r (mput f o.dst v) U' σ' := fun h =>
      gs_mono (gs_op hd h) hd hf (fun v U' σ' hd' hf' _ hh => ih _ U' σ' hd' hf' hh) (wf_gop P C f o.op).1
    unfold mguard at h
    unfold gfo
    split at h
    · rename_i hg; simp only [hg]; exact run h
    · rename_i j want hg
      simp only [hg]
      split at h
      · rename_i t ht
        simp only [ht]
        split at h
        · rename_i b hb
          simp only [hb]
          split
          · rename_i hbw; exact run (h.1 hbw)
          · rename_i hbw
            have hb' : b = !want := by cases b <;> cases want <;> simp at hbw ⊢
            refine gs_imp (gs_mono (gs_pure (U := U) (pv := some (True, .junk)) (k := fun v σ' => v = .junk ∧ σ' = σ) ⟨trivial, rfl, rfl⟩) hd hf (k' := fun v U' σ' => v = .junk ∧ σ' = σ ∧ Dom U' σ' ∧ Fin U') (fun v U' σ' h1 h2 _ h3 => ⟨h3.1, h3.2, h1, h2⟩) (wf_pure _).1) ?_
            rintro v U' σ' ⟨rfl, rfl, h1, h2⟩
            exact ih _ U' _ h1 h2 (h.2 hb')
        · exact h.elim
      · exact h.elim

/-- A region whose order is drawn. -/
theorem mwp_drawD (hm : P.follows .mixedOrders = true) {Ds : List Nat} {loc : Nat → Nat} (hchk : chkD Ds ops = true) (C : Know) {id : Nat} {f : FR} {σ : St} {Q : MQ} (hD : DOk Ds loc f) (h : mopsC P C ops (Q .normal) ops.toList f σ) : mwp P (.region id ops true) f σ Q := by
  intro Φ w a hi hr hd
  have hi' : Inv Φ { w with drawn := w.drawn + 1 } σ := ⟨fun l o hl => by
    have := hi.own l o hl
    cases o <;> exact this, hi.inj, hi.snap, hi.apart, hi.fresh⟩
  have hst : Step Φ σ w Φ σ { w with drawn := w.drawn + 1 } := ⟨.refl Φ, rfl, rfl, rfl, Nat.le_succ _, Nat.le_refl _, fun _ _ _ => rfl, fun _ _ h => .inl h, fun l o h => .inl ⟨o, h⟩, fun _ h => .inl h⟩
  have hall : left (Array.replicate ops.size false) ops.size = List.range ops.size := by
    unfold left
    refine List.filter_eq_self.2 fun j hj => ?_
    have hj : j < ops.size := by simpa using hj
    simp [hj]
  have hops : opsOf ops (List.range ops.size) = ops.toList := by
    unfold opsOf
    apply List.ext_getElem?
    intro i
    have : ∀ (l : List Oper), (List.range l.length).filterMap (fun i => l[i]?) = l := by
      intro l
      induction l with
      | nil => rfl
      | cons a r ih =>
        rw [List.length_cons, List.range_succ_eq_map, List.filterMap_cons]
        simp only [List.getElem?_cons_zero, List.filterMap_map]
        congr 1
    have := this ops.toList
    simp only [Array.length_toList, Array.getElem?_toList] at this
    rw [this]
  refine wp_region_any hm (any_sound (C := C) hchk ops.size _ f σ Φ _ a (by simp) (by rw [hall]; simp) ?_ hi' hr hd hD hst ?_)
  · intro i o ho hl
    simp only [Array.getD_eq_getD_getElem?, Array.getElem?_replicate] at hl
    split at hl <;> simp at hl
  · rw [hall, hops]
    refine gl_of ops.toList f _ σ (fun l hl q => hl (hi.obj_none q)) ?_ h
    obtain ⟨n, hn⟩ := hi.fresh
    exact ⟨n, fun l hl q => q (hn l hl)⟩

theorem mwp_draw (hm : P.follows .mixedOrders = true) (hchk : chk ops = true) (C : Know) {id : Nat} {f : FR} {σ : St} {Q : MQ} (h : mopsC P C ops (Q .normal) ops.toList f σ) : mwp P (.region id ops true) f σ Q :=
  mwp_drawD (loc := fun _ => 0) hm hchk C ⟨fun t ht => (by cases ht), fun t t' ht => (by cases ht)⟩ h

end
end Go.Proofs.Ytielcgplbnlgbaa
