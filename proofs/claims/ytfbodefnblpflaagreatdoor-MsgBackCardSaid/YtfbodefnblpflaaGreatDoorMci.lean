/- Parts of the proof, joined. Each part says what it proves, and under which conditions it does: those that its theorems name. -/
import Derived.Test.YtfbodefnblpflaaGreatDoorMcg
import Derived.Test.YtfbodefnblpflaaGreatDoorMch
set_option linter.unusedVariables false
set_option linter.unusedSimpArgs false
set_option maxHeartbeats 4000000
section
namespace Go.Proofs.YtfbodefnblpflaaGreatDoor
def bitsL (m : Nat) : List Nat := (List.range 8).filter fun i => bit m i
def stepR (none : Bool) (x : F8 × RD) (i : Nat) : F8 × RD := (x.1.set i (valR x.2).1, if none = false ∧ (valR x.2).1.kd = 0 then failR 3 (valR x.2).2 else (valR x.2).2)
theorem fieldsR_bits (m : Nat) (none : Bool) (x : F8 × RD) : fieldsR m none 8 x = (bitsL m).foldl (stepR none) x := by
 have h : ∀ k, k ≤ 8 → ∀ x, fieldsR m none k x = (((List.range 8).drop (8 - k)).filter fun i => bit m i).foldl (stepR none) x := by
  intro k
  induction k with
  | zero => intro _ x; rfl
  | succ k ih =>
   intro hk x
   have e : (List.range 8).drop (8 - (k + 1)) = (7 - k) :: (List.range 8).drop (8 - k) := by
    rw [List.drop_eq_getElem_cons (by simp; omega)]
    congr 1
    ·simp
    ·congr 1; omega
   rw [e, fieldsR, ih (by omega), List.filter_cons]
   split
   ·rfl
   ·rfl
 exact h 8 (Nat.le_refl 8) x
theorem fieldsB_bits (m : Nat) (f : F8) : fieldsB m f 8 = ((bitsL m).map fun i => valB (f.get i)).flatten := by
 have h : ∀ k, k ≤ 8 → fieldsB m f k = ((((List.range 8).drop (8 - k)).filter fun i => bit m i).map fun i => valB (f.get i)).flatten := by
  intro k
  induction k with
  | zero => intro _; rfl
  | succ k ih =>
   intro hk
   have e : (List.range 8).drop (8 - (k + 1)) = (7 - k) :: (List.range 8).drop (8 - k) := by
    rw [List.drop_eq_getElem_cons (by simp; omega)]
    congr 1
    ·simp
    ·congr 1; omega
   rw [e, fieldsB, ih (by omega), List.filter_cons]
   split
   ·rfl
   ·rfl
 exact h 8 (Nat.le_refl 8)
theorem bitsL_lt {m i : Nat} (h : i ∈ bitsL m) : i < 8 := List.mem_range.1 (List.mem_filter.1 h).1
theorem bitsL_len (m : Nat) : (bitsL m).length ≤ 8 := by
 have := List.length_filter_le (fun i => bit m i) (List.range 8)
 rwa [List.length_range] at this
theorem bitsL_and (m : Nat) : bitsL (m &&& 255) = bitsL m := by
 unfold bitsL
 apply List.filter_congr
 intro i hi
 have hi := List.mem_range.1 hi
 unfold bit
 rw [Nat.testBit_and]
 have : (255 : Nat).testBit i = true := by
  have h : ∀ i, i < 8 → (255 : Nat).testBit i = true := by decide
  exact h i hi
 rw [this, Bool.and_true]
theorem bits_low : ∀ s : Nat, s < 256 → s ≠ 0 → bitsL s = (bitsL s).headD 0 :: bitsL (s &&& (s - 1)) := by decide +kernel
theorem bits_zero : bitsL 0 = [] := by decide
theorem ors_snoc (L : List Nat) (i : Nat) : (L ++ [i]).foldl (fun s n => s ||| 2 ^ n) 0 = L.foldl (fun s n => s ||| 2 ^ n) 0 ||| 2 ^ i := by simp
theorem ors_fold (p : Nat → Bool) (n : Nat) : ors p n = ((List.range n).filter p).foldl (fun s n => s ||| 2 ^ n) 0 := by
 induction n with
 | zero => rfl
 | succ n ih =>
  rw [ors, ih, List.range_succ, List.filter_append, List.filter_cons]
  split <;> simp
end Go.Proofs.YtfbodefnblpflaaGreatDoor
end

section
namespace Go.Proofs.YtfbodefnblpflaaGreatDoor
def hasB (s : Nat) (n : Int) : Bool := decide (0 ≤ n ∧ n ≤ 31 ∧ s / 2 ^ n.toNat % 2 = 1)
theorem half_pow (s : Nat) (k : Nat) : s / 2 ^ k / 2 = s / 2 ^ (k + 1) := by
 rw [Nat.pow_succ, Nat.div_div_eq_div_mul]
set_option maxHeartbeats 2000000 in
theorem rhas_call (s : Nat) (n : Int) (h1 : s < 4294967296) : MCalls Tryz.prog 130 [.int .u32 (s : Int), .int .i64 n] St.none (fun r _ => r = .bool (hasB s n)) := by
 refine (MCalls.body 22 [.tmp 4] Tryz.func130 rfl rfl rfl rfl ?_)
 by_cases hn : n < 0 ∨ 31 < n
 ·repeat' (first | (with_reducible first | (refine wN fun nl hnl => ?_; revert hnl; (repeat refine wS fun _ _ => ?_); intro hnl) | refine wD (by decide +kernel) ?_ | refine wI (fun h => ?_) fun h => ?_ | refine wF (fun h => ?_) fun h => ?_ | refine wG (fun h => ?_) fun h => ?_ | refine wH (fun h => ?_) fun h => ?_ | ((first | refine mfork_bool (fun h => ?_) fun h => ?_ | refine mgfork_bool (fun h => ?_) fun h => ?_) <;> simp only [h])) | simp (maxSteps := 4000000) (disch := first | decide | assumption | omega | (simp only [wL]; omega)) only [go_sem, simprocAttr, Tryz.f130])
  all_goals simp only [hasB, MV.bool.injEq, Bool.false_eq, decide_eq_false_iff_not]
  all_goals omega
 ·obtain ⟨m, rfl⟩ : ∃ m : Nat, n = m := ⟨n.toNat, by omega⟩
  repeat' (first | (with_reducible first | (refine wN fun nl hnl => ?_; revert hnl; (repeat refine wS fun _ _ => ?_); intro hnl) | refine wD (by decide +kernel) ?_ | refine wI (fun h => ?_) fun h => ?_ | refine wF (fun h => ?_) fun h => ?_ | refine wG (fun h => ?_) fun h => ?_ | refine wH (fun h => ?_) fun h => ?_ | ((first | refine mfork_bool (fun h => ?_) fun h => ?_ | refine mgfork_bool (fun h => ?_) fun h => ?_) <;> simp only [h])) | simp (maxSteps := 4000000) (disch := first | decide | assumption | omega | (simp only [wL]; omega)) only [go_sem, simprocAttr, Tryz.f130])
  refine mloop_intro (α := Nat) (fun a => ⟨22, [(5, .int .i64 (a : Int)), (0, .int .u32 ((s / 2 ^ a : Nat) : Int)), (1, .int .i64 (m : Int))], []⟩) (fun _ => St.none)
   (fun a => a ≤ m) (fun a => m - a) (.of (.less ?_ (St.le_refl _)) ⟨0, rfl, rfl, Nat.zero_le _⟩) ?_
  ·simp (maxSteps := 4000000) (disch := first | decide | assumption | omega | (simp only [wL]; omega)) only [go_sem, simprocAttr, weak_int, weak_same, Nat.pow_zero, Nat.div_one]
   all_goals rfl
  ·intro k hk
   have hk : k ≤ m := hk
   have hb : s / 2 ^ k < 4294967296 := Nat.lt_of_le_of_lt (Nat.div_le_self ..) h1
   by_cases hlt : k < m
   ·repeat' (first | (with_reducible first | (refine wN fun nl hnl => ?_; revert hnl; (repeat refine wS fun _ _ => ?_); intro hnl) | refine wD (by decide +kernel) ?_ | refine wI (fun h => ?_) fun h => ?_ | refine wF (fun h => ?_) fun h => ?_ | refine wG (fun h => ?_) fun h => ?_ | refine wH (fun h => ?_) fun h => ?_ | ((first | refine mfork_bool (fun h => ?_) fun h => ?_ | refine mgfork_bool (fun h => ?_) fun h => ?_) <;> simp only [h])) | simp (maxSteps := 4000000) (disch := first | decide | assumption | omega | (simp only [wL]; omega)) only [go_sem, simprocAttr, Nat.add_zero])
    refine .of (.less (l1 := [(5, .int .i64 ((k + 1 : Nat) : Int)), (0, .int .u32 ((s / 2 ^ (k + 1) : Nat) : Int)), (1, .int .i64 (m : Int))]) ?_ (St.le_refl _)) ⟨k + 1, rfl, rfl, by omega, by omega⟩
    rw [← half_pow]
    have ew : IntKind.u32.wrap (((s / 2 ^ k : Nat) : Int).tdiv 2) = ((s / 2 ^ k / 2 : Nat) : Int) := by
     generalize s / 2 ^ k = w at hb ⊢
     have e2 : ((w : Int)).tdiv 2 = ((w / 2 : Nat) : Int) := by
      rw [Int.tdiv_eq_ediv_of_nonneg (by omega)]
      omega
     rw [e2]
     simp only [IntKind.wrap, IntKind.signed, IntKind.bits]
     simp
     omega
    simp (maxSteps := 4000000) (disch := first | decide | assumption | omega | (simp only [wL]; omega)) only [go_sem, simprocAttr, weak_int, weak_same, ew]
    all_goals rfl
   ·have : k = m := by omega
    subst this
    repeat' (first | (with_reducible first | (refine wN fun nl hnl => ?_; revert hnl; (repeat refine wS fun _ _ => ?_); intro hnl) | refine wD (by decide +kernel) ?_ | refine wI (fun h => ?_) fun h => ?_ | refine wF (fun h => ?_) fun h => ?_ | refine wG (fun h => ?_) fun h => ?_ | refine wH (fun h => ?_) fun h => ?_ | ((first | refine mfork_bool (fun h => ?_) fun h => ?_ | refine mgfork_bool (fun h => ?_) fun h => ?_) <;> simp only [h])) | simp (maxSteps := 4000000) (disch := first | decide | assumption | omega | (simp only [wL]; omega)) only [go_sem, simprocAttr])
    simp only [hasB, Int.toNat_natCast, MV.bool.injEq]
    have e2 : (((s / 2 ^ k : Nat) : Int).tmod 2) = ((s / 2 ^ k % 2 : Nat) : Int) := by
     generalize s / 2 ^ k = w at hb ⊢
     rw [Int.tmod_eq_emod_of_nonneg (by omega)]
     omega
    refine decide_eq_decide.mpr ?_
    rw [e2]
    generalize s / 2 ^ k % 2 = w
    omega
end Go.Proofs.YtfbodefnblpflaaGreatDoor
end

section
namespace Go.Proofs.YtfbodefnblpflaaGreatDoor
theorem St.minus_le (σ τ : St) : (σ.minus τ).le σ := fun l o h => (minus_some h).2
theorem mwp_rangeFunc {P : Program} {g : Operand} {ps : Array Tmp} {assign body : Code} {f : FR} {σ : St} {Q : MQ} {gf : FuncId} {ns : List MV} (hg : mval f g = .fn (.func gf) [] ns) {σi : St} (hle : σi.le σ) {xs : List (List MV)}
  (hseq : MSeq P gf ns σi xs) (hx : ∀ x, x ∈ xs → x.length = ps.size) (nda : noDefer assign = true) (ndb : noDefer body = true) {α : Type} (fc : FR) (hd0 : fc.d = f.d) (S : Nat → α → St) (p : Nat → α → Prop)
  (h0 : Gh f (σ.minus σi) fun f1 σ1 => f1 = fc ∧ ∃ a, σ1 = S 0 a ∧ p 0 a)
  (round : ∀ i x a, xs[i]? = some x → p i a → mwp P assign (mputs ⟨fc.n, fc.l, []⟩ ps.toList x) (S i a) (onlyN fun f1 σ1 => mwp P body f1 σ1 (roundQ Q fc fun σ2 => ∃ b, σ2 = S (i + 1) b ∧ p (i + 1) b)))
  (done : ∀ a, p xs.length a → Q .normal fc (S xs.length a)) : mwp P (.rangeFunc g ps assign body) f σ Q := by
 intro F hF Φ w a hi hr hd
 have hF' : F = Fence.wide := by
  rcases hF with h | ⟨l, _, h⟩
  ·exact h
  ·cases h
 subst hF'
 obtain ⟨f1, σ1, Φ1, -, ⟨rfl, a0, rfl, p0⟩, i1, r1, st1⟩ := h0 Φ w a.tmps (hi.less (St.minus_le σ σi)) hr
 have hv := rel_mval hr g
 rw [hg] at hv
 obtain ⟨first, cap, he, hfirst, hcap⟩ := hv.inv_fn
 have hfe : first = #[] := by
  have := hfirst.1
  exact Array.eq_empty_of_size_eq_zero (by simpa using this)
 subst hfe
 obtain ⟨fnn, hfn, hbody, hname⟩ := hseq.1
 have eg : ∀ (args : Array Value) (w : World), (callFunc gf args).run P w = .ok (.enter gf args) w := fun args w => by
  simp only [callFunc, Sem.run_bind, run_program, hfn, hname, hbody, Result.andThen_ok, Bool.false_eq_true, if_false, Sem.run_pure]
 refine wpIn_rangeFunc fun fn _ => ?_
 obtain ⟨rec, hrec⟩ : ∃ rec : LoopState → Option Code → Loop, rec = fun st pe => { state := st, pending := pe, fn, tmps := a.tmps, params := ps, assign, body, defers := w.heap.size } := ⟨_, rfl⟩
 obtain ⟨W1, hW1⟩ : ∃ W1, (w.alloc (.deferred (some []))).alloc (.loop (rec .ready none)) = W1 := ⟨_, rfl⟩
 have sz1 : W1.heap.size = w.heap.size + 2 := by rw [← hW1, World.size_alloc, World.size_alloc]
 have old : ∀ k, k < w.heap.size → W1.heap[k]? = w.heap[k]? := fun k hk => by
  rw [← hW1]
  show ((w.heap.push _).push _)[k]? = _
  rw [Array.getElem?_push, if_neg (by simp; omega), Array.getElem?_push, if_neg (by omega)]
 have hL : W1.heap[w.heap.size + 1]? = some (.loop (rec .ready none)) := by
  rw [← hW1]; have := World.alloc_heap_new (w.alloc (.deferred (some []))) (.loop (rec .ready none)); rwa [World.size_alloc] at this
 have hD : W1.heap[w.heap.size]? = some (Obj.deferred (some [])) := by
  rw [← hW1]
  show ((w.heap.push _).push _)[w.heap.size]? = _
  rw [Array.getElem?_push, if_neg (by simp), Array.getElem?_push, if_pos rfl]
 have eos : W1.os = w.os := by rw [← hW1]; rfl
 have eta : W1.tape = w.tape := by rw [← hW1]; rfl
 have eou : W1.output = w.output := by rw [← hW1]; rfl
 have edr : W1.drawn = w.drawn := by rw [← hW1]; rfl
 have gr : ∀ {Φ : Phi} {σ : St}, Inv Φ w σ → Inv Φ W1 σ ∧ Step Φ σ w Φ σ W1 := fun h => h.grow eos eta eou (by omega) (by omega) old
 have own1 : ∀ k, Owned Φ1 (S 0 a0) k → Owned Φ (σ.minus σi) k := fun k hk => by
  rcases st1.ownd k hk with q | q
  ·exact q
  ·exfalso
   obtain ⟨l, o, p, h1, h2, h3⟩ := hk
   obtain ⟨p', e, hlt⟩ := (i1.own l o h1).place
   rw [h2] at e; cases e
   have := hlt k h3
   omega
 have ownσ : ∀ {τ : St}, τ.le σ → ∀ k, Owned Φ τ k → Owned Φ σ k := fun hτ k hk => hk.less hτ
 have apart2 : ∀ k, Owned Φ (σ.minus σi) k → ¬ Owned Φ σi k := fun k ⟨l, o, p, h1, h2, h3⟩ ⟨l', o', p', h4, h5, h6⟩ => by
  have e := hi.inj l l' o o' p p' k (minus_some h1).2 (hle l' o' h4) h2 h5 h3 h6
  subst e
  have := (minus_some h1).1
  rw [h4] at this; cases this
 have hb := hd.base
 obtain ⟨S0, hS0⟩ : ∃ S0 : YS, S0 = ⟨W1, fun k => Owned Φ1 (S 0 a0) k ∨ k = w.heap.size + 1, Φ1.snap⟩ := ⟨_, rfl⟩
 have c0 : CStep Φ σ w.heap.size Φ1 (S 0 a0) := ⟨st1.le, fun b v q => (st1.snapn b v q).imp_right (fun q => q.imp_right (ownσ (St.minus_le _ _) _)), fun l o q => by
  rcases st1.locs l o q with ⟨o', h⟩ | h
  ·exact .inl ⟨o', (minus_some h).2⟩
  ·exact .inr h, fun R hR => .inl (ownσ (St.minus_le _ _) _ (own1 R hR))⟩
 have cst0 : CSt Φ σ w.heap.size a.tmps f1 (w.heap.size + 1) (rec .ready none) (S 0 a0) S0 Φ1 := by
  subst hS0
  exact ⟨(gr i1).1, r1, c0, fun _ => Iff.rfl, fun _ => rfl, hL, by simp only; omega, by simp only; rw [st1.le.base]; omega⟩
 have apt0 : Apt Φ σi S0 W1 := by
  have hag := cst0.agree
  subst hS0
  refine ⟨hag, fun k hk => ?_, fun b v q' => ?_, fun b v q hk => ?_⟩
  ·rcases hk with hk | rfl
   ·exact apart2 k (own1 k hk)
   ·exact (gr (hi.less hle)).1.loopNot hL
  ·rintro ⟨l, o, p, h1, h2, h3⟩
   rcases st1.snapn b v q' with q | q | q
   ·exact hi.apart l o p b.block b v (hle l o h1) h2 h3 q rfl
   ·have hlt := World.block_lt_of_cell? w b (i1.snap b v q')
    omega
   ·exact apart2 _ q ⟨l, o, p, h1, h2, h3⟩
  ·have hbl := World.block_lt_of_cell? w b (hi.snap b v q)
   rcases hk with hk | hk
   ·obtain ⟨l, o, p, h1, h2, h3⟩ := own1 _ hk
    exact hi.apart l o p b.block b v (minus_some h1).2 h2 h3 q rfl
   ·omega
 refine ⟨w.heap.size + 1, [{ target := .collected w.heap.size, args := #[] }], W1, { target := .fn (.func gf) cap, args := #[.func (.yield (w.heap.size + 1)) #[] #[]] }, W1, gf,
  #[.func (.yield (w.heap.size + 1)) #[] #[]] ++ cap, W1, ?_, ?_, fun _ _ => trivial, ?_, (fun q => by cases q), ?_⟩
 ·rw [← hW1, hrec]; exact run_enterLoop_outer _ _ _ _ _
 ·simp only [resolve, he]
  simp [go_sem]
 ·simp [invoke, go_sem, eg]
 ·refine callsIn_wide.2 ((hseq.2 (w.heap.size + 1)
   (fun i Sx => ∃ b Φc, p i b ∧ CSt Φ σ w.heap.size a.tmps f1 (w.heap.size + 1) (rec .ready none) (S i b) Sx Φc)
   (fun Sx => ∃ c σc Φc, ((c = .ret ∧ Q .ret f1 σc) ∨ ∃ id, c = .exit id ∧ Q (.exit id) f1 σc) ∧ CSt Φ σ w.heap.size a.tmps f1 (w.heap.size + 1) (rec .done (some c)) σc Sx Φc)
   Φ W1 S0 cap ?_ (gr (hi.less hle)).1 apt0 ⟨a0, Φ1, p0, cst0⟩ hcap).mono ?_)
  ·rintro i x Sx W Ψ vs hix ⟨b, Φc, pb, cs⟩ hag hsz ho hs hvs
   have hx' := hx x (List.mem_of_getElem? hix)
   have := round_at (P := P) rec hrec nda ndb hx' (round i x b hix pb) cs hag (by omega) ho (fun u v q => ⟨(hs u v q).1, (hs u v q).2.1, (hs u v q).2.2.imp_right fun q => q.imp (fun q => by omega) (ownσ hle _)⟩) hvs
   obtain ⟨fn', t', as', bd', e1, e2⟩ := this
   refine ⟨fn', t', as', bd', e1, e2.mono ?_⟩
   rintro e w' ⟨bb, S', q1, q2, q3, q4, q5, q6, q7, q8, q9, q10, q11, q12⟩
   refine ⟨bb, S', q1, q2, q3, q4, q5, q6, q7, q8, q9, q10, q11, ?_⟩
   cases bb with
   | true =>
    obtain ⟨σ2, Φ2, ⟨b', rfl, pb'⟩, cs'⟩ := q12
    exact ⟨b', Φ2, pb', cs'⟩
   | false => exact q12
  ·rintro e w3 ⟨v, Φe, σe, S', rfl, ie, apt, stS, hy⟩
   -- the loop's side behind the iterator
   have fin : ∀ (st : Loop) (σc : St) (Φc : Phi), CSt Φ σ w.heap.size a.tmps f1 (w.heap.size + 1) st σc S' Φc → st.state ≠ .busy → ∃ w4, (Instr.endLoop (w.heap.size + 1)).run P w3 = .ok st.pending w4 ∧
     Inv Φc w4 σc ∧ Step Φ σ w Φc σc w4 ∧ DRel Φc w4 ({ target := .collected w.heap.size, args := #[] } :: a.defers) f1.d := by
    intro st σc Φc cs hbusy
    have hlr : w3.heap[w.heap.size + 1]? = some (.loop st) := (apt.agree.same _ ((cs.wr _).2 (.inr rfl))).trans cs.lrec
    obtain ⟨w4, hw4⟩ : ∃ w4, w3.putObj (w.heap.size + 1) (.loop { st with state := .exhausted }) = w4 := ⟨_, rfl⟩
    have hend := run_endLoop (P := P) hlr hbusy
    rw [hw4] at hend
    have sz4 : w4.heap.size = w3.heap.size := by rw [← hw4, World.putObj_size]
    have szz : w.heap.size + 2 ≤ w3.heap.size := by have := stS.size; omega
    have i3 : Inv Φc w3 σc := by
     have hwr : ∀ k, Owned Φc σc k → w3.heap[k]? = S'.w.heap[k]? := fun k hk => apt.agree.same k ((cs.wr k).2 (.inl hk))
     exact ⟨fun l' o hl => (cs.inv.own l' o hl).mono (.refl _) fun p R h1 h2 => hwr R ⟨l', o, p, hl, h1, h2⟩, cs.inv.inj, fun b u q => apt.agree.sn b u (by rw [cs.sn b]; exact q), cs.inv.apart, cs.inv.fresh⟩
    have i4 : Inv Φc w4 σc := by rw [← hw4]; exact i3.putObj _ hlr (fun _ _ _ e => by cases e) (fun _ _ e => by cases e)
    have blk : ∀ k, k < w.heap.size → ¬ Owned Φ σ k → w4.heap[k]? = w.heap[k]? := fun k hk hn => by
     rw [← hw4, World.putObj_heap_other (by omega), stS.block k (by omega) (fun q => hn (ownσ hle k q)) (fun q => ?_), old k hk]
     subst hS0
     rcases q with q | q
     ·exact hn (ownσ (St.minus_le _ _) k (own1 k q))
     ·omega
    have hmark : w4.heap[w.heap.size]? = some (Obj.deferred (some [])) := by
     rw [← hw4, World.putObj_heap_other (by omega), stS.block _ (by omega) ((gr (hi.less hle)).1.mark hD) (fun q => ?_), hD]
     subst hS0
     rcases q with q | q
     ·exact (gr i1).1.mark hD q
     ·omega
    have step4 : Step Φ σ w Φc σc w4 :=
     ⟨cs.step.le, by rw [← hw4]; exact stS.os.trans eos, by rw [← hw4]; exact stS.tape.trans eta, by rw [← hw4]; exact stS.output.trans eou, by
      have e : w4.drawn = w3.drawn := by rw [← hw4]; rfl
      have := stS.drawn; omega, by omega, blk, cs.step.snapn, cs.step.locs, cs.step.ownd⟩
    refine ⟨w4, hend, i4, step4, .inl ⟨w.heap.size, rfl, by rw [cs.step.le.base]; exact hb, hmark, fun y hy e => ?_, hd0 ▸ hd.step hi step4⟩⟩
    -- the mark is a new one
    have : ∀ (ds : List Deferred) (d : List (FuncId × List MV)), DRel Φ w ds d → ∀ y, y ∈ ds → y.target ≠ .collected w.heap.size := by
     intro ds
     induction ds with
     | nil => intro d _ y hy; cases hy
     | cons z ds ih =>
      intro d h y hy
      rcases h with ⟨D, k1, k2, k3, k4, k5⟩ | ⟨g, ms, r, cp, k1, k2, k3, k4⟩
      ·rcases List.mem_cons.1 hy with rfl | hy
       ·rw [k1]; intro e; cases e
        have := (Array.getElem?_eq_some_iff.1 k3).1
        omega
       ·exact ih d k5 y hy
      ·rcases List.mem_cons.1 hy with rfl | hy
       ·rw [k2]; intro e; cases e
       ·exact ih r k4 y hy
    exact this a.defers f.d hd y hy e
   rcases hy with ⟨b, Φc, pb, cs⟩ | ⟨c, σc, Φc, hc, cs⟩
   ·obtain ⟨w4, hend, i4, s4, d4⟩ := fin _ _ _ cs (by rw [hrec]; simp)
    refine ⟨none, w4, by rw [hend, hrec], f1, _, Φc, d4, cs.frame, i4, s4, done b pb⟩
   ·obtain ⟨w4, hend, i4, s4, d4⟩ := fin _ _ _ cs (by rw [hrec]; simp)
    refine ⟨some c, w4, by rw [hend, hrec], ?_⟩
    rcases hc with ⟨rfl, q⟩ | ⟨id, rfl, q⟩
    ·exact wpIn_ret ⟨f1, _, Φc, d4, cs.frame, i4, s4, q⟩
    ·exact wpIn_exit ⟨f1, _, Φc, d4, cs.frame, i4, s4, q⟩
end Go.Proofs.YtfbodefnblpflaaGreatDoor
end

section
namespace Go.Proofs.YtfbodefnblpflaaGreatDoor
inductive NoObj : MV → Prop where
 | flat {m : MV} (h : Flat m) : NoObj m
 | lst {e : Nat} {xs : List (List MV)} {t : Bool} (h : ∀ x, x ∈ xs → ∀ m, m ∈ x → NoObj m) : NoObj (.lst e xs t)
 | cptr {cs : List MV} (h : ∀ m, m ∈ cs → NoObj m) : NoObj (.cptr cs)
 | agg {cs : List MV} (h : ∀ m, m ∈ cs → NoObj m) : NoObj (.agg cs)
theorem NoObj.rel {Φ Φ' : Phi} (hs : ∀ a v, Φ.snap a = some v → Φ'.snap a = some v) {m : MV} (h : NoObj m) : ∀ {v : Value}, Rel Φ v m → Rel Φ' v m := by
 induction h with
 | flat h => intro v r; exact h.rel r
 | lst h ih =>
  intro v r
  cases r with
  | lstn => exact .lstn _ _
  | lst0 a _ cap _ ht hm => exact .lst0 a _ cap _ ht hm
  | lst hl h0 hcap hm ht hx vs hc hr =>
   exact .lst hl h0 hcap hm ht hx vs (fun i x j m a b => ⟨(hc i x j m a b).1, hs _ _ (hc i x j m a b).2⟩) fun i x j m a b => ih x (List.mem_of_getElem? a) m (List.mem_of_getElem? b) (hr i x j m a b)
 | cptr h ih =>
  intro v r
  cases r with
  | cptr vs hc hr => exact .cptr vs (fun j m hm => ⟨(hc j m hm).1, hs _ _ (hc j m hm).2⟩) fun j m hm => ih m (List.mem_of_getElem? hm) (hr j m hm)
 | agg h ih =>
  intro v r
  cases r with
  | agg h1 h2 h3 => exact .agg h1 h2 fun i m hm => ih m (List.mem_of_getElem? hm) (h3 i m hm)
structure YC where
 l : Nat
 xs : List (List MV)
 Y : Nat → YS → Prop
 Yx : YS → Prop
 Φ0 : Phi
 σ0 : St
 n0 : Nat
def YC.st (C : YC) : Option Nat → YS → Prop
 | some i, S => C.Y i S
 | none, S => C.Yx S
structure YInv (C : YC) (Φ : Phi) (σ : St) (w : World) (S : YS) (t : Option Nat) : Prop where
 inv : Inv Φ w σ
 apt : Apt Φ σ S w
 snapn : ∀ a v, Φ.snap a = some v → C.Φ0.snap a = some v ∨ C.n0 ≤ a.block ∨ Owned C.Φ0 C.σ0 a.block
 ownd : ∀ R, Owned Φ σ R → Owned C.Φ0 C.σ0 R ∨ C.n0 ≤ R
 size : C.n0 ≤ w.heap.size
 st : C.st t S
abbrev YQ := Exit → FR → St → Option Nat → Prop
def liftY (C : YC) (Φ : Phi) (σ : St) (w : World) (S : YS) (Q : YQ) : Exit → Act → World → Prop := fun e a' w' =>
 ∃ f' σ' t' Φ' S', YInv C Φ' σ' w' S' t' ∧ FRel Φ' a'.tmps f' ∧ DRel Φ' w' a'.defers f'.d ∧ StepS Φ σ w S Φ' σ' w' S' ∧ Q e f' σ' t'
def ywp (P : Program) (C : YC) (c : Code) (f : FR) (σ : St) (t : Option Nat) (Q : YQ) : Prop :=
 ∀ F, FOk F c → ∀ Φ w a S, YInv C Φ σ w S t → FRel Φ a.tmps f → DRel Φ w a.defers f.d → c.wpIn F 0 P (liftY C Φ σ w S Q) a w
section rules
variable {P : Program} {C : YC} {f : FR} {σ : St} {t : Option Nat} {Q : YQ}
theorem liftY_le {Φ Φ1 : Phi} {σ σ1 : St} {w0 w1 : World} {S S1 : YS} (h : StepS Φ σ w0 S Φ1 σ1 w1 S1) {e : Exit} {a : Act} {w : World} (k : liftY C Φ1 σ1 w1 S1 Q e a w) : liftY C Φ σ w0 S Q e a w :=
 let ⟨f', σ', t', Φ', S', h1, h2, h3, h4, h5⟩ := k
 ⟨f', σ', t', Φ', S', h1, h2, h3, h.trans h4, h5⟩
theorem YInv.go {Φ Φ' : Phi} {σ σ' : St} {w w' : World} {S : YS} (h : YInv C Φ σ w S t) (i : Inv Φ' w' σ') (s : Step Φ σ w Φ' σ' w') : YInv C Φ' σ' w' S t :=
 ⟨i, h.apt.step s, fun a v q => by
  rcases s.snapn a v q with q | q | q
  ·exact h.snapn a v q
  ·exact .inr (.inl (Nat.le_trans h.size q))
  ·rcases h.ownd _ q with q | q
   ·exact .inr (.inr q)
   ·exact .inr (.inl q), fun R hR => by
  rcases s.ownd R hR with q | q
  ·exact h.ownd R q
  ·exact .inr (Nat.le_trans h.size q), Nat.le_trans h.size s.size, h.st⟩
theorem ywp_of {c : Code} (h : mwp P c f σ fun e f' σ' => Q e f' σ' t) : ywp P C c f σ t Q :=
 fun F hF Φ w a S hi hr hd => wpIn_mono (h F hF Φ w a hi.inv hr hd) fun _ _ _ ⟨f', σ', Φ', x1, x2, x3, x4, q⟩ => ⟨f', σ', t, Φ', S, hi.go x3 x4, x2, x1, .of S x4, q⟩
def thenY (next : FR → St → Option Nat → Prop) (Q : YQ) : YQ
 | .normal, f, σ, t => next f σ t
 | e, f, σ, t => Q e f σ t
theorem ywp_seq {x y : Code} (h : ywp P C x f σ t (thenY (fun f' σ' t' => ywp P C y f' σ' t' Q) Q)) : ywp P C (.seq x y) f σ t Q := by
 intro F hF Φ w a S hi hr hd
 refine wpIn_seq (wpIn_mono (h F hF.seq1 Φ w a S hi hr hd) fun e a' w' ⟨f', σ', t', Φ', S', h1, h2, h3, h4, q⟩ => ?_)
 cases e with
 | normal => exact wpIn_mono (q F hF.seq2 Φ' w' a' S' h1 h2 h3) fun _ _ _ hq => liftY_le h4 hq
 | _ => exact ⟨f', σ', t', Φ', S', h1, h2, h3, h4, q⟩
def blockY (id : Nat) (Q : YQ) : YQ
 | .exit id', f, σ, t => if id' = id then Q .normal f σ t else Q (.exit id') f σ t
 | e, f, σ, t => Q e f σ t
theorem ywp_block {id : Nat} {c : Code} (h : ywp P C c f σ t (blockY id Q)) : ywp P C (.block id c) f σ t Q := by
 intro F hF Φ w a S hi hr hd
 refine wpIn_block (wpIn_mono (h F hF.block Φ w a S hi hr hd) fun e a' w' ⟨f', σ', t', Φ', S', h1, h2, h3, h4, q⟩ => ?_)
 cases e with
 | exit id' =>
  simp only [Exit.inBlock]
  simp only [blockY] at q
  split
  ·rw [if_pos (by assumption)] at q; exact ⟨f', σ', t', Φ', S', h1, h2, h3, h4, q⟩
  ·rw [if_neg (by assumption)] at q; exact ⟨f', σ', t', Φ', S', h1, h2, h3, h4, q⟩
 | _ => exact ⟨f', σ', t', Φ', S', h1, h2, h3, h4, q⟩
theorem ywp_gh {c : Code} (h : Gh f σ fun f1 σ1 => ywp P C c f1 σ1 t Q) : ywp P C c f σ t Q := by
 intro F hF Φ w a S hi hr hd
 obtain ⟨f1, σ1, Φ1, hf, k1, i1, r1, s1⟩ := h Φ w a.tmps hi.inv hr
 exact wpIn_mono (k1 F hF Φ1 w a S (hi.go i1 s1) r1 (hf ▸ hd.step hi.inv s1)) fun _ _ _ hq => liftY_le (.of S s1) hq
theorem ywp_loop {α : Type} {c : Code} (Fr : α → FR) (Sr : α → St) (T : α → Option Nat) (p : α → Prop) (μ : α → Nat) (h0 : Gh f σ fun f1 σ1 => ∃ a, f1 = Fr a ∧ σ1 = Sr a ∧ t = T a ∧ p a)
  (round : ∀ a, p a → ywp P C c (Fr a) (Sr a) (T a) (thenY (fun f' σ' t' => Gh f' σ' fun f1 σ1 => ∃ b, f1 = Fr b ∧ σ1 = Sr b ∧ t' = T b ∧ p b ∧ μ b < μ a) Q)) : ywp P C (.loop c) f σ t Q := by
 refine ywp_gh (fun Φ w vs hi hr => ?_)
 obtain ⟨f1, σ1, Φ1, hf, ⟨a0, e1, e2, e3, p0⟩, i1, r1, s1⟩ := h0 Φ w vs hi hr
 subst e1; subst e2; subst e3
 refine ⟨_, _, Φ1, hf, ?_, i1, r1, s1⟩
 clear h0 hi hr s1 i1 r1 hf
 intro Fe hF Φ w a S hi hr hd b k cs hro hb hroom
 have key : ∀ n x Φ w a S, μ x = n → p x → YInv C Φ (Sr x) w S (T x) → FRel Φ a.tmps (Fr x) → DRel Φ w a.defers (Fr x).d →
   ∃ e a' w', liftY C Φ (Sr x) w S Q e a' w' ∧ ArrivesIn (Machine.fenced P Fe) P (lone (b.atR a (.code c :: .inLoop c :: k)) cs w) b k cs e a' w' := by
  intro n
  induction n using Nat.strongRecOn with
  | _ n ih =>
   intro x Φ w a S hn hI hi hr hd
   obtain ⟨e, a₁, w₁, hq, harr⟩ := round x hI Fe hF.loop Φ w a S hi hr hd b (.inLoop c :: k) cs hro hb hroom
   cases e with
   | normal =>
    obtain ⟨f', σ', t', Φ', S', y1, y2, y3, y4, g2⟩ := hq
    obtain ⟨f2, σ2, Φ2, g0, ⟨x2, e1, e2, e3, hI2, hlt⟩, i2, r2, s2⟩ := g2 Φ' w₁ a₁.tmps y1.inv y2
    subst e1; subst e2; subst e3
    obtain ⟨e₂, a₂, w₂, hq₂, harr₂⟩ := ih (μ x2) (hn ▸ hlt) x2 Φ2 w₁ a₁ S' rfl hI2 (y1.go i2 s2) r2 (g0 ▸ y3.step y1.inv s2)
    exact ⟨e₂, a₂, w₂, liftY_le (y4.trans (.of S' s2)) hq₂, .of_steps (StepsIn.trans harr (.one (fenced_calm hb hroom rfl) stepR_inLoop)) harr₂⟩
   | exit id => exact ⟨_, a₁, w₁, hq, .pass (x := .inLoop c) rfl (fun _ _ => .inl (by simp)) harr⟩
   | goto l => exact ⟨_, a₁, w₁, hq, .pass (x := .inLoop c) rfl (fun _ _ => .inl (by simp)) harr⟩
   | ret => exact ⟨_, a₁, w₁, hq, .pass (x := .inLoop c) rfl (fun _ _ => .inl (by simp)) harr⟩
   | panic ch => exact ⟨_, a₁, w₁, hq, .pass (x := .inLoop c) rfl (fun _ _ => .inl (by simp)) harr⟩
   | outgrown => exact ⟨_, a₁, w₁, hq, .pass (x := .inLoop c) rfl (fun _ _ => .inl (by simp)) harr⟩
 obtain ⟨e, a', w', hq, harr⟩ := key _ a0 Φ w a S rfl p0 hi hr hd
 exact ⟨e, a', w', hq, .of_steps (.one (fenced_calm hb hroom rfl) stepR_loop) harr⟩
theorem mops_run {ops : Array Oper} {K : FR → St → Prop} {F : Fence} {Qm : Exit → Act → World → Prop} {rest : List Oper} : ∀ (l : List Oper), (F = Fence.wide ∨ ∃ l0, F = Fence.wide.inRound l0) → (∀ o, o ∈ l → ∀ c, o.op ≠ .defer c) → ∀ (f : FR) (σ : St) (Φ : Phi) (w : World) (a : Act),
  mops P ops K l f σ → Inv Φ w σ → FRel Φ a.tmps f → DRel Φ w a.defers f.d →
  (∀ f' σ' Φ' w' a', K f' σ' → Inv Φ' w' σ' → FRel Φ' a'.tmps f' → DRel Φ' w' a'.defers f'.d → Step Φ σ w Φ' σ' w' → wpListIn F 0 P ops Qm rest a' w') → wpListIn F 0 P ops Qm (l ++ rest) a w := by
 intro l hF
 have hfn : ∀ g, F.fn g := fun g => by rcases hF with rfl | ⟨l, rfl⟩ <;> trivial
 induction l with
 | nil => intro _ f σ Φ w a h hi hr hd hk; exact hk f σ Φ w a h hi hr hd (.refl _ _ _)
 | cons o r ih =>
  intro hdf f σ Φ w a h hi hr hd hk
  have hdo : ∀ c, o.op ≠ .defer c := hdf o (by simp)
  have ih := ih fun o ho => hdf o (by simp [ho])
  have hFo : F = Fence.wide ∨ ∃ l0, F = Fence.wide.inRound l0 ∧ ∀ c, o.op ≠ .defer c := hF.imp id fun ⟨l0, e⟩ => ⟨l0, e, hdo⟩
  simp only [mops] at h
  rw [List.cons_append]
  unfold wpListIn
  rcases mguard_sound h hr with ⟨hw, hy⟩ | ⟨hw, hn⟩
  ·rw [if_pos hw]
   refine wpIn_of_wp hFo (mstep_sound hdo hy Φ w a _ _ hi hr fun v mv σ' Φ' w' r1 i1 s1 hk1 => ?_)
   exact ih _ _ Φ' w' (a.put o.dst v) hk1 i1 (rels_put (hr.mono s1.le) o.dst r1) (by rw [put_defers', mput_d]; exact hd.step hi s1) fun f' σ' Φ2 w2 a2 k1 k2 k3 k4 k5 => hk f' σ' Φ2 w2 a2 k1 k2 k3 k4 (s1.trans k5)
  ·rw [if_neg (by simp [hw])]
   exact ⟨fun f _ => hfn f, ih _ _ Φ w (a.put o.dst undef) hn hi (rels_put hr o.dst rel_undef) (by rw [put_defers', mput_d]; exact hd) hk⟩
theorem roundIn_wide' {F : Fence} (hF : F = Fence.wide ∨ ∃ l, F = Fence.wide.inRound l) {n : Nat} {l : Nat} {fn : FuncId} {tmps : Array Value} {assign body : Code} {w : World} {R : Ending → World → Prop} (h : RoundIn Fence.wide n P l fn tmps assign body w R) : RoundIn F n P l fn tmps assign body w R := by
 rcases hF with rfl | ⟨l0, rfl⟩
 ·exact h
 ·exact h
theorem ywp_region {id : Nat} {ops : Array Oper} (pre : List Oper) (y : Oper) (post : List Oper) (ho : ops.toList = pre ++ y :: post) (hpre : ∀ o, o ∈ pre → ∀ c, o.op ≠ .defer c) (hpost : ∀ o, o ∈ post → ∀ c, o.op ≠ .defer c)
  {o : Operand} {args : Array Operand} {ts : Array TypeId} (hy : y.op = .call ⟨.value o, args, ts⟩) (hg : y.guard = none) {i : Nat} (ht : t = some i) {x : List MV} (hx : C.xs[i]? = some x) (hno : ∀ m, m ∈ x → NoObj m)
  (hspec : YSpec P C.l C.xs C.Y C.Yx C.Φ0 C.σ0 C.n0)
  (h : mops P ops (fun f1 σ1 => mval f1 o = .fn (.yield C.l) [] [] ∧ args.toList.map (mval f1) = x ∧ mops P ops (fun f2 σ2 => Q .normal f2 σ2 (some (i + 1))) post (mput f1 y.dst (.bool true)) σ1 ∧
   mops P ops (fun f2 σ2 => Q .normal f2 σ2 none) post (mput f1 y.dst (.bool false)) σ1) pre f σ) : ywp P C (.region id ops false) f σ t Q := by
 intro F hF Φ w a S hi hr hd
 subst ht
 have hF' : F = Fence.wide ∨ ∃ l0, F = Fence.wide.inRound l0 := Or.imp (fun q => q) (fun ⟨l0, e, _⟩ => ⟨l0, e⟩) hF
 have hro : F.room 0 := hF.room 0
 refine wpIn_region_list ?_
 rw [ho]
 refine mops_run pre hF' hpre f σ Φ w a h hi.inv hr hd fun f1 σ1 Φ1 w1 a1 hk i1 r1 d1 s1 => ?_
 obtain ⟨hv, hargs, ht, hfl⟩ := hk
 have hi1 := hi.go i1 s1
 unfold wpListIn
 rw [if_pos (by unfold Region.wanted; rw [hg])]
 have rv := rel_mval r1 o
 rw [hv] at rv
 obtain ⟨first, cap, he, h1, h2⟩ := rv.inv_fn
 have e1 : first = #[] := Array.eq_empty_of_size_eq_zero (by simpa using h1.1)
 have e2 : cap = #[] := Array.eq_empty_of_size_eq_zero (by simpa using h2.1)
 subst e1 e2
 have hrels := rels_map r1 args
 rw [hargs] at hrels
 obtain ⟨Ψ, hΨ⟩ : ∃ Ψ : Phi, Ψ = ⟨Φ1.snap, fun _ => none, 0⟩ := ⟨_, rfl⟩
 have hrels' : Rels Ψ (args.map a1.eval) x := ⟨hrels.1, fun j m hm => by
  subst hΨ
  exact NoObj.rel (Φ := Φ1) (Φ' := ⟨Φ1.snap, fun _ => none, 0⟩) (fun _ _ q => q) (hno m (List.mem_of_getElem? hm)) (hrels.2 j m hm)⟩
 obtain ⟨fn, tmps, assign, body, hrun, hround⟩ := hspec i x S w1 Ψ (args.map a1.eval) hx hi1.st hi1.apt.agree hi1.size (fun m => by subst hΨ; rfl) (fun b v q => by
  subst hΨ
  exact ⟨i1.snap b v q, hi1.apt.snap b v q, hi1.snapn b v q⟩) hrels'
 have hsem : (y.semAt F.round a1.eval).run P w1 = .ok (.round C.l fn tmps assign body) w1 := by
  rw [Oper.semAt_eq _ _ _ (by rw [hy]; intro c e; cases e)]
  unfold execOp
  simp only [hy, resolve, he, Deferred.ofValue, Sem.run_bind, Sem.run_pure, Result.andThen_ok, invoke, Array.empty_append, Array.append_empty]
  exact hrun
 refine ⟨fun g _ => hF.fn g, ?_⟩
 rw [hsem]
 refine ⟨(fun q => by rw [hF.depth] at q; cases q), ?_⟩
 refine (roundIn_wide' hF' hround).mono ?_
 rintro e w2 ⟨b, S', rfl, hS1, hS2, hS3, hS4, hS5, hS6, hS7, hS8, hS9, hS10, hS11⟩
 -- our own side is as it was
 have ow : ∀ k, Owned Φ1 σ1 k → w2.heap[k]? = w1.heap[k]? := fun k hk => by
  refine hS8 k ?_ fun q => hi1.apt.own k q hk
  obtain ⟨l, ob, p, q1, q2, q3⟩ := hk
  obtain ⟨p', e, hlt⟩ := (i1.own l ob q1).place
  rw [q2] at e; cases e
  exact hlt k q3
 have i2 : Inv Φ1 w2 σ1 := ⟨fun l ob hl => (i1.own l ob hl).mono (.refl _) fun p R q1 q2 => ow R ⟨l, ob, p, hl, q1, q2⟩, i1.inj, fun c v q => by
   have hb := World.block_lt_of_cell? w1 c (i1.snap c v q)
   rw [World.cell?_heap (hS8 c.block hb (hi1.apt.snap c v q))]
   exact i1.snap c v q, i1.apart, i1.fresh⟩
 have apt2 : Apt Φ1 σ1 S' w2 := by
  have lt1 : ∀ k, Owned Φ1 σ1 k → k < w1.heap.size := fun k ⟨l, ob, p, q1, q2, q3⟩ => by
   obtain ⟨p', e, hlt⟩ := (i1.own l ob q1).place
   rw [q2] at e; cases e
   exact hlt k q3
  refine ⟨hS2, fun k hk ho => ?_, fun c v q ho => ?_, fun c v q hk => ?_⟩
  ·rcases hS9 k hk with q | q
   ·exact hi1.apt.own k q ho
   ·have := lt1 k ho; omega
  ·rcases hS10 c v q with q | q | q | q
   ·exact hi1.apt.snown c v q ho
   ·exact hi1.apt.own _ q ho
   ·have := lt1 _ ho; omega
   ·subst hΨ
    obtain ⟨l, ob, p, q1, q2, q3⟩ := ho
    exact i1.apart l ob p c.block c v q1 q2 q3 q rfl
  ·rcases hS9 _ hk with p | p
   ·exact hi1.apt.snap c v q p
   ·have := World.block_lt_of_cell? w1 c (i1.snap c v q); omega
 have st2 : StepS Φ1 σ1 w1 S Φ1 σ1 w2 S' := ⟨.refl _, hS3, hS4, hS5, hS6, hS7, fun k hk _ hw => hS8 k hk hw, fun c v q => .inl q, fun R q => .inl q, hS9, fun c v q => by
  subst hΨ
  rcases hS10 c v q with q | q | q | q
  ·exact .inl q
  ·exact .inr (.inl q)
  ·exact .inr (.inr (.inl q))
  ·exact .inr (.inr (.inr (.inl q)))⟩
 have d2 : DRel Φ1 w2 a1.defers f1.d := d1.mono (.refl _) hS7 fun D hD => by
  rw [hS8 D (Array.getElem?_eq_some_iff.1 hD).1 (fun q => hi1.apt.agree.nomark D q _ ((hi1.apt.agree.same D q).symm.trans hD))]
  exact hD
 have go : ∀ (b : Bool) (t' : Option Nat), C.st t' S' → mops P ops (fun f2 σ2 => Q .normal f2 σ2 t') post (mput f1 y.dst (.bool b)) σ1 → wpListIn F 0 P ops (liftY C Φ σ w S Q) post (a1.put y.dst (.bool b)) w2 := by
  intro b t' hst hm
  have hyi : YInv C Φ1 σ1 w2 S' t' := ⟨i2, apt2, hi1.snapn, hi1.ownd, Nat.le_trans hi1.size hS7, hst⟩
  have := mops_run (rest := []) (Qm := liftY C Φ σ w S Q) post hF' hpost (mput f1 y.dst (.bool b)) σ1 Φ1 w2 (a1.put y.dst (.bool b)) hm i2 (rels_put r1 y.dst (.bool b)) (by rw [put_defers', mput_d]; exact d2) fun f2 σ2 Φ2 w3 a3 k1 k2 k3 k4 k5 => by
   unfold wpListIn
   exact ⟨f2, σ2, t', Φ2, S', hyi.go k2 k5, k3, k4, ((StepS.of S s1).trans st2).trans (.of S' k5), k1⟩
  rwa [List.append_nil] at this
 cases b with
 | true => exact go true (some (i + 1)) (by rw [if_pos rfl] at hS11; exact hS11) ht
 | false => exact go false none (by rw [if_neg (by decide)] at hS11; exact hS11) hfl
end rules
theorem Apt.putObj {Φ : Phi} {σ : St} {S : YS} {w : World} (h : Apt Φ σ S w) {D : Nat} {x : Option (List Deferred)} (o' : Obj) (hD : w.heap[D]? = some (Obj.deferred x)) : Apt Φ σ S (w.putObj D o') := by
 have hne : ∀ k, S.wr k → k ≠ D := fun k hk e => h.agree.nomark k hk x (by rw [← h.agree.same k hk, e]; exact hD)
 refine ⟨⟨fun k hk => (World.putObj_heap_other (hne k hk)).trans (h.agree.same k hk), h.agree.lt, h.agree.nomark, fun a v q => ?_, by rw [World.putObj_size]; exact h.agree.size, h.agree.os, h.agree.tape, h.agree.output, h.agree.drawn⟩, h.own, h.snown, h.snap⟩
 have hc := h.agree.sn a v q
 rw [← hc]
 refine World.cell?_heap (World.putObj_heap_other fun e => ?_)
 rw [World.cell?, e, hD] at hc
 simp at hc
theorem leavesY {P : Program} {fn : Func} {tmps : Array Value} {C : YC} {t : Option Nat} (hrs : fn.results.toList = []) {Φ0 : Phi} {σ0 : St} {w0 : World} {S0 : YS} (h0 : Φ0.base = w0.heap.size) {R : Ending → World → Prop} (hR : ∀ v Φ' w' σ' S', YInv C Φ' σ' w' S' t → StepS Φ0 σ0 w0 S0 Φ' σ' w' S' → R (.returned v) w') :
  ∀ (ds : List Deferred) (Φ : Phi) (w : World) (σ : St) (S : YS), DRel Φ w ds [] → YInv C Φ σ w S t → StepS Φ0 σ0 w0 S0 Φ σ w S → LeavesM P fn tmps R ds w := by
 intro ds
 induction ds with
 | nil =>
  intro Φ w σ S _ hi hs
  refine ⟨.tuple #[], ?_, hR _ Φ w σ S hi hs⟩
  rw [results_eq]
  have : fn.results = #[] := Array.toList_eq_nil_iff.1 hrs
  simp only [this]
  first | rfl | simp [Sem.run_bind, Sem.run_pure]
 | cons x ds ih =>
  intro Φ w σ S hd hi hs
  rcases hd with ⟨D, h1, h2, h3, h4, h5⟩ | ⟨g, ms, r, cap, h, _⟩
  ·refine .inl ⟨D, _, h1, run_takeDeferred h3, ?_⟩
   have hDb : w0.heap.size ≤ D := by rw [← h0, ← hs.le.base]; exact h2
   have i' := hi.inv.putObj (.deferred none) h3 (fun _ _ _ e => by cases e) (fun _ _ e => by cases e)
   have s' : StepS Φ0 σ0 w0 S0 Φ σ (w.putObj D (.deferred none)) S :=
    ⟨hs.le, hs.os, hs.tape, hs.output, hs.drawn, by rw [World.putObj_size]; exact hs.size, fun k hk hn hw => (World.putObj_heap_other (by omega)).trans (hs.block k hk hn hw), hs.snapn, hs.ownd, hs.wr, hs.sn⟩
   refine ih Φ _ σ S ?_ ⟨i', hi.apt.putObj _ h3, hi.snapn, hi.ownd, by rw [World.putObj_size]; exact hi.size, hi.st⟩ s'
   have : ∀ (xs : List Deferred) (d : List (FuncId × List MV)), (∀ y, y ∈ xs → y.target ≠ .collected D) → DRel Φ w xs d → DRel Φ (w.putObj D (.deferred none)) xs d := by
    intro xs
    induction xs with
    | nil => intro d _ h; exact ⟨h.1, by rw [World.putObj_size]; exact h.2⟩
    | cons y xs ihx =>
     intro d hy h
     rcases h with ⟨D', k1, k2, k3, k4, k5⟩ | ⟨g, ms, r, cap, k1, k2, k3, k4⟩
     ·refine .inl ⟨D', k1, k2, ?_, k4, ihx d (fun z hz => hy z (by simp [hz])) k5⟩
      rw [World.putObj_heap_other]
      ·exact k3
      ·intro e; exact hy y (by simp) (by rw [k1, e])
     ·exact .inr ⟨g, ms, r, cap, k1, k2, k3, ihx r (fun z hz => hy z (by simp [hz])) k4⟩
   exact this ds [] h4 h5
  ·cases h
def retY (n : Nat) : YQ
 | .normal, f, _, t => f.d = [] ∧ (t = some n ∨ t = none)
 | .ret, f, _, t => f.d = [] ∧ (t = some n ∨ t = none)
 | _, _, _, _ => False
theorem YSpec.rebase {P : Program} {l : Nat} {xs : List (List MV)} {Y : Nat → YS → Prop} {Yx : YS → Prop} {Φ : Phi} {σ : St} {n0 : Nat} (h : YSpec P l xs Y Yx Φ σ n0) (n : Nat) : YSpec P l xs Y Yx (Φ.rebase n) σ n0 :=
 fun i x S w' Ψ vs h1 h2 h3 h4 h5 h6 h7 => h i x S w' Ψ vs h1 h2 h3 h4 h5 h6 h7
theorem Apt.rebase {Φ : Phi} {σ : St} {S : YS} {w : World} (h : Apt Φ σ S w) (n : Nat) : Apt (Φ.rebase n) σ S w := ⟨h.agree, h.own, h.snown, h.snap⟩
theorem StepS.rebase {Φ Φ' : Phi} {σ σ' : St} {w w' : World} {S S' : YS} {n : Nat} (h : StepS (Φ.rebase n) σ w S Φ' σ' w' S') : StepS Φ σ w S (Φ'.rebase Φ.base) σ' w' S' :=
 ⟨⟨h.le.snap, h.le.obj, rfl⟩, h.os, h.tape, h.output, h.drawn, h.size, h.block, h.snapn, h.ownd, h.wr, h.sn⟩
theorem MSeq.of_body {P : Program} {g : FuncId} {fn : Func} {c : Code} {ns : List MV} {σi : St} {xs : List (List MV)} (n : Nat) (hf : P.funcs[g]? = some fn) (hb : fn.body = some c) (hn : (fn.name == "runtime.NumGoroutine") = false)
  (hn' : max fn.ntmps (ns.length + 1) = n) (hrs : fn.results.toList = [])
  (h : ∀ C : YC, C.xs = xs → YSpec P C.l C.xs C.Y C.Yx C.Φ0 C.σ0 C.n0 → ywp P C c ⟨n, args0 0 (.fn (.yield C.l) [] [] :: ns), []⟩ σi (some 0) (retY xs.length)) : MSeq P g ns σi xs := by
 refine ⟨⟨fn, hf, by simp [hb], hn⟩, fun l Y Yx Φ w S vs hspec hi ha h0 hr => ?_⟩
 obtain ⟨C, hC⟩ : ∃ C : YC, C = ⟨l, xs, Y, Yx, Φ.rebase w.heap.size, σi, w.heap.size⟩ := ⟨_, rfl⟩
 have hargs : Rels (Φ.rebase w.heap.size) (#[Value.func (.yield l) #[] #[]] ++ vs) (.fn (.yield l) [] [] :: ns) := by
  refine ⟨by simp [hr.1]; omega, fun i m hm => ?_⟩
  cases i with
  | zero =>
   simp only [List.getElem?_cons_zero, Option.some.injEq] at hm
   subst hm
   have e : (#[Value.func (.yield l) #[] #[]] ++ vs).getD 0 undef = Value.func (.yield l) #[] #[] := by
    simp [Array.getD_eq_getD_getElem?, Array.getElem?_append]
   rw [e]
   exact rel_ofV _ (.func (.yield l) #[] #[])
  | succ i =>
   have := (hr.2 i m (by simpa using hm)).rebase w.heap.size
   have e : (#[Value.func (.yield l) #[] #[]] ++ vs).getD (i + 1) undef = vs.getD i undef := by
    simp [Array.getD_eq_getD_getElem?, Array.getElem?_append]
   rw [e]; exact this
 have hfr := frel_args (fn := fn) hargs
 rw [List.length_cons, hn'] at hfr
 have hbody := h C (by rw [hC]) (by rw [hC]; exact hspec.rebase _)
 have hst : YInv C (Φ.rebase w.heap.size) σi w S (some 0) := by
  subst hC
  exact ⟨hi.rebase _, ha.rebase _, fun a v q => .inl q, fun R q => .inl q, Nat.le_refl _, h0⟩
 have hl : C.l = l := by rw [hC]
 rw [hl] at hbody
 refine (calls_of_wpM (R := fun e w' => ∃ v Φ' σ' S', e = .returned v ∧ (YInv C Φ' σ' w' S' (some xs.length) ∨ YInv C Φ' σ' w' S' none) ∧ StepS (Φ.rebase w.heap.size) σi w S Φ' σ' w' S') hf hb (wp_mono (wpIn_wide.1 (hbody _ .wide (Φ.rebase w.heap.size) w { tmps := _, defers := [] } S hst hfr ⟨rfl, Nat.le_refl _⟩)) ?_)).mono ?_
 ·rintro e a' w' ⟨f', σ', t', Φ', S', q1, q2, q3, q4, q5⟩
  have fin : (t' = some xs.length ∨ t' = none) → f'.d = [] → LeavesM P fn a'.tmps (fun e w' => ∃ v Φ' σ' S', e = .returned v ∧ (YInv C Φ' σ' w' S' (some xs.length) ∨ YInv C Φ' σ' w' S' none) ∧ StepS (Φ.rebase w.heap.size) σi w S Φ' σ' w' S') a'.defers w' := by
   intro ht hd
   rw [hd] at q3
   rcases ht with rfl | rfl
   ·exact leavesY (P := P) (fn := fn) (tmps := a'.tmps) hrs (Φ0 := Φ.rebase w.heap.size) (w0 := w) rfl (fun v Φ'' w'' σ'' S'' q qs => ⟨v, Φ'', σ'', S'', rfl, .inl q, qs⟩) a'.defers Φ' w' σ' S' q3 q1 q4
   ·exact leavesY (P := P) (fn := fn) (tmps := a'.tmps) hrs (Φ0 := Φ.rebase w.heap.size) (w0 := w) rfl (fun v Φ'' w'' σ'' S'' q qs => ⟨v, Φ'', σ'', S'', rfl, .inr q, qs⟩) a'.defers Φ' w' σ' S' q3 q1 q4
  cases e with
  | normal => exact ⟨.inl rfl, fin q5.2 q5.1⟩
  | ret => exact ⟨.inr rfl, fin q5.2 q5.1⟩
  | _ => exact q5.elim
 ·rintro e w' ⟨v, Φ', σ', S', rfl, q, qs⟩
  subst hC
  rcases q with q | q
  ·exact ⟨v, Φ'.rebase Φ.base, σ', S', rfl, q.inv.rebase _, q.apt.rebase _, qs.rebase, .inl q.st⟩
  ·exact ⟨v, Φ'.rebase Φ.base, σ', S', rfl, q.inv.rebase _, q.apt.rebase _, qs.rebase, .inr q.st⟩
end Go.Proofs.YtfbodefnblpflaaGreatDoor
end

section
namespace Go.Proofs.YtfbodefnblpflaaGreatDoor
structure C2 (Φ0 : Phi) (σ0 : St) (n0 : Nat) (Φ : Phi) (σ : St) : Prop where
 le : Φ0.le Φ
 snapn : ∀ a v, Φ.snap a = some v → Φ0.snap a = some v ∨ n0 ≤ a.block ∨ Owned Φ0 σ0 a.block
 ownd : ∀ R, Owned Φ σ R → Owned Φ0 σ0 R ∨ n0 ≤ R
structure CStY (C : YC) (Φ0 : Phi) (σ0 : St) (n0 : Nat) (So0 : YS) (tmps : Array Value) (fc : FR) (l : Nat) (st : Loop) (σ : St) (S : YS) (Φ : Phi) (So : YS) (t : Option Nat) : Prop where
 inv : YInv C Φ σ S.w So t
 frame : FRel Φ tmps fc
 step : C2 Φ0 σ0 n0 Φ σ
 wr : ∀ k, S.wr k ↔ (Owned Φ σ k ∨ k = l ∨ So.wr k)
 sn : ∀ a, S.sn a = (match Φ.snap a with | some v => some v | none => So.sn a)
 lrec : S.w.heap[l]? = some (.loop st)
 size : n0 ≤ S.w.heap.size
 base : Φ.base ≤ S.w.heap.size
 owr : ∀ k, So.wr k → So0.wr k ∨ n0 ≤ k
 osn : ∀ a v, So.sn a = some v → So0.sn a = some v ∨ So0.wr a.block ∨ n0 ≤ a.block ∨ Φ0.snap a = some v ∨ Owned Φ0 σ0 a.block
section
variable {C : YC} {Φ0 Φ : Phi} {σ0 σ : St} {n0 : Nat} {So0 : YS} {tmps : Array Value} {fc : FR} {l : Nat} {st : Loop} {S : YS} {So : YS} {t : Option Nat}
theorem CStY.snap_sn (h : CStY C Φ0 σ0 n0 So0 tmps fc l st σ S Φ So t) {a : Addr} {v : Value} (q : Φ.snap a = some v) : S.sn a = some v := by rw [h.sn a, q]
theorem CStY.so_sn (h : CStY C Φ0 σ0 n0 So0 tmps fc l st σ S Φ So t) {a : Addr} {v : Value} (q : So.sn a = some v) : S.sn a = some v := by
 rw [h.sn a]
 cases e : Φ.snap a with
 | none => exact q
 | some u =>
  have h1 := h.inv.inv.snap a u e
  have h2 := h.inv.apt.agree.sn a v q
  rw [h1] at h2
  simpa using h2
theorem CStY.sn_cases (h : CStY C Φ0 σ0 n0 So0 tmps fc l st σ S Φ So t) {a : Addr} {v : Value} (q : S.sn a = some v) : Φ.snap a = some v ∨ So.sn a = some v := by
 rw [h.sn a] at q
 cases e : Φ.snap a with
 | none => rw [e] at q; exact .inr q
 | some u => rw [e] at q; exact .inl q
theorem CStY.agree (h : CStY C Φ0 σ0 n0 So0 tmps fc l st σ S Φ So t) : Agree S S.w :=
 ⟨fun _ _ => rfl, fun k hk => by
  rcases (h.wr k).1 hk with q | rfl | q
  ·obtain ⟨l', o, p, h1, h2, h3⟩ := q
   obtain ⟨p', e, hlt⟩ := (h.inv.inv.own l' o h1).place
   rw [h2] at e; cases e
   exact hlt k h3
  ·exact (Array.getElem?_eq_some_iff.1 h.lrec).1
  ·exact Nat.lt_of_lt_of_le (h.inv.apt.agree.lt k q) h.inv.apt.agree.size, (fun k hk x e => by
  rcases (h.wr k).1 hk with q | rfl | q
  ·exact h.inv.inv.mark e q
  ·rw [h.lrec] at e; cases e
  ·exact h.inv.apt.agree.nomark k q x ((h.inv.apt.agree.same k q).symm.trans e)), fun a v q => by
  rcases h.sn_cases q with q | q
  ·exact h.inv.inv.snap a v q
  ·exact h.inv.apt.agree.sn a v q, Nat.le_refl _, rfl, rfl, rfl, Nat.le_refl _⟩
theorem CStY.at (h : CStY C Φ0 σ0 n0 So0 tmps fc l st σ S Φ So t) (k1 : ∀ a v, Φ0.snap a = some v → C.Φ0.snap a = some v ∨ C.n0 ≤ a.block ∨ Owned C.Φ0 C.σ0 a.block) (k2 : ∀ R, Owned Φ0 σ0 R → Owned C.Φ0 C.σ0 R ∨ C.n0 ≤ R) (k3 : C.n0 ≤ n0)
  {w : World} (ha : Agree S w) {Ψ : Phi} (ho : ∀ m, Ψ.obj m = none)
  (hs : ∀ a v, Ψ.snap a = some v → w.cell? a = some v ∧ ¬ S.wr a.block ∧ (Φ0.snap a = some v ∨ n0 ≤ a.block ∨ Owned Φ0 σ0 a.block)) :
  ∃ Φ', YInv C Φ' σ w So t ∧ FRel Φ' tmps fc ∧ C2 Φ0 σ0 n0 Φ' σ ∧ (∀ k, Owned Φ' σ k ↔ Owned Φ σ k) ∧ (∀ a v, Φ'.snap a = some v → Φ.snap a = some v ∨ Ψ.snap a = some v) ∧ (∀ v m, Rel Ψ v m → Rel Φ' v m) ∧ w.heap[l]? = some (.loop st) ∧ Φ'.base ≤ w.heap.size := by
 obtain ⟨Φ', hΦ⟩ : ∃ Φ' : Phi, Φ' = { Φ with snap := fun a => match Φ.snap a with | some v => some v | none => Ψ.snap a } := ⟨_, rfl⟩
 have hle : Φ.le Φ' := by subst hΦ; exact ⟨fun a v q => by simp [q], fun _ _ q => q, rfl⟩
 have hobj : Φ'.obj = Φ.obj := by subst hΦ; rfl
 have hb : Φ'.base = Φ.base := by subst hΦ; rfl
 have hsn : ∀ a v, Φ'.snap a = some v → Φ.snap a = some v ∨ Ψ.snap a = some v := fun a v q => by
  subst hΦ
  simp only at q
  cases e : Φ.snap a with
  | none => rw [e] at q; exact .inr q
  | some u => rw [e] at q; exact .inl q
 have hwr : ∀ k, Owned Φ σ k → w.heap[k]? = S.w.heap[k]? := fun k hk => ha.same k ((h.wr k).2 (.inl hk))
 have hown : ∀ k, Owned Φ' σ k ↔ Owned Φ σ k := fun k => by unfold Owned; rw [hobj]
 have hinv : Inv Φ' w σ := by
  refine ⟨fun l' o hl => (h.inv.inv.own l' o hl).mono hle fun p R h1 h2 => hwr R ⟨l', o, p, hl, h1, h2⟩, fun a b o o' p p' R h1 h2 h3 h4 => ?_, fun a v q => ?_, fun l' o p R a v h1 h2 h3 q => ?_, ?_⟩
  ·rw [hobj] at h3 h4; exact h.inv.inv.inj a b o o' p p' R h1 h2 h3 h4
  ·rcases hsn a v q with q | q
   ·exact ha.sn a v (h.snap_sn q)
   ·exact (hs a v q).1
  ·rw [hobj] at h2
   rcases hsn a v q with q | q
   ·exact h.inv.inv.apart l' o p R a v h1 h2 h3 q
   ·intro e
    exact (hs a v q).2.1 ((h.wr _).2 (.inl ⟨l', o, p, h1, h2, e ▸ h3⟩))
  ·obtain ⟨n, hn⟩ := h.inv.inv.fresh.1
   exact ⟨⟨n, fun k hk => by rw [hobj]; exact hn k hk⟩, fun g i v q => hle.snap _ _ (h.inv.inv.fresh.2 g i v q)⟩
 have hag := h.inv.apt.agree
 have hapt : Apt Φ' σ So w := by
  refine ⟨⟨fun k hk => (ha.same k ((h.wr k).2 (.inr (.inr hk)))).trans (hag.same k hk), hag.lt, hag.nomark, fun a v q => ha.sn a v (h.so_sn q), Nat.le_trans hag.size ha.size, ha.os.trans hag.os, ha.tape.trans hag.tape, ha.output.trans hag.output, Nat.le_trans hag.drawn ha.drawn⟩, fun k hk q => h.inv.apt.own k hk ((hown k).1 q), fun a v q ho => h.inv.apt.snown a v q ((hown _).1 ho), fun a v q hk => ?_⟩
  rcases hsn a v q with q | q
  ·exact h.inv.apt.snap a v q hk
  ·exact (hs a v q).2.1 ((h.wr _).2 (.inr (.inr hk)))
 refine ⟨Φ', ⟨hinv, hapt, fun a v q => ?_, fun R hR => h.inv.ownd R ((hown R).1 hR), Nat.le_trans h.inv.size ha.size, h.inv.st⟩, h.frame.mono hle, ⟨h.step.le.trans hle, fun a v q => ?_, fun R hR => h.step.ownd R ((hown R).1 hR)⟩, hown, hsn, fun v m r => ?_, ?_, ?_⟩
 ·rcases hsn a v q with q | q
  ·exact h.inv.snapn a v q
  ·rcases (hs a v q).2.2 with q | q | q
   ·exact k1 a v q
   ·exact .inr (.inl (Nat.le_trans k3 q))
   ·rcases k2 _ q with q | q
    ·exact .inr (.inr q)
    ·exact .inr (.inl q)
 ·rcases hsn a v q with q | q
  ·exact h.step.snapn a v q
  ·exact (hs a v q).2.2
 ·refine r.mono2 (fun a u q => ?_) (fun l' p q => by rw [ho l'] at q; cases q)
  have h1 := (hs a u q).1
  subst hΦ
  simp only
  cases e : Φ.snap a with
  | none => exact q
  | some u' =>
   have h2 := ha.sn a u' (h.snap_sn e)
   rw [h1] at h2
   simpa using h2.symm
 ·rw [ha.same l ((h.wr l).2 (.inr (.inl rfl)))]; exact h.lrec
 ·rw [hb]; exact Nat.le_trans h.base ha.size
end
def onlyNY (K : FR → St → Option Nat → Prop) : YQ
 | .normal, f, σ, t => K f σ t
 | _, _, _, _ => False
def roundY (Q : YQ) (fc : FR) (nxt : St → Option Nat → Prop) : YQ
 | .normal, f, σ, t => Gh f σ fun _ σ1 => nxt σ1 t
 | .ret, f, σ, t => Gh f σ fun _ σ1 => Q .ret fc σ1 t
 | .exit id, f, σ, t => Gh f σ fun _ σ1 => Q (.exit id) fc σ1 t
 | _, _, _, _ => False
theorem C2.step {Φ0 Φ Φ' : Phi} {σ0 σ σ' : St} {n0 : Nat} {w w' : World} {S S' : YS} (h : C2 Φ0 σ0 n0 Φ σ) (hn : n0 ≤ w.heap.size) (k : StepS Φ σ w S Φ' σ' w' S') : C2 Φ0 σ0 n0 Φ' σ' where
 le := h.le.trans k.le
 snapn := fun a v hv => by
  rcases k.snapn a v hv with q | q | q
  ·exact h.snapn a v q
  ·exact .inr (.inl (Nat.le_trans hn q))
  ·rcases h.ownd _ q with q | q
   ·exact .inr (.inr q)
   ·exact .inr (.inl q)
 ownd := fun R hR => by
  rcases k.ownd R hR with q | q
  ·exact h.ownd R q
  ·exact .inr (Nat.le_trans hn q)
theorem YInv.putObj {C : YC} {Φ : Phi} {σ : St} {w : World} {S : YS} {t : Option Nat} (h : YInv C Φ σ w S t) {l : Nat} {r : Loop} (o' : Obj) (hl : w.heap[l]? = some (.loop r)) (hw : ¬ S.wr l) : YInv C Φ σ (w.putObj l o') S t := by
 have hne : ∀ k, S.wr k → k ≠ l := fun k hk e => hw (e ▸ hk)
 refine ⟨h.inv.putObj _ hl (fun _ _ _ e => by cases e) (fun _ _ e => by cases e), ⟨⟨fun k hk => (World.putObj_heap_other (hne k hk)).trans (h.apt.agree.same k hk), h.apt.agree.lt, h.apt.agree.nomark, fun a v q => ?_, by rw [World.putObj_size]; exact h.apt.agree.size, h.apt.agree.os, h.apt.agree.tape, h.apt.agree.output, h.apt.agree.drawn⟩, h.apt.own, h.apt.snown, h.apt.snap⟩, h.snapn, h.ownd, by rw [World.putObj_size]; exact h.size, h.st⟩
 have hc := h.apt.agree.sn a v q
 rw [← hc]
 refine World.cell?_heap (World.putObj_heap_other fun e => ?_)
 rw [World.cell?, e, hl] at hc
 simp at hc
end Go.Proofs.YtfbodefnblpflaaGreatDoor
end

section
namespace Go.Proofs.YtfbodefnblpflaaGreatDoor
section
variable {P : Program} {f : FR} {σ : St} {Q : MQ} {id : Nat} {a b l : List Oper} {x : Oper} {dr : Bool}
def mregA (P : Program) (id : Nat) (dr : Bool) (l : List Oper) (f : FR) (σ : St) (Q : MQ) : Prop := mcode P (.region id l.toArray dr) f σ Q
theorem mcode_app : R (mcode P (.region id (List.append a b).toArray dr) f σ Q) = R (mregA P id dr (E (List.append a b)) f σ Q) := congrArg R rfl
theorem mregA_go : R (mregA P id false (x :: l) f σ Q) = R (mops P (@OfNat.ofNat (Array Oper) (nat_lit 0) (@_root_.id (OfNat (Array Oper) (nat_lit 0)) (OfNat.mk ((x :: l).toArray)))) (Q .normal) (@OfNat.ofNat (List Oper) (nat_lit 0) (@_root_.id (OfNat (List Oper) (nat_lit 0)) (OfNat.mk (x :: l)))) f σ) := congrArg R rfl
theorem mregA_draw : R (mregA P id true (x :: l) f σ Q) = R (mdraw P id (@OfNat.ofNat (List Oper) (nat_lit 0) (@_root_.id (OfNat (List Oper) (nat_lit 0)) (OfNat.mk (x :: l)))) (E f) σ Q) := congrArg R rfl
theorem consO : List.append (x :: a) b = x :: List.append a b := rfl
theorem nilO : List.append ([] : List Oper) b = b := rfl
end
attribute [go_sem ↓ high] mcode_app
attribute [go_sem] mregA_go mregA_draw consO nilO
theorem use_new {P : Program} {g : FuncId} {ms : List MV} {σ : St} {o : MObj} {u : Nat → MV} {k : MV → St → Prop} (h : MCalls P g ms St.none fun v σ' => ∃ l, v = u l ∧ σ' = St.none.set l o) (hk : ∀ l, σ l = none → R (mlet (u l) (σ.set l o) k)) : R (mcallE P g ms σ k) :=
 use_frame h (St.none_le σ) fun v σ' hv hf => by
  obtain ⟨l, rfl, rfl⟩ := hv
  rw [minus_none, over_set, over_none]
  refine hk l ?_
  rcases hf l o (set_hit _ _ _) with h | ⟨o', h⟩
  ·exact h
  ·simp [St.none] at h
end Go.Proofs.YtfbodefnblpflaaGreatDoor
end

section
namespace Go.Proofs.YtfbodefnblpflaaGreatDoor
set_option maxRecDepth 100000
theorem va_iff {a b : VA} : a = b ↔ a.kd = b.kd ∧ a.n = b.n ∧ a.s = b.s := by
 obtain ⟨a1, a2, a3⟩ := a
 obtain ⟨b1, b2, b3⟩ := b
 simp
theorem meqs_struct {P : Program} {d : Nat} {t : TypeId} {fs : List (Nat × TypeId)} {xs ys : List MV} (hk : (td P t).k = .struct fs) (hp : eqPlain P t = true) : meqs P (d + 1) t (.agg xs) (.agg ys) = meqFields P (meqs P d) xs ys fs := by
 simp only [meqs, hk, hp, if_true]
theorem meqs_array {P : Program} {d n : Nat} {t e : TypeId} {xs ys : List MV} (hk : (td P t).k = .array n e) (hp : (td P e).ok = true) : meqs P (d + 1) t (.agg xs) (.agg ys) = meqFields P (meqs P d) xs ys ((List.range n).map fun i => (i * (td P e).size, e)) := by
 simp only [meqs, hk, hp, if_true]
theorem meqs_int {P : Program} {d : Nat} {t : TypeId} {k k' : IntKind} {a b : Int} (hk : (td P t).k = .int k') : meqs P (d + 1) t (.int k a) (.int k b) = some (decide (a = b)) := by
 simp only [meqs, hk, if_true]
theorem meqs_str {P : Program} {d : Nat} {t : TypeId} {a b : ByteArray} (hk : (td P t).k = .str) : meqs P (d + 1) t (.str a) (.str b) = some (decide (a = b)) := by
 simp only [meqs, hk]
theorem tdk3 : (td Tryz.prog 3).k = .int .i64 := by rw [td3]
theorem tdk22 : (td Tryz.prog 22).k = .int .u32 := by rw [td22]
theorem tdk9 : (td Tryz.prog 9).k = .str := by rw [td9]
theorem mpart_val {l : List MV} {i : Nat} {f : F8} (hl : l = fc f) (h : i < 8) : mpart (td Tryz.prog 24) l (i * 3) = .agg (f.get i).c := by
 simp only [mpart, td24, TK.isAgg, if_true, hl]
 exact congrArg MV.agg (fc_at h)
theorem meq_val (d : Nat) (a b : VA) : meqs Tryz.prog (d + 2) 24 (.agg a.c) (.agg b.c) = some (decide (a = b)) := by
 have hp : eqPlain Tryz.prog 24 = true := by decide +kernel
 rw [meqs_struct (by rw [td24]) hp]
 simp only [meqFields, td3, td9, mpart, TK.isAgg, Bool.false_eq_true, if_false, List.getD_cons_zero, List.getD_cons_succ, List.length_cons, List.length_nil, meqs_int tdk3, meqs_str tdk9]
 simp [va_iff, Bool.decide_and]
theorem f8_iff {f g : F8} : f = g ↔ ∀ i, i ∈ List.range 8 → f.get i = g.get i :=
 ⟨fun h i _ => by rw [h], fun h => F8.ext fun i hi => h i (List.mem_range.2 hi)⟩
theorem meq_list (d : Nat) (f g : F8) : ∀ L : List Nat, (∀ i, i ∈ L → i < 8) → meqFields Tryz.prog (meqs Tryz.prog (d + 2)) (fc f) (fc g) (L.map fun i => (i * 3, 24)) = some (decide (∀ i, i ∈ L → f.get i = g.get i))
 | [], _ => by simp [meqFields]
 | i :: L, h => by
  have hi := h i (by simp)
  have ih := meq_list d f g L fun j hj => h j (by simp [hj])
  have h3 : (td Tryz.prog 24).size = 3 := by rw [td24]
  have ho : (td Tryz.prog 24).ok = true := by rw [td24]
  simp only [List.map_cons, meqFields]
  rw [mpart_val rfl hi, mpart_val rfl hi, ih, meq_val, if_pos ⟨ho, by rw [h3, fc_len]; omega, by rw [h3, fc_len]; omega, by rw [h3]; decide⟩]
  simp only [Option.map_some, List.forall_mem_cons]
  rw [Bool.decide_and]
theorem meq_vals (d : Nat) (f g : F8) : meqs Tryz.prog (d + 3) 25 (.agg (fc f)) (.agg (fc g)) = some (decide (f = g)) := by
 have h3 : (td Tryz.prog 24).size = 3 := by rw [td24]
 rw [meqs_array (n := 8) (e := 24) (by rw [td25]) (by rw [td24]), h3, meq_list d f g _ (fun i hi => List.mem_range.1 hi)]
 congr 1
 exact decide_eq_decide.mpr f8_iff.symm
theorem pa_iff {a b : PA} : a = b ↔ a.mask = b.mask ∧ a.lab = b.lab ∧ a.f = b.f := by
 obtain ⟨a1, a2, a3⟩ := a
 obtain ⟨b1, b2, b3⟩ := b
 simp
theorem ca_iff {a b : CA} : a = b ↔ a.id = b.id ∧ a.ver = b.ver ∧ a.lab = b.lab ∧ a.f = b.f := by
 obtain ⟨a1, a2, a3, a4⟩ := a
 obtain ⟨b1, b2, b3, b4⟩ := b
 simp
theorem ed_iff {a b : ED} : a = b ↔ a.kd = b.kd ∧ a.id = b.id ∧ a.gr = b.gr ∧ a.p = b.p := by
 obtain ⟨a1, a2, a3, a4⟩ := a
 obtain ⟨b1, b2, b3, b4⟩ := b
 simp
theorem to_iff {a b : TO} : a = b ↔ a.dev = b.dev ∧ a.ep = b.ep ∧ a.sq = b.sq ∧ a.cu = b.cu := by
 obtain ⟨a1, a2, a3, a4⟩ := a
 obtain ⟨b1, b2, b3, b4⟩ := b
 simp
theorem it_iff {a b : IT} : a = b ↔ a.kd = b.kd ∧ a.c = b.c := by
 obtain ⟨a1, a2⟩ := a
 obtain ⟨b1, b2⟩ := b
 simp
theorem meq_patch (d : Nat) (a b : PA) : meqs Tryz.prog (d + 4) 27 (.agg a.c) (.agg b.c) = some (decide (a = b)) := by
 have hp : eqPlain Tryz.prog 27 = true := by decide +kernel
 rw [meqs_struct (by rw [td27]) hp]
 simp only [meqFields, td22, td25, mpart, TK.isAgg, if_true, Bool.false_eq_true, if_false, List.getD_cons_zero, List.getD_cons_succ, List.length_cons, List.length_nil, List.drop_succ_cons, List.drop_zero, fc_take' (Nat.le_refl 24), fc_len, meq_vals, meqs_int tdk22]
 simp [pa_iff, u32_int, Bool.decide_and]
theorem meq_card (d : Nat) (a b : CA) : meqs Tryz.prog (d + 4) 117 (.agg a.c) (.agg b.c) = some (decide (a = b)) := by
 have hp : eqPlain Tryz.prog 117 = true := by decide +kernel
 rw [meqs_struct (by rw [td117]) hp]
 simp only [meqFields, td22, td3, td25, mpart, TK.isAgg, if_true, Bool.false_eq_true, if_false, List.getD_cons_zero, List.getD_cons_succ, List.length_cons, List.length_nil, List.drop_succ_cons, List.drop_zero, fc_take' (Nat.le_refl 24), fc_len, meq_vals, meqs_int tdk22, meqs_int tdk3]
 simp [ca_iff, u32_int, Bool.decide_and]
theorem meq_edit (d : Nat) (a b : ED) : meqs Tryz.prog (d + 5) 29 (.agg a.c) (.agg b.c) = some (decide (a = b)) := by
 have hp : eqPlain Tryz.prog 29 = true := by decide +kernel
 have hq := meq_patch d a.p b.p
 rw [meqs_struct (by rw [td29]) hp]
 simp only [meqFields, td27, td3, mpart, TK.isAgg, if_true, Bool.false_eq_true, if_false, List.getD_cons_zero, List.getD_cons_succ, List.length_cons, List.length_nil, List.drop_succ_cons, List.drop_zero, List.take_succ_cons, fc_take' (Nat.le_refl 24), fc_len, hq, meqs_int tdk3]
 simp [ed_iff, Bool.decide_and]
theorem meq_token (d : Nat) (a b : TO) : meqs Tryz.prog (d + 2) 34 (.agg a.c) (.agg b.c) = some (decide (a = b)) := by
 have hp : eqPlain Tryz.prog 34 = true := by decide +kernel
 rw [meqs_struct (by rw [td34]) hp]
 simp only [meqFields, td3, mpart, TK.isAgg, Bool.false_eq_true, if_false, List.getD_cons_zero, List.getD_cons_succ, List.length_cons, List.length_nil, meqs_int tdk3]
 simp [to_iff, Bool.decide_and]
abbrev IT.k (x : IT) : List MV := .int .i64 x.kd :: .int .i64 x.c.id :: .int .i64 x.c.ver :: .int .u32 (x.c.lab.toNat : Int) :: fc x.c.f
theorem meq_item (d : Nat) (a b : IT) : meqs Tryz.prog (d + 5) 119 (.agg a.k) (.agg b.k) = some (decide (a = b)) := by
 have hp : eqPlain Tryz.prog 119 = true := by decide +kernel
 have hq := meq_card d a.c b.c
 rw [meqs_struct (by rw [td119]) hp]
 simp only [meqFields, td117, td3, mpart, TK.isAgg, if_true, Bool.false_eq_true, if_false, List.getD_cons_zero, List.getD_cons_succ, List.length_cons, List.length_nil, List.drop_succ_cons, List.drop_zero, List.take_succ_cons, fc_take' (Nat.le_refl 24), fc_len, hq, meqs_int tdk3]
 simp [it_iff, Bool.decide_and]
end Go.Proofs.YtfbodefnblpflaaGreatDoor
end

section
namespace Go.Proofs.YtfbodefnblpflaaGreatDoor
theorem cmdR_sk : Sk cmdR := by
 refine ⟨fun r h => ?_, fun r => ?_⟩
 ·unfold cmdR
  simp only [okR_snd]
  rw [(fromR_sk 1 5).stk r h]
  repeat' split
  ·exact editR_sk.stk r h
  ·exact (numR_sk big).stk r h
  ·simp only
   rw [(numR_sk 5).stk r h, (fromR_sk 1 big).stk r h, (fromR_sk 1 (idMax - 1)).stk r h, (fromR_sk 1 big).stk r h, mayR_sk.stk r h]
  ·simp only
   rw [(numR_sk 5).stk r h, (fromR_sk 1 big).stk r h, predR_sk.stk r h, (numR_sk 511).stk r h]
  ·simp only
   rw [(numR_sk 5).stk r h, (fromR_sk 1 big).stk r h]
 ·unfold cmdR
  simp only [okR_snd]
  have h1 := (fromR_sk 1 5).sfx r
  have h2 := ((fromR_sk 1 big).sfx _).trans (((numR_sk 5).sfx _).trans h1)
  repeat' split
  ·exact (editR_sk.sfx _).trans h1
  ·exact ((numR_sk big).sfx _).trans h1
  ·exact (mayR_sk.sfx _).trans (((fromR_sk 1 big).sfx _).trans (((fromR_sk 1 (idMax - 1)).sfx _).trans h2))
  ·exact ((numR_sk 511).sfx _).trans ((predR_sk.sfx _).trans h2)
  ·exact h2
theorem cmdOk_iff (c : CM) : cmdOk c = true ↔ (c.kd = 1 ∧ c = { cm0 with kd := 1, e := c.e } ∧ editErr c.e = 0) ∨ (c.kd = 5 ∧ c = { cm0 with kd := 5, keep := c.keep } ∧ 0 ≤ c.keep ∧ c.keep ≤ big) ∨
  ((0 ≤ c.dev ∧ c.dev ≤ 5 ∧ 1 ≤ c.req ∧ c.req ≤ big) ∧
   ((c.kd = 2 ∧ c = { cm0 with kd := 2, dev := c.dev, req := c.req, id := c.id, base := c.base, p := c.p } ∧ 1 ≤ c.id ∧ c.id < idMax ∧ 1 ≤ c.base ∧ c.base ≤ big ∧ patchErr c.p = 0)
   ∨ (c.kd = 3 ∧ c = { cm0 with kd := 3, dev := c.dev, req := c.req, fl := c.fl, mask := c.mask } ∧ predErr c.fl = 0 ∧ c.mask.toNat ≤ 511)
   ∨ (c.kd = 4 ∧ c = { cm0 with kd := 4, dev := c.dev, req := c.req }))) := by
 unfold cmdOk
 have key : ∀ k : Int, c = { cm0 with kd := k, dev := c.dev, req := c.req } → c.kd = k := fun k h => by rw [h]
 by_cases h1 : c.kd = 1
 ·rw [if_pos h1, decide_eq_true_eq]
  constructor
  ·exact fun h => .inl ⟨h1, h⟩
  ·rintro (⟨_, h⟩ | ⟨h, _⟩ | ⟨_, ⟨h, _⟩ | ⟨h, _⟩ | ⟨h, _⟩⟩)
   ·exact h
   all_goals rw [h1] at h; exact absurd h (by decide)
 ·rw [if_neg h1]
  by_cases h5 : c.kd = 5
  ·rw [if_pos h5, decide_eq_true_eq]
   constructor
   ·exact fun h => .inr (.inl ⟨h5, h⟩)
   ·rintro (⟨h, _⟩ | ⟨_, h⟩ | ⟨_, ⟨h, _⟩ | ⟨h, _⟩ | ⟨h, _⟩⟩)
    ·rw [h5] at h; exact absurd h (by decide)
    ·exact h
    all_goals rw [h5] at h; exact absurd h (by decide)
  ·rw [if_neg h5]
   by_cases hd : c.dev < 0 ∨ 6 ≤ c.dev ∨ c.req < 1 ∨ big < c.req
   ·rw [if_pos hd]
    constructor
    ·intro h; cases h
    ·rintro (⟨h, _⟩ | ⟨h, _⟩ | ⟨h, _⟩)
     ·exact absurd h h1
     ·exact absurd h h5
     ·omega
   ·rw [if_neg hd]
    have hd' : 0 ≤ c.dev ∧ c.dev ≤ 5 ∧ 1 ≤ c.req ∧ c.req ≤ big := by omega
    by_cases h2 : c.kd = 2
    ·simp only [if_pos h2, decide_eq_true_eq]
     constructor
     ·exact fun h => .inr (.inr ⟨hd', .inl ⟨h2, h⟩⟩)
     ·rintro (⟨h, _⟩ | ⟨h, _⟩ | ⟨_, ⟨_, h⟩ | ⟨h, _⟩ | ⟨h, _⟩⟩)
      ·exact absurd h h1
      ·exact absurd h h5
      ·exact h
      ·rw [h2] at h; exact absurd h (by decide)
      ·rw [h2] at h; exact absurd h (by decide)
    ·rw [if_neg h2]
     by_cases h3 : c.kd = 3
     ·simp only [if_pos h3, decide_eq_true_eq]
      constructor
      ·exact fun h => .inr (.inr ⟨hd', .inr (.inl ⟨h3, h⟩)⟩)
      ·rintro (⟨h, _⟩ | ⟨h, _⟩ | ⟨_, ⟨h, _⟩ | ⟨_, h⟩ | ⟨h, _⟩⟩)
       ·exact absurd h h1
       ·exact absurd h h5
       ·exact absurd h h2
       ·exact h
       ·rw [h3] at h; exact absurd h (by decide)
     ·rw [if_neg h3, decide_eq_true_eq]
      constructor
      ·exact fun h => .inr (.inr ⟨hd', .inr (.inr ⟨key 4 h, h⟩)⟩)
      ·rintro (⟨h, _⟩ | ⟨h, _⟩ | ⟨_, ⟨h, _⟩ | ⟨h, _⟩ | ⟨_, h⟩⟩)
       ·exact absurd h h1
       ·exact absurd h h5
       ·exact absurd h h2
       ·exact absurd h h3
       ·exact h
theorem cmdR_rt : Rt cmdR (fun c => cmdOk c = true) cmdB where
 fwd c l h := by
  rw [cmdB, if_pos h]
  have hb : big = 1099511627776 := rfl
  have hi : idMax = 1073741824 := rfl
  unfold cmdR
  simp only [List.append_assoc]
  rcases (cmdOk_iff c).1 h with ⟨k, e, h1⟩ | ⟨k, e, h1, h2⟩ | ⟨⟨d1, d2, d3, d4⟩, ⟨k, e, h1, h2, h3, h4, h5⟩ | ⟨k, e, h1, h2⟩ | ⟨k, e⟩⟩
  ·simp only [k, if_true]
   simp only [(fromR_rt 1 5).fwd 1 _ ⟨by decide, by decide, by decide, by decide⟩, if_true, editR_rt.fwd c.e l h1]
   rw [← e]; exact okR_ok rfl
  ·simp only [k, if_true, show ¬ (5 : Int) = 1 by decide, if_false]
   simp only [(fromR_rt 1 5).fwd 5 _ ⟨by decide, by decide, by decide, by decide⟩, if_true, (numR_rt big).fwd c.keep l ⟨h1, h2, h2⟩, show ¬ (5 : Int) = 1 by decide, if_false]
   rw [← e]; exact okR_ok rfl
  ·simp only [k, if_true, show ¬ (2 : Int) = 1 by decide, show ¬ (2 : Int) = 5 by decide, show ¬ (2 : Int) = 3 by decide, if_false, List.append_assoc, List.nil_append]
   simp only [(fromR_rt 1 5).fwd 2 _ ⟨by decide, by decide, by decide, by decide⟩, if_true, show ¬ (2 : Int) = 1 by decide, show ¬ (2 : Int) = 5 by decide, if_false, (numR_rt 5).fwd c.dev _ ⟨d1, by omega, d2⟩,
    (fromR_rt 1 big).fwd c.req _ ⟨by omega, d3, d4, d4⟩, (fromR_rt 1 (idMax - 1)).fwd c.id _ ⟨by omega, h1, by omega, by omega⟩, (fromR_rt 1 big).fwd c.base _ ⟨by omega, h3, h4, h4⟩, mayR_rt.fwd c.p l h5]
   rw [← e]; exact okR_ok rfl
  ·simp only [k, if_true, show ¬ (3 : Int) = 1 by decide, show ¬ (3 : Int) = 5 by decide, show ¬ (3 : Int) = 2 by decide, if_false, List.append_assoc, List.nil_append]
   simp only [(fromR_rt 1 5).fwd 3 _ ⟨by decide, by decide, by decide, by decide⟩, if_true, show ¬ (3 : Int) = 1 by decide, show ¬ (3 : Int) = 5 by decide, show ¬ (3 : Int) = 2 by decide, if_false, (numR_rt 5).fwd c.dev _ ⟨d1, by omega, d2⟩,
    (fromR_rt 1 big).fwd c.req _ ⟨by omega, d3, d4, d4⟩, predR_rt.fwd c.fl _ h1, (numR_rt 511).fwd (c.mask.toNat : Int) _ ⟨by omega, by omega, by omega⟩, u32_ofn]
   rw [← e]; exact okR_ok rfl
  ·simp only [k, show ¬ (4 : Int) = 1 by decide, show ¬ (4 : Int) = 5 by decide, show ¬ (4 : Int) = 2 by decide, show ¬ (4 : Int) = 3 by decide, if_false, List.append_assoc, List.nil_append]
   simp only [(fromR_rt 1 5).fwd 4 _ ⟨by decide, by decide, by decide, by decide⟩, show ¬ (4 : Int) = 1 by decide, show ¬ (4 : Int) = 5 by decide, show ¬ (4 : Int) = 2 by decide, show ¬ (4 : Int) = 3 by decide, if_false, (numR_rt 5).fwd c.dev _ ⟨d1, by omega, d2⟩,
    (fromR_rt 1 big).fwd c.req _ ⟨by omega, d3, d4, d4⟩]
   rw [← e]; exact okR_ok rfl
 bck r h := by
  have h0 := cmdR_sk.err h
  unfold cmdR at h ⊢
  simp only at h ⊢
  rw [okR_ok' h]
  simp only [okR_snd] at h ⊢
  have hi : idMax = 1073741824 := rfl
  by_cases k1 : (fromR 1 5 r).1 = 1
  ·simp only [if_pos k1] at h ⊢
   obtain ⟨e1, a2, b2⟩ := editR_rt.bck _ h
   obtain ⟨-, a1, b1⟩ := (fromR_rt 1 5).bck _ e1
   have hok : cmdOk { cm0 with kd := 1, e := (editR (fromR 1 5 r).2).1 } = true := (cmdOk_iff _).2 (.inl ⟨rfl, rfl, a2⟩)
   refine ⟨h0, hok, ?_⟩
   rw [cmdB, if_pos hok]
   simp only [if_true, List.append_assoc]
   rw [← b2, show numB 1 = numB (fromR 1 5 r).1 by rw [k1]]; exact b1
  ·simp only [if_neg k1] at h ⊢
   by_cases k5 : (fromR 1 5 r).1 = 5
   ·simp only [if_pos k5] at h ⊢
    obtain ⟨e1, a2, b2⟩ := (numR_rt big).bck _ h
    obtain ⟨-, a1, b1⟩ := (fromR_rt 1 5).bck _ e1
    have hok : cmdOk { cm0 with kd := 5, keep := (numR big (fromR 1 5 r).2).1 } = true := (cmdOk_iff _).2 (.inr (.inl ⟨rfl, rfl, a2.1, a2.2.1⟩))
    refine ⟨h0, hok, ?_⟩
    rw [cmdB, if_pos hok]
    simp only [if_true, List.append_assoc, show ¬ (5 : Int) = 1 by decide, if_false]
    rw [← b2, show numB 5 = numB (fromR 1 5 r).1 by rw [k5]]; exact b1
   ·simp only [if_neg k5] at h ⊢
    by_cases k2 : (fromR 1 5 r).1 = 2
    ·simp only [if_pos k2] at h ⊢
     obtain ⟨e5, a6, b6⟩ := mayR_rt.bck _ h
     obtain ⟨e4, a5, b5⟩ := (fromR_rt 1 big).bck _ e5
     obtain ⟨e3, a4, b4⟩ := (fromR_rt 1 (idMax - 1)).bck _ e4
     obtain ⟨e2, a3, b3⟩ := (fromR_rt 1 big).bck _ e3
     obtain ⟨e1, a2, b2⟩ := (numR_rt 5).bck _ e2
     obtain ⟨-, a1, b1⟩ := (fromR_rt 1 5).bck _ e1
     generalize fromR 1 5 r = K at *
     generalize numR 5 K.2 = D at *
     generalize fromR 1 big D.2 = Q at *
     generalize fromR 1 (idMax - 1) Q.2 = I at *
     generalize fromR 1 big I.2 = B at *
     generalize mayR B.2 = P at *
     have hok : cmdOk { cm0 with kd := 2, dev := D.1, req := Q.1, id := I.1, base := B.1, p := P.1 } = true :=
      (cmdOk_iff _).2 (.inr (.inr ⟨⟨a2.1, a2.2.2, a3.2.1, a3.2.2.1⟩, .inl ⟨rfl, rfl, a4.2.1, by have := a4.2.2.2; simp only; omega, a5.2.1, a5.2.2.1, a6⟩⟩))
     refine ⟨h0, hok, ?_⟩
     rw [cmdB, if_pos hok]
     simp only [if_true, List.append_assoc, show ¬ (2 : Int) = 1 by decide, show ¬ (2 : Int) = 5 by decide, show ¬ (2 : Int) = 3 by decide, if_false, List.nil_append]
     rw [← b6, ← b5, ← b4, ← b3, ← b2, ← k2]; exact b1
    ·simp only [if_neg k2] at h ⊢
     by_cases k3 : (fromR 1 5 r).1 = 3
     ·simp only [if_pos k3] at h ⊢
      obtain ⟨e4, a5, b5⟩ := (numR_rt 511).bck _ h
      obtain ⟨e3, a4, b4⟩ := predR_rt.bck _ e4
      obtain ⟨e2, a3, b3⟩ := (fromR_rt 1 big).bck _ e3
      obtain ⟨e1, a2, b2⟩ := (numR_rt 5).bck _ e2
      obtain ⟨-, a1, b1⟩ := (fromR_rt 1 5).bck _ e1
      generalize fromR 1 5 r = K at *
      generalize numR 5 K.2 = D at *
      generalize fromR 1 big D.2 = Q at *
      generalize predR Q.2 = F at *
      generalize numR 511 F.2 = M at *
      have hm := u32_toN a5.1 (by omega)
      have hok : cmdOk { cm0 with kd := 3, dev := D.1, req := Q.1, fl := F.1, mask := UInt32.ofNat M.1.toNat } = true :=
       (cmdOk_iff _).2 (.inr (.inr ⟨⟨a2.1, a2.2.2, a3.2.1, a3.2.2.1⟩, .inr (.inl ⟨rfl, rfl, a4, by simp only; omega⟩)⟩))
      refine ⟨h0, hok, ?_⟩
      rw [cmdB, if_pos hok]
      simp only [if_true, List.append_assoc, show ¬ (3 : Int) = 1 by decide, show ¬ (3 : Int) = 5 by decide, show ¬ (3 : Int) = 2 by decide, if_false, List.nil_append, hm]
      rw [← b5, ← b4, ← b3, ← b2, ← k3]; exact b1
     ·simp only [if_neg k3] at h ⊢
      obtain ⟨e2, a3, b3⟩ := (fromR_rt 1 big).bck _ h
      obtain ⟨e1, a2, b2⟩ := (numR_rt 5).bck _ e2
      obtain ⟨-, a1, b1⟩ := (fromR_rt 1 5).bck _ e1
      generalize fromR 1 5 r = K at *
      generalize numR 5 K.2 = D at *
      generalize fromR 1 big D.2 = Q at *
      have k4 : K.1 = 4 := by omega
      rw [k4] at b1 ⊢
      have hok : cmdOk { cm0 with kd := 4, dev := D.1, req := Q.1 } = true :=
       (cmdOk_iff _).2 (.inr (.inr ⟨⟨a2.1, a2.2.2, a3.2.1, a3.2.2.1⟩, .inr (.inr ⟨rfl, rfl⟩)⟩))
      refine ⟨h0, hok, ?_⟩
      rw [cmdB, if_pos hok]
      simp only [List.append_assoc, show ¬ (4 : Int) = 1 by decide, show ¬ (4 : Int) = 5 by decide, show ¬ (4 : Int) = 2 by decide, show ¬ (4 : Int) = 3 by decide, if_false, List.nil_append]
      rw [← b3, ← b2]; exact b1
theorem msgR_sk : Sk msgR := by
 refine ⟨fun r h => ?_, fun r => ?_⟩
 ·unfold msgR
  simp only
  rw [(fromR_sk 1 5).stk r h]
  split
  ·simp only
   rw [cmdR_sk.stk r h]; exact failC_stk h
  ·split
   ·simp only
    rw [tokR_sk.stk r h, (fromR_sk 1 16).stk r h]
   ·split
    ·exact repR_sk.stk r h
    ·split
     ·exact pageR_sk.stk r h
     ·split
      ·exact (fromR_sk 1 16).stk r h
      ·rfl
 ·unfold msgR
  simp only
  have h1 := (fromR_sk 1 5).sfx r
  split
  ·exact failC_sfx ((cmdR_sk.sfx _).trans h1)
  ·split
   ·exact ((fromR_sk 1 16).sfx _).trans ((tokR_sk.sfx _).trans h1)
   ·split
    ·exact (repR_sk.sfx _).trans h1
    ·split
     ·exact (pageR_sk.sfx _).trans h1
     ·split
      ·exact ((fromR_sk 1 16).sfx _).trans h1
      ·exact h1
theorem msgOk_iff (m : MS) : msgOk m = true ↔ (m.kd = 1 ∧ m = { ms0 with kd := 1, cmd := m.cmd } ∧ m.cmd.kd ≠ 1 ∧ m.cmd.kd ≠ 5 ∧ cmdOk m.cmd = true) ∨ (m.kd = 2 ∧ m = { ms0 with kd := 2, tok := m.tok, size := m.size } ∧ 1 ≤ m.size ∧ m.size ≤ 16 ∧ tokOk m.tok = true)
  ∨ (m.kd = 3 ∧ m = { ms0 with kd := 3, rep := m.rep } ∧ repOk m.rep = true) ∨ (m.kd = 4 ∧ m = { ms0 with kd := 4, page := m.page } ∧ pageOk m.page = true) ∨ (m.kd = 5 ∧ m = { ms0 with kd := 5, code := m.code } ∧ 1 ≤ m.code ∧ m.code ≤ 16) := by
 unfold msgOk
 by_cases h1 : m.kd = 1
 ·simp only [if_pos h1, Bool.and_eq_true, decide_eq_true_eq]
  constructor
  ·rintro ⟨⟨a, b, c⟩, d⟩; exact .inl ⟨h1, a, b, c, d⟩
  ·rintro (⟨_, a, b, c, d⟩ | ⟨h, _⟩ | ⟨h, _⟩ | ⟨h, _⟩ | ⟨h, _⟩)
   ·exact ⟨⟨a, b, c⟩, d⟩
   all_goals rw [h1] at h; exact absurd h (by decide)
 ·rw [if_neg h1]
  by_cases h2 : m.kd = 2
  ·simp only [if_pos h2, Bool.and_eq_true, decide_eq_true_eq]
   constructor
   ·rintro ⟨⟨a, b, c⟩, d⟩; exact .inr (.inl ⟨h2, a, b, c, d⟩)
   ·rintro (⟨h, _⟩ | ⟨_, a, b, c, d⟩ | ⟨h, _⟩ | ⟨h, _⟩ | ⟨h, _⟩)
    ·exact absurd h h1
    ·exact ⟨⟨a, b, c⟩, d⟩
    all_goals rw [h2] at h; exact absurd h (by decide)
  ·rw [if_neg h2]
   by_cases h3 : m.kd = 3
   ·simp only [if_pos h3, Bool.and_eq_true, decide_eq_true_eq]
    constructor
    ·rintro ⟨a, d⟩; exact .inr (.inr (.inl ⟨h3, a, d⟩))
    ·rintro (⟨h, _⟩ | ⟨h, _⟩ | ⟨_, a, d⟩ | ⟨h, _⟩ | ⟨h, _⟩)
     ·exact absurd h h1
     ·exact absurd h h2
     ·exact ⟨a, d⟩
     all_goals rw [h3] at h; exact absurd h (by decide)
   ·rw [if_neg h3]
    by_cases h4 : m.kd = 4
    ·simp only [if_pos h4, Bool.and_eq_true, decide_eq_true_eq]
     constructor
     ·rintro ⟨a, d⟩; exact .inr (.inr (.inr (.inl ⟨h4, a, d⟩)))
     ·rintro (⟨h, _⟩ | ⟨h, _⟩ | ⟨h, _⟩ | ⟨_, a, d⟩ | ⟨h, _⟩)
      ·exact absurd h h1
      ·exact absurd h h2
      ·exact absurd h h3
      ·exact ⟨a, d⟩
      ·rw [h4] at h; exact absurd h (by decide)
    ·rw [if_neg h4]
     by_cases h5 : m.kd = 5
     ·simp only [if_pos h5, decide_eq_true_eq]
      constructor
      ·rintro ⟨a, b, c⟩; exact .inr (.inr (.inr (.inr ⟨h5, a, b, c⟩)))
      ·rintro (⟨h, _⟩ | ⟨h, _⟩ | ⟨h, _⟩ | ⟨h, _⟩ | ⟨_, a, b, c⟩)
       ·exact absurd h h1
       ·exact absurd h h2
       ·exact absurd h h3
       ·exact absurd h h4
       ·exact ⟨a, b, c⟩
     ·rw [if_neg h5]
      constructor
      ·intro h; cases h
      ·rintro (⟨h, _⟩ | ⟨h, _⟩ | ⟨h, _⟩ | ⟨h, _⟩ | ⟨h, _⟩)
       ·exact absurd h h1
       ·exact absurd h h2
       ·exact absurd h h3
       ·exact absurd h h4
       ·exact absurd h h5
theorem msgR_rt : Rt msgR (fun m => msgOk m = true) msgB where
 fwd m l h := by
  unfold msgB msgR
  simp only [List.append_assoc]
  rcases (msgOk_iff m).1 h with ⟨k, e, h1, h2, h3⟩ | ⟨k, e, h1, h2, h3⟩ | ⟨k, e, h1⟩ | ⟨k, e, h1⟩ | ⟨k, e, h1, h2⟩
  ·simp only [k, if_true]
   simp only [(fromR_rt 1 5).fwd 1 _ ⟨by decide, by decide, by decide, by decide⟩, if_true, cmdR_rt.fwd m.cmd l h3]
   rw [if_neg (fun hc => hc.2.elim h1 h2), ← e]
  ·simp only [k, if_true, show ¬ (2 : Int) = 1 by decide, if_false, List.append_assoc]
   simp only [(fromR_rt 1 5).fwd 2 _ ⟨by decide, by decide, by decide, by decide⟩, if_true, show ¬ (2 : Int) = 1 by decide, if_false, tokR_rt.fwd m.tok _ h3, (fromR_rt 1 16).fwd m.size l ⟨by omega, h1, by unfold big; omega, h2⟩]
   rw [← e]
  ·simp only [k, if_true, show ¬ (3 : Int) = 1 by decide, show ¬ (3 : Int) = 2 by decide, if_false]
   simp only [(fromR_rt 1 5).fwd 3 _ ⟨by decide, by decide, by decide, by decide⟩, if_true, show ¬ (3 : Int) = 1 by decide, show ¬ (3 : Int) = 2 by decide, if_false, repR_rt.fwd m.rep l h1]
   rw [← e]
  ·simp only [k, if_true, show ¬ (4 : Int) = 1 by decide, show ¬ (4 : Int) = 2 by decide, show ¬ (4 : Int) = 3 by decide, if_false]
   simp only [(fromR_rt 1 5).fwd 4 _ ⟨by decide, by decide, by decide, by decide⟩, if_true, show ¬ (4 : Int) = 1 by decide, show ¬ (4 : Int) = 2 by decide, show ¬ (4 : Int) = 3 by decide, if_false, pageR_rt.fwd m.page l h1]
   rw [← e]
  ·simp only [k, if_true, show ¬ (5 : Int) = 1 by decide, show ¬ (5 : Int) = 2 by decide, show ¬ (5 : Int) = 3 by decide, show ¬ (5 : Int) = 4 by decide, if_false]
   simp only [(fromR_rt 1 5).fwd 5 _ ⟨by decide, by decide, by decide, by decide⟩, if_true, show ¬ (5 : Int) = 1 by decide, show ¬ (5 : Int) = 2 by decide, show ¬ (5 : Int) = 3 by decide, show ¬ (5 : Int) = 4 by decide, if_false, (fromR_rt 1 16).fwd m.code l ⟨by omega, h1, by unfold big; omega, h2⟩]
   rw [← e]
 bck r h := by
  have h0 := msgR_sk.err h
  unfold msgR at h ⊢
  simp only at h ⊢
  by_cases k1 : (fromR 1 5 r).1 = 1
  ·simp only [if_pos k1] at h ⊢
   obtain ⟨hc, hx⟩ := failC_err (by decide) h
   rw [hx] at h ⊢
   clear hx
   obtain ⟨e1, a2, b2⟩ := cmdR_rt.bck _ h
   obtain ⟨-, a1, b1⟩ := (fromR_rt 1 5).bck _ e1
   refine ⟨h0, (msgOk_iff _).2 (.inl ⟨rfl, rfl, fun q => hc ⟨h, .inl q⟩, fun q => hc ⟨h, .inr q⟩, a2⟩), ?_⟩
   unfold msgB
   simp only [if_true, List.append_assoc]
   rw [← b2, show numB 1 = numB (fromR 1 5 r).1 by rw [k1]]; exact b1
  ·simp only [if_neg k1] at h ⊢
   by_cases k2 : (fromR 1 5 r).1 = 2
   ·simp only [if_pos k2] at h ⊢
    obtain ⟨e2, a3, b3⟩ := (fromR_rt 1 16).bck _ h
    obtain ⟨e1, a2, b2⟩ := tokR_rt.bck _ e2
    obtain ⟨-, a1, b1⟩ := (fromR_rt 1 5).bck _ e1
    refine ⟨h0, (msgOk_iff _).2 (.inr (.inl ⟨rfl, rfl, a3.2.1, a3.2.2.2, a2⟩)), ?_⟩
    unfold msgB
    simp only [if_true, List.append_assoc, show ¬ (2 : Int) = 1 by decide, if_false]
    rw [← b3, ← b2, ← k2]; exact b1
   ·simp only [if_neg k2] at h ⊢
    by_cases k3 : (fromR 1 5 r).1 = 3
    ·simp only [if_pos k3] at h ⊢
     obtain ⟨e1, a2, b2⟩ := repR_rt.bck _ h
     obtain ⟨-, a1, b1⟩ := (fromR_rt 1 5).bck _ e1
     refine ⟨h0, (msgOk_iff _).2 (.inr (.inr (.inl ⟨rfl, rfl, a2⟩))), ?_⟩
     unfold msgB
     simp only [if_true, List.append_assoc, show ¬ (3 : Int) = 1 by decide, show ¬ (3 : Int) = 2 by decide, if_false]
     rw [← b2, ← k3]; exact b1
    ·simp only [if_neg k3] at h ⊢
     by_cases k4 : (fromR 1 5 r).1 = 4
     ·simp only [if_pos k4] at h ⊢
      obtain ⟨e1, a2, b2⟩ := pageR_rt.bck _ h
      obtain ⟨-, a1, b1⟩ := (fromR_rt 1 5).bck _ e1
      refine ⟨h0, (msgOk_iff _).2 (.inr (.inr (.inr (.inl ⟨rfl, rfl, a2⟩)))), ?_⟩
      unfold msgB
      simp only [if_true, List.append_assoc, show ¬ (4 : Int) = 1 by decide, show ¬ (4 : Int) = 2 by decide, show ¬ (4 : Int) = 3 by decide, if_false]
      rw [← b2, ← k4]; exact b1
     ·simp only [if_neg k4] at h ⊢
      by_cases k5 : (fromR 1 5 r).1 = 5
      ·simp only [if_pos k5] at h ⊢
       obtain ⟨e1, a2, b2⟩ := (fromR_rt 1 16).bck _ h
       obtain ⟨-, a1, b1⟩ := (fromR_rt 1 5).bck _ e1
       refine ⟨h0, (msgOk_iff _).2 (.inr (.inr (.inr (.inr ⟨rfl, rfl, a2.2.1, a2.2.2.2⟩)))), ?_⟩
       unfold msgB
       simp only [if_true, List.append_assoc, show ¬ (5 : Int) = 1 by decide, show ¬ (5 : Int) = 2 by decide, show ¬ (5 : Int) = 3 by decide, show ¬ (5 : Int) = 4 by decide, if_false]
       rw [← b2, show numB 5 = numB (fromR 1 5 r).1 by rw [k5]]; exact b1
      ·simp only [if_neg k5] at h ⊢
       obtain ⟨-, a1, b1⟩ := (fromR_rt 1 5).bck _ h
       omega
theorem msgE_D {m : MS} (h : (msgE m).2 = 0) : msgOk m = true ∧ (msgE m).1.length ≤ 4096 ∧ msgD (msgE m).1 = (m, 0) := by
 unfold msgE at h ⊢
 by_cases h1 : msgOk m = true
 ·rw [if_pos h1] at h ⊢
  by_cases h2 : 4096 < (msgB m).length
  ·rw [if_pos h2] at h; cases h
  ·rw [if_neg h2]
   have e := msgR_rt.fwd m [] h1
   rw [List.append_nil] at e
   refine ⟨h1, Nat.le_of_not_lt h2, ?_⟩
   rw [msgD, if_neg h2, e]; rfl
 ·rw [if_neg h1] at h; cases h
theorem msgD_E {l : BL} (h : (msgD l).2 = 0) : msgOk (msgD l).1 = true ∧ msgE (msgD l).1 = (l, 0) := by
 unfold msgD at h ⊢
 by_cases h1 : 4096 < l.length
 ·rw [if_pos h1] at h; cases h
 ·rw [if_neg h1] at h ⊢
  by_cases h2 : endR (msgR ⟨l, 0⟩).2 = 0
  ·rw [if_pos h2]
   unfold endR at h2
   by_cases h3 : (msgR ⟨l, 0⟩).2.e = 0 ∧ 0 < (msgR ⟨l, 0⟩).2.l.length
   ·rw [if_pos h3] at h2; cases h2
   ·rw [if_neg h3] at h2
    obtain ⟨-, a, b⟩ := msgR_rt.bck _ h2
    have e : (msgR ⟨l, 0⟩).2.l = [] := List.eq_nil_of_length_eq_zero (by omega)
    rw [e, List.append_nil] at b
    simp only at b
    refine ⟨a, ?_⟩
    rw [msgE, if_pos a, ← b, if_neg h1]
  ·rw [if_neg h2] at h; exact absurd h h2
end Go.Proofs.YtfbodefnblpflaaGreatDoor
end

section
namespace Go.Proofs.YtfbodefnblpflaaGreatDoor
def wd (g : Nat → Bool) : Nat → Nat
 | 0 => 0
 | n + 1 => wd g n ||| (if g n = true then 2 ^ n else 0)
def tw (f : Nat → Bool) (i : Nat) : Nat := wd (fun j => f (64 * i + j)) 64
end Go.Proofs.YtfbodefnblpflaaGreatDoor
end

section
namespace Go.Proofs.YtfbodefnblpflaaGreatDoor
def T.root : T → ND
 | .leaf x => x
 | .one x _ => x
 | .two x _ _ => x
def T.kids : T → List T
 | .leaf _ => []
 | .one _ a => [a]
 | .two _ a b => [a, b]
theorem T.fl_kids (t : T) : t.fl = t.root :: (t.kids.map T.fl).flatten := by cases t <;> simp [T.fl, T.kids, T.root]
theorem T.ok_kids {t : T} (h : t.ok) : t.kids.length = parts t.root.op ∧ ∀ k, k ∈ t.kids → k.ok := by
 cases t with
 | leaf x => simp only [T.ok] at h; simp [T.kids, T.root, h]
 | one x a => simp only [T.ok] at h; simp [T.kids, T.root, h.1, h.2]
 | two x a b => simp only [T.ok] at h; simp [T.kids, T.root, h.1, h.2.1, h.2.2]
theorem cmpF_eq : ∀ {a b : List ND}, cmpF a b = .eq ↔ a = b
 | [], [] => by simp [cmpF]
 | [], _ :: _ => by simp [cmpF]
 | _ :: _, [] => by simp [cmpF]
 | a :: x, b :: y => by
  rw [cmpF_cons]
  constructor
  ·intro h
   split at h
   ·rename_i h1; rw [ND.key_inj (cmpL_eq.1 h1), cmpF_eq.1 h]
   ·contradiction
  ·intro h
   simp only [List.cons.injEq] at h
   rw [h.1, h.2, if_pos (cmpL_refl _)]
   exact cmpF_eq.2 rfl
end Go.Proofs.YtfbodefnblpflaaGreatDoor
end
