/- Parts of the proof, joined. Each part says what it proves, and under which conditions it does: those that its theorems name. -/
import Derived.Test.YtjljgahfkcdhfaaGreatDoorSne
import Derived.RangeFuncIn
import Derived.RangeFuncSeq
set_option linter.unusedVariables false
set_option linter.unusedSimpArgs false
set_option maxHeartbeats 4000000
section
namespace Go.Proofs.YtjljgahfkcdhfaaGreatDoor
structure YS where
 w : World
 wr : Nat → Prop
 sn : Addr → Option Value
structure Agree (S : YS) (w : World) : Prop where
 same : ∀ k, S.wr k → w.heap[k]? = S.w.heap[k]?
 lt : ∀ k, S.wr k → k < S.w.heap.size
 nomark : ∀ k, S.wr k → ∀ x, S.w.heap[k]? ≠ some (Obj.deferred x)
 sn : ∀ a v, S.sn a = some v → w.cell? a = some v
 size : S.w.heap.size ≤ w.heap.size
 os : w.os = S.w.os
 tape : w.tape = S.w.tape
 output : w.output = S.w.output
 drawn : drw S.w ≤ drw w
structure Apt (Φ : Phi) (σ : St) (S : YS) (w : World) : Prop where
 agree : Agree S w
 own : ∀ k, S.wr k → ¬ Owned Φ σ k
 snown : ∀ a v, S.sn a = some v → ¬ Owned Φ σ a.block
 snap : ∀ a v, Φ.snap a = some v → ¬ S.wr a.block
theorem Apt.step {Φ Φ' : Phi} {σ σ' : St} {S : YS} {w w' : World} (h : Apt Φ σ S w) (hs : Step Φ σ w Φ' σ' w') : Apt Φ' σ' S w' := by
 have hlt : ∀ k, S.wr k → k < w.heap.size := fun k hk => Nat.lt_of_lt_of_le (h.agree.lt k hk) h.agree.size
 have hsl : ∀ a v, S.sn a = some v → a.block < w.heap.size := fun a v q => World.block_lt_of_cell? w a (h.agree.sn a v q)
 refine ⟨⟨fun k hk => (hs.block k (hlt k hk) (h.own k hk)).trans (h.agree.same k hk), h.agree.lt, h.agree.nomark, fun a v q => ?_, Nat.le_trans h.agree.size hs.size, hs.os.trans h.agree.os, hs.tape.trans h.agree.tape, hs.output.trans h.agree.output, Nat.le_trans h.agree.drawn hs.drawn⟩, fun k hk ho => ?_, fun a v q ho => ?_, fun a v hv hk => ?_⟩
 ·rw [World.cell?_heap (hs.block _ (hsl a v q) (h.snown a v q))]
  exact h.agree.sn a v q
 ·rcases hs.ownd k ho with q | q
  ·exact h.own k hk q
  ·have := hlt k hk; omega
 ·rcases hs.ownd _ ho with p | p
  ·exact h.snown a v q p
  ·have := hsl a v q; omega
 ·rcases hs.snapn a v hv with q | q | q
  ·exact h.snap a v q hk
  ·have := hlt _ hk; omega
  ·exact h.own _ hk q
structure StepS (Φ : Phi) (σ : St) (w : World) (S : YS) (Φ' : Phi) (σ' : St) (w' : World) (S' : YS) : Prop where
 le : Φ.le Φ'
 os : w'.os = w.os
 tape : w'.tape = w.tape
 output : w'.output = w.output
 drawn : drw w ≤ drw w'
 size : w.heap.size ≤ w'.heap.size
 block : ∀ k, k < w.heap.size → ¬ Owned Φ σ k → ¬ S.wr k → w'.heap[k]? = w.heap[k]?
 snapn : ∀ a v, Φ'.snap a = some v → Φ.snap a = some v ∨ w.heap.size ≤ a.block ∨ Owned Φ σ a.block
 ownd : ∀ R, Owned Φ' σ' R → Owned Φ σ R ∨ w.heap.size ≤ R
 wr : ∀ k, S'.wr k → S.wr k ∨ w.heap.size ≤ k
 sn : ∀ a v, S'.sn a = some v → S.sn a = some v ∨ S.wr a.block ∨ w.heap.size ≤ a.block ∨ Φ.snap a = some v ∨ Owned Φ σ a.block
theorem StepS.of {Φ Φ' : Phi} {σ σ' : St} {w w' : World} (S : YS) (hs : Step Φ σ w Φ' σ' w') : StepS Φ σ w S Φ' σ' w' S :=
 ⟨hs.le, hs.os, hs.tape, hs.output, hs.drawn, hs.size, fun k hk hn _ => hs.block k hk hn, hs.snapn, hs.ownd, fun k hk => .inl hk, fun _ _ q => .inl q⟩
theorem StepS.refl (Φ : Phi) (σ : St) (w : World) (S : YS) : StepS Φ σ w S Φ σ w S := .of S (.refl Φ σ w)
theorem StepS.trans {Φ Φ1 Φ2 : Phi} {σ σ1 σ2 : St} {w w1 w2 : World} {S S1 S2 : YS} (h : StepS Φ σ w S Φ1 σ1 w1 S1) (k : StepS Φ1 σ1 w1 S1 Φ2 σ2 w2 S2) : StepS Φ σ w S Φ2 σ2 w2 S2 where
 le := h.le.trans k.le
 os := k.os.trans h.os
 tape := k.tape.trans h.tape
 output := k.output.trans h.output
 drawn := Nat.le_trans h.drawn k.drawn
 size := Nat.le_trans h.size k.size
 block := fun i hi hn hw => (k.block i (Nat.lt_of_lt_of_le hi h.size) (fun ho => (h.ownd i ho).elim hn (fun q => by omega)) (fun ho => (h.wr i ho).elim hw (fun q => by omega))).trans (h.block i hi hn hw)
 snapn := fun a v hv => by
  rcases k.snapn a v hv with q | q | q
  ·exact h.snapn a v q
  ·exact .inr (.inl (Nat.le_trans h.size q))
  ·rcases h.ownd _ q with q | q
   ·exact .inr (.inr q)
   ·exact .inr (.inl q)
 ownd := fun R hR => by
  rcases k.ownd R hR with q | q
  ·exact h.ownd R q
  ·exact .inr (Nat.le_trans h.size q)
 wr := fun i hi => by
  rcases k.wr i hi with q | q
  ·exact h.wr i q
  ·exact .inr (Nat.le_trans h.size q)
 sn := fun a v hv => by
  rcases k.sn a v hv with q | q | q | q | q
  ·exact h.sn a v q
  ·rcases h.wr _ q with q | q
   ·exact .inr (.inl q)
   ·exact .inr (.inr (.inl q))
  ·exact .inr (.inr (.inl (Nat.le_trans h.size q)))
  ·rcases h.snapn a v q with q | q | q
   ·exact .inr (.inr (.inr (.inl q)))
   ·exact .inr (.inr (.inl q))
   ·exact .inr (.inr (.inr (.inr q)))
  ·rcases h.ownd _ q with q | q
   ·exact .inr (.inr (.inr (.inr q)))
   ·exact .inr (.inr (.inl q))
def YSpec (P : Program) (l : Nat) (xs : List (List MV)) (Y : Nat → YS → Prop) (Yx : YS → Prop) (Φ0 : Phi) (σ0 : St) (n0 : Nat) : Prop :=
 ∀ (i : Nat) (x : List MV) (S : YS) (w : World) (Ψ : Phi) (vs : Array Value), xs[i]? = some x → Y i S → Agree S w → n0 ≤ w.heap.size → (∀ m, Ψ.obj m = none) →
  (∀ a v, Ψ.snap a = some v → w.cell? a = some v ∧ ¬ S.wr a.block ∧ (Φ0.snap a = some v ∨ n0 ≤ a.block ∨ Owned Φ0 σ0 a.block)) → Rels Ψ vs x →
  YieldAt Fence.wide 0 P l vs w fun e w' => ∃ b S', e = .returned (.bool b) ∧ S'.w = w' ∧ Agree S' w' ∧ w'.os = w.os ∧ w'.tape = w.tape ∧ w'.output = w.output ∧ drw w ≤ drw w' ∧ w.heap.size ≤ w'.heap.size ∧
   (∀ k, k < w.heap.size → ¬ S.wr k → w'.heap[k]? = w.heap[k]?) ∧ (∀ k, S'.wr k → S.wr k ∨ w.heap.size ≤ k) ∧
   (∀ a v, S'.sn a = some v → S.sn a = some v ∨ S.wr a.block ∨ w.heap.size ≤ a.block ∨ Ψ.snap a = some v) ∧ (if b = true then Y (i + 1) S' else Yx S')
def MSeq (P : Program) (g : FuncId) (ns : List MV) (σi : St) (xs : List (List MV)) : Prop :=
 Enters P g ∧ ∀ (l : Nat) (Y : Nat → YS → Prop) (Yx : YS → Prop) (Φ : Phi) (w : World) (S : YS) (vs : Array Value), YSpec P l xs Y Yx Φ σi w.heap.size → Inv Φ w σi → Apt Φ σi S w → Y 0 S → Rels Φ vs ns →
  Calls P g (#[.func (.yield l) #[] #[]] ++ vs) w fun e w' => ∃ v Φ' σ' S', e = .returned v ∧ Inv Φ' w' σ' ∧ Apt Φ' σ' S' w' ∧ StepS Φ σi w S Φ' σ' w' S' ∧ (Y xs.length S' ∨ Yx S')
end Go.Proofs.YtjljgahfkcdhfaaGreatDoor
end

section
namespace Go.Proofs.YtjljgahfkcdhfaaGreatDoor
theorem Inv.grow {Φ : Phi} {w w' : World} {σ : St} (hi : Inv Φ w σ) (h1 : w'.os = w.os) (h2 : w'.tape = w.tape) (h3 : w'.output = w.output) (h4 : drw w ≤ drw w') (h5 : w.heap.size ≤ w'.heap.size) (hb : ∀ k, k < w.heap.size → w'.heap[k]? = w.heap[k]?) :
  Inv Φ w' σ ∧ Step Φ σ w Φ σ w' :=
 ⟨⟨fun l o h => (hi.own l o h).mono (.refl Φ) fun p R hp hR => by
   obtain ⟨p', hp', hlt⟩ := (hi.own l o h).place
   rw [hp] at hp'; cases hp'
   exact hb R (hlt R hR), hi.inj, fun a v h => by
   rw [World.cell?_heap (hb _ (World.block_lt_of_cell? w a (hi.snap a v h)))]
   exact hi.snap a v h, hi.apart, hi.fresh⟩,
  ⟨.refl Φ, h1, h2, h3, h4, h5, fun k hk _ => hb k hk, fun _ _ h => .inl h, fun l o h => .inl ⟨o, h⟩, fun _ h => .inl h⟩⟩
structure CStep (Φ0 : Phi) (σ0 : St) (n0 : Nat) (Φ : Phi) (σ : St) : Prop where
 le : Φ0.le Φ
 snapn : ∀ a v, Φ.snap a = some v → Φ0.snap a = some v ∨ n0 ≤ a.block ∨ Owned Φ0 σ0 a.block
 locs : ∀ l o, σ l = some o → (∃ o', σ0 l = some o') ∨ Φ0.obj l = none
 ownd : ∀ R, Owned Φ σ R → Owned Φ0 σ0 R ∨ n0 ≤ R
theorem CStep.of {Φ Φ' : Phi} {σ σ' : St} {w w' : World} (h : Step Φ σ w Φ' σ' w') : CStep Φ σ w.heap.size Φ' σ' := ⟨h.le, h.snapn, h.locs, h.ownd⟩
theorem CStep.step {Φ0 Φ Φ' : Phi} {σ0 σ σ' : St} {n0 : Nat} {w w' : World} (h : CStep Φ0 σ0 n0 Φ σ) (hn : n0 ≤ w.heap.size) (k : Step Φ σ w Φ' σ' w') : CStep Φ0 σ0 n0 Φ' σ' where
 le := h.le.trans k.le
 snapn := fun a v hv => by
  rcases k.snapn a v hv with q | q | q
  ·exact h.snapn a v q
  ·exact .inr (.inl (Nat.le_trans hn q))
  ·rcases h.ownd _ q with q | q
   ·exact .inr (.inr q)
   ·exact .inr (.inl q)
 locs := fun l o hl => by
  rcases k.locs l o hl with ⟨o', q⟩ | q
  ·exact h.locs l o' q
  ·right
   cases hl : Φ0.obj l with
   | none => rfl
   | some p => have := h.le.obj l p hl; simp [this] at q
 ownd := fun R hR => by
  rcases k.ownd R hR with q | q
  ·exact h.ownd R q
  ·exact .inr (Nat.le_trans hn q)
structure CSt (Φ0 : Phi) (σ0 : St) (n0 : Nat) (tmps : Array Value) (fc : FR) (l : Nat) (st : Loop) (σ : St) (S : YS) (Φ : Phi) : Prop where
 inv : Inv Φ S.w σ
 frame : FRel Φ tmps fc
 step : CStep Φ0 σ0 n0 Φ σ
 wr : ∀ k, S.wr k ↔ (Owned Φ σ k ∨ k = l)
 sn : ∀ a, S.sn a = Φ.snap a
 lrec : S.w.heap[l]? = some (.loop st)
 size : n0 ≤ S.w.heap.size
 base : Φ.base ≤ S.w.heap.size
theorem CSt.agree {Φ0 Φ : Phi} {σ0 σ : St} {n0 : Nat} {tmps : Array Value} {fc : FR} {l : Nat} {st : Loop} {S : YS} (h : CSt Φ0 σ0 n0 tmps fc l st σ S Φ) : Agree S S.w :=
 ⟨fun _ _ => rfl, fun k hk => by
  rcases (h.wr k).1 hk with q | rfl
  ·obtain ⟨l', o, p, h1, h2, h3⟩ := q
   obtain ⟨p', e, hlt⟩ := (h.inv.own l' o h1).place
   rw [h2] at e; cases e
   exact hlt k h3
  ·exact (Array.getElem?_eq_some_iff.1 h.lrec).1, (fun k hk x e => by
  rcases (h.wr k).1 hk with q | rfl
  ·exact h.inv.mark e q
  ·rw [h.lrec] at e; cases e), fun a v q => h.inv.snap a v (by rw [← h.sn a]; exact q), Nat.le_refl _, rfl, rfl, rfl, Nat.le_refl _⟩
theorem CSt.at {Φ0 Φ : Phi} {σ0 σ : St} {n0 : Nat} {tmps : Array Value} {fc : FR} {l : Nat} {st : Loop} {S : YS} (h : CSt Φ0 σ0 n0 tmps fc l st σ S Φ) {w : World} (ha : Agree S w) {Ψ : Phi} (ho : ∀ m, Ψ.obj m = none)
  (hs : ∀ a v, Ψ.snap a = some v → w.cell? a = some v ∧ ¬ S.wr a.block ∧ (Φ0.snap a = some v ∨ n0 ≤ a.block ∨ Owned Φ0 σ0 a.block)) :
  ∃ Φ', Inv Φ' w σ ∧ FRel Φ' tmps fc ∧ CStep Φ0 σ0 n0 Φ' σ ∧ (∀ k, Owned Φ' σ k ↔ Owned Φ σ k) ∧ (∀ a v, Φ'.snap a = some v → S.sn a = some v ∨ Ψ.snap a = some v) ∧ (∀ v m, Rel Ψ v m → Rel Φ' v m) ∧ w.heap[l]? = some (.loop st) ∧ Φ'.base ≤ w.heap.size := by
 obtain ⟨Φ', hΦ⟩ : ∃ Φ' : Phi, Φ' = { Φ with snap := fun a => match Φ.snap a with | some v => some v | none => Ψ.snap a } := ⟨_, rfl⟩
 have hle : Φ.le Φ' := by subst hΦ; exact ⟨fun a v q => by simp [q], fun _ _ q => q, rfl⟩
 have hobj : Φ'.obj = Φ.obj := by subst hΦ; rfl
 have hb : Φ'.base = Φ.base := by subst hΦ; rfl
 have hsn : ∀ a v, Φ'.snap a = some v → Φ.snap a = some v ∨ Ψ.snap a = some v := fun a v q => by
  subst hΦ
  simp only at q
  cases e : Φ.snap a with
  | none => rw [e] at q; exact .inr q
  | some u => rw [e] at q; exact .inl q
 have hwr : ∀ k, Owned Φ σ k → w.heap[k]? = S.w.heap[k]? := fun k hk => ha.same k ((h.wr k).2 (.inl hk))
 have hown : ∀ k, Owned Φ' σ k ↔ Owned Φ σ k := fun k => by unfold Owned; rw [hobj]
 refine ⟨Φ', ⟨fun l' o hl => (h.inv.own l' o hl).mono hle fun p R h1 h2 => hwr R ⟨l', o, p, hl, h1, h2⟩, fun a b o o' p p' R h1 h2 h3 h4 => ?_, fun a v q => ?_, fun l' o p R a v h1 h2 h3 q => ?_, ?_⟩, h.frame.mono hle, ⟨h.step.le.trans hle, fun a v q => ?_, h.step.locs, fun R hR => h.step.ownd R ((hown R).1 hR)⟩, hown, fun a v q => ?_, fun v m r => ?_, ?_, ?_⟩
 ·rw [hobj] at h3 h4; exact h.inv.inj a b o o' p p' R h1 h2 h3 h4
 ·rcases hsn a v q with q | q
  ·exact ha.sn a v (by rw [h.sn a]; exact q)
  ·exact (hs a v q).1
 ·rw [hobj] at h2
  rcases hsn a v q with q | q
  ·exact h.inv.apart l' o p R a v h1 h2 h3 q
  ·intro e
   exact (hs a v q).2.1 ((h.wr _).2 (.inl ⟨l', o, p, h1, h2, e ▸ h3⟩))
 ·obtain ⟨n, hn⟩ := h.inv.fresh.1.1
  exact ⟨⟨⟨n, fun k hk => by rw [hobj]; exact hn k hk⟩, fun k p hk => h.inv.fresh.1.2 k p (by rw [← hobj]; exact hk)⟩, fun g i v q => hle.snap _ _ (h.inv.fresh.2 g i v q)⟩
 ·rcases hsn a v q with q | q
  ·exact h.step.snapn a v q
  ·exact (hs a v q).2.2
 ·rcases hsn a v q with q | q
  ·exact .inl (by rw [h.sn a]; exact q)
  ·exact .inr q
 ·refine r.mono2 (fun a u q => ?_) (fun l' p q => by rw [ho l'] at q; cases q)
  have h1 := (hs a u q).1
  subst hΦ
  simp only
  cases e : Φ.snap a with
  | none => exact q
  | some u' =>
   have h2 := ha.sn a u' (by rw [h.sn a]; exact e)
   rw [h1] at h2
   simpa using h2.symm
 ·rw [ha.same l ((h.wr l).2 (.inr rfl))]; exact h.lrec
 ·rw [hb]; exact Nat.le_trans h.base ha.size
def onlyN (K : FR → St → Prop) : MQ
 | .normal, f, σ => K f σ
 | _, _, _ => False
def roundQ (Q : MQ) (fc : FR) (nxt : St → Prop) : MQ
 | .normal, f, σ => Gh f σ fun _ σ1 => nxt σ1
 | .ret, f, σ => Gh f σ fun _ σ1 => Q .ret fc σ1
 | .exit id, f, σ => Gh f σ fun _ σ1 => Q (.exit id) fc σ1
 | _, _, _ => False
end Go.Proofs.YtjljgahfkcdhfaaGreatDoor
end
