/- Regions whose order is drawn (6): for simp. -/
import Derived.Test.YtielcgplbnlgbaaMl19
set_option linter.unusedVariables false
set_option linter.unusedSimpArgs false
namespace Go.Proofs.Ytielcgplbnlgbaa

def plainOp : Op → Bool
  | .call ⟨.value _, _, _⟩ | .defer _ => false
  | _ => true

section
variable {P : Program} {C : Know} {f : FR} {σ : St} {Q : MQ} {k : MV → St → Prop} {K : FR → St → Prop} {ops : Array Oper} {rest : List Oper}

theorem mopC_plain {op : Op} (h : plainOp op = true) : mopC P C f σ k op = mop P f σ k op := by
  cases op <;> first | rfl | (simp [plainOp] at h; done) | skip
  rename_i c
  obtain ⟨callee, args, ts⟩ := c
  cases callee <;> first | rfl | (simp [plainOp] at h; done)

theorem mdraw_plain {id : Nat} {l : List Oper} (hm : P.follows .mixedOrders = true) (hchk : (chk l.toArray && l.all fun o => plainOp o.op) = true) (h : R (mopsC P (fun _ _ => none) (@OfNat.ofNat (Array Oper) (nat_lit 0) (@_root_.id (OfNat (Array Oper) (nat_lit 0)) (OfNat.mk (l.toArray)))) (Q .normal) (@OfNat.ofNat (List Oper) (nat_lit 0) (@_root_.id (OfNat (List Oper) (nat_lit 0)) (OfNat.mk l))) f σ)) : R (mdraw P id (@OfNat.ofNat (List Oper) (nat_lit 0) (@_root_.id (OfNat (List Oper) (nat_lit 0)) (OfNat.mk l))) f σ Q) := by
  simp only [Bool.and_eq_true] at hchk
  exact mwp_draw hm hchk.1 (fun _ _ => none) h

theorem mdraw_know {id : Nat} {l : List Oper} (hm : P.follows .mixedOrders = true) (hchk : chk l.toArray = true) (C : Know) (h : R (mopsC P C (@OfNat.ofNat (Array Oper) (nat_lit 0) (@_root_.id (OfNat (Array Oper) (nat_lit 0)) (OfNat.mk (l.toArray)))) (Q .normal) (@OfNat.ofNat (List Oper) (nat_lit 0) (@_root_.id (OfNat (List Oper) (nat_lit 0)) (OfNat.mk l))) f σ)) : R (mdraw P id (@OfNat.ofNat (List Oper) (nat_lit 0) (@_root_.id (OfNat (List Oper) (nat_lit 0)) (OfNat.mk l))) f σ Q) :=
  mwp_draw hm hchk C h

/-- Pointers of slots, each to a place of its own: told in a list. -/
theorem DOk.of {ds : List (Nat × Nat)} {f : FR} (h1 : ∀ p, p ∈ ds → ∃ i o, f.get p.1 = .ptr p.2 i o) (h2 : (ds.map (·.2)).Pairwise (· ≠ ·)) (h3 : (ds.map (·.1)).Pairwise (· ≠ ·)) : DOk (ds.map (·.1)) (fun t => ((ds.find? fun p => p.1 == t).map (·.2)).getD 0) f := by
  have hloc : ∀ p, p ∈ ds → ((ds.find? fun q => q.1 == p.1).map (·.2)).getD 0 = p.2 := fun p hp => by
    induction ds with
    | nil => cases hp
    | cons q r ih =>
      simp only [List.map_cons] at h2 h3
      obtain ⟨a1, a2⟩ := List.pairwise_cons.1 h2
      obtain ⟨b1, b2⟩ := List.pairwise_cons.1 h3
      rcases List.mem_cons.1 hp with rfl | hp'
      · simp
      · have : (q.1 == p.1) = false := by simpa using b1 p.1 (List.mem_map.2 ⟨p, hp', rfl⟩)
        rw [List.find?_cons, this]
        exact ih (fun p hp => h1 p (List.mem_cons_of_mem _ hp)) a2 b2 hp'
  refine ⟨fun t ht => ?_, fun t t' ht ht' hne => ?_⟩
  · obtain ⟨p, hp, rfl⟩ := List.mem_map.1 ht
    simp only [hloc p hp]
    exact h1 p hp
  · obtain ⟨p, hp, rfl⟩ := List.mem_map.1 ht
    obtain ⟨q, hq, rfl⟩ := List.mem_map.1 ht'
    simp only [hloc p hp, hloc q hq]
    intro e
    obtain ⟨i, hi, e1⟩ := List.mem_iff_getElem.1 hp
    obtain ⟨j, hj, e2⟩ := List.mem_iff_getElem.1 hq
    have hij : i ≠ j := fun e => by subst e; exact hne (by rw [← e1, ← e2])
    rw [List.pairwise_iff_getElem] at h2
    rcases Nat.lt_or_gt_of_ne hij with hlt | hgt
    · have := h2 i j (by simpa using hi) (by simpa using hj) hlt
      simp only [List.getElem_map, e1, e2] at this
      exact this e
    · have := h2 j i (by simpa using hj) (by simpa using hi) hgt
      simp only [List.getElem_map, e1, e2] at this
      exact this e.symm

theorem mdraw_dis {id : Nat} {l : List Oper} (hm : P.follows .mixedOrders = true) (ds : List (Nat × Nat)) (Ds : List Nat) (hds : ds.map (·.1) = Ds) (hchk : chkD Ds l.toArray = true) (C : Know) (h1 : ∀ p, p ∈ ds → ∃ i o, f.get p.1 = .ptr p.2 i o) (h2 : (ds.map (·.2)).Pairwise (· ≠ ·)) (h3 : Ds.Pairwise (· ≠ ·)) (h : R (mopsC P C (@OfNat.ofNat (Array Oper) (nat_lit 0) (@_root_.id (OfNat (Array Oper) (nat_lit 0)) (OfNat.mk (l.toArray)))) (Q .normal) (@OfNat.ofNat (List Oper) (nat_lit 0) (@_root_.id (OfNat (List Oper) (nat_lit 0)) (OfNat.mk l))) f σ)) : R (mdraw P id (@OfNat.ofNat (List Oper) (nat_lit 0) (@_root_.id (OfNat (List Oper) (nat_lit 0)) (OfNat.mk l))) f σ Q) := by
  subst hds
  exact mwp_drawD hm hchk C (DOk.of h1 h2 h3) h

theorem mopsC_nil : R (mopsC P C ops K [] f σ) = R (K f σ) := rfl
theorem mopsC_cons {dst : Option Tmp} {op : Op} {ty : TypeId} {pos : String} {after : Array Edge} : R (mopsC P C ops K (⟨dst, op, ty, pos, after, none⟩ :: rest) f σ) = R (mopC P C f σ (fun v σ' => mopsC P C ops K (@OfNat.ofNat (List Oper) (nat_lit 0) (@_root_.id (OfNat (List Oper) (nat_lit 0)) (OfNat.mk rest))) (mput f dst v) σ') op) := rfl
theorem mopsC_show {l : List Oper} : R (mopsC P C ops K (@OfNat.ofNat (List Oper) (nat_lit 0) (@_root_.id (OfNat (List Oper) (nat_lit 0)) (OfNat.mk l))) f σ) = R (mopsC P C ops K l f σ) := rfl
theorem mopsC_guard {l : List Oper} {dst : Option Tmp} {op : Op} {ty : TypeId} {pos : String} {after : Array Edge} {j : Nat} {want : Bool} : R (mopsC P C (@OfNat.ofNat (Array Oper) (nat_lit 0) (@_root_.id (OfNat (Array Oper) (nat_lit 0)) (OfNat.mk (l.toArray)))) K (⟨dst, op, ty, pos, after, some (j, want)⟩ :: rest) f σ) = R (mgfork (E (gval f (gdst (@OfNat.ofNat (List Oper) (nat_lit 0) (@_root_.id (OfNat (List Oper) (nat_lit 0)) (OfNat.mk l))) j))) want (mopC P C f σ (fun v σ' => mopsC P C (@OfNat.ofNat (Array Oper) (nat_lit 0) (@_root_.id (OfNat (Array Oper) (nat_lit 0)) (OfNat.mk (l.toArray)))) K (@OfNat.ofNat (List Oper) (nat_lit 0) (@_root_.id (OfNat (List Oper) (nat_lit 0)) (OfNat.mk rest))) (mput f dst v) σ') op) (mopsC P C (@OfNat.ofNat (Array Oper) (nat_lit 0) (@_root_.id (OfNat (Array Oper) (nat_lit 0)) (OfNat.mk (l.toArray)))) K (@OfNat.ofNat (List Oper) (nat_lit 0) (@_root_.id (OfNat (List Oper) (nat_lit 0)) (OfNat.mk rest))) (mput f dst .junk) σ)) := congrArg R (by
  show mopsC P C l.toArray K (⟨dst, op, ty, pos, after, some (j, want)⟩ :: rest) f σ = mgfork (gval f (gdst l j)) want (mopC P C f σ (fun v σ' => mopsC P C l.toArray K rest (mput f dst v) σ') op) (mopsC P C l.toArray K rest (mput f dst .junk) σ)
  simp only [mopsC, mguard, gdst_eq]
  cases gdst l j <;> rfl)
theorem mopC_go {op : Op} (h : plainOp op = true) : R (mopC P C f σ k op) = R (mop P f σ k op) := by rw [mopC_plain h]
def mcallCv (P : Program) (C : Know) (x : MV) (args : List MV) (σ : St) (k : MV → St → Prop) : Prop := match x with
  | .fn (.func g) ms ns => mcallC P C g (ms ++ args ++ ns) σ k
  | _ => False
theorem mopC_call {x : Operand} {args : Array Operand} {ts : Array TypeId} : R (mopC P C f σ k (.call ⟨.value x, args, ts⟩)) = R (mcallCv P C (E (mval f x)) (E (args.toList.map (mval f))) σ k) := rfl
theorem mcallCv_fn {g : FuncId} {ms ns args : List MV} : R (mcallCv P C (.fn (.func g) ms ns) args σ k) = R (mcallC P C g (E (ms ++ args ++ ns)) σ k) := rfl

/-- A call of which is known what it answers. -/
theorem know_pure {g : FuncId} {ms : List MV} {r : MV} (hC : C g ms = some ([], fun v => v = r)) (h : MCalls P g ms St.none fun v _ => v = r) (hk : R (mlet r σ k)) : R (mcallC P C g ms σ k) :=
  ⟨[], _, [], hC, rfl, h.mono_pure, ⟨r, rfl⟩, fun v hv => hv ▸ hk⟩

theorem know_at {g : FuncId} {ms : List MV} (rd : List Nat) (os : List MObj) {q : MV → Prop} (hC : C g ms = some (rd, q)) (hos : rd.map σ = os.map some) (h : MCalls P g ms (St.ofList rd os) fun v σ' => q v ∧ σ' = St.ofList rd os) (hq : ∃ v, q v) (hk : ∀ v, q v → R (mlet v σ k)) : R (mcallC P C g ms σ k) :=
  ⟨rd, q, os, hC, hos, h, hq, hk⟩

end

attribute [go_sem ↓] mopsC_show mopsC_nil mopsC_cons mopsC_guard mopC_call mopC_go
attribute [go_sem] mcallCv_fn

end Go.Proofs.Ytielcgplbnlgbaa
