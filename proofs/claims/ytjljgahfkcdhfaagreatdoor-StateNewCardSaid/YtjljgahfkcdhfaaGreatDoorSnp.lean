/- Parts of the proof, joined. Each part says what it proves, and under which conditions it does: those that its theorems name. -/
import Derived.Test.YtjljgahfkcdhfaaGreatDoorSnm
import Derived.Test.YtjljgahfkcdhfaaGreatDoorSno
set_option linter.unusedVariables false
set_option linter.unusedSimpArgs false
set_option maxHeartbeats 4000000
section
namespace Go.Proofs.YtjljgahfkcdhfaaGreatDoor
class LB (l : BL) (k : outParam Nat) : Prop where
 h : l.length ≤ k
instance {a b : BL} {i j : Nat} [h : LB a i] [k : LB b j] : LB (a ++ b) (i + j) := ⟨by have := h.h; have := k.h; rw [List.length_append]; omega⟩
instance : LB [] 0 := ⟨Nat.le_refl _⟩
instance {c : Prop} [Decidable c] {a b : BL} {i j : Nat} [h : LB a i] [k : LB b j] : LB (if c then a else b) (i + j) := ⟨by have := h.h; have := k.h; split <;> omega⟩
theorem LB.le {l : BL} {k n : Nat} [h : LB l k] (hk : k ≤ n) : l.length ≤ n := Nat.le_trans h.h hk
class Sh (r : RD) : Prop where
 h : r.l.length ≤ 1000000
instance {c : Prop} [Decidable c] {r s : RD} [h : Sh r] [k : Sh s] : Sh (if c then r else s) := by
 split
 ·exact h
 ·exact k
end Go.Proofs.YtjljgahfkcdhfaaGreatDoor
end

section
namespace Go.Proofs.YtjljgahfkcdhfaaGreatDoor
inductive Lz (e : Nat) (xs : List (List MV)) : MV → Prop where
 | lst (t : Bool) : Lz e xs (.lst e xs t)
 | nil (h : xs = []) : Lz e xs .nils
theorem Lz.cell {e : Nat} {xs : List (List MV)} {m : MV} (h : Lz e xs m) : m.isCell = true := by cases h <;> rfl
theorem Lz.cells {e : Nat} {xs : List (List MV)} {m : MV} (h : Lz e xs m) : m.cells = [m] := by cases h <;> rfl
theorem Lz.weak {e : Nat} {xs : List (List MV)} {m : MV} (h : Lz e xs m) : Weak m (.lst e xs false) := by
 cases h with
 | lst t => cases t with
  | false => exact .same _
  | true => exact .tight _ _
 | nil h => subst h; exact .nil _ _
abbrev CM.k (c : CM) (f : MV) : List MV := .int .i64 c.kd :: .int .i64 c.e.kd :: .int .i64 c.e.id :: .int .i64 c.e.gr :: .int .u32 (c.e.p.mask.toNat : Int) :: .int .u32 (c.e.p.lab.toNat : Int) :: (fc c.e.p.f ++
 .int .i64 c.dev :: .int .i64 c.req :: .int .i64 c.id :: .int .i64 c.base :: .int .i64 c.keep :: .int .u32 (c.p.mask.toNat : Int) :: .int .u32 (c.p.lab.toNat : Int) :: (fc c.p.f ++ [f, .int .u32 (c.mask.toNat : Int)]))
abbrev RE.k (a : RE) (f : MV) : List MV := [.int .i64 a.kd, .int .i64 a.dev, .int .i64 a.req, .int .i64 a.code, .int .i64 a.id, .int .i64 a.ver, .int .i64 a.sq, .int .i64 a.ep, f, .int .u32 (a.mask.toNat : Int)]
abbrev PG.k (p : PG) (i : MV) : List MV := [.int .i64 p.code, .bool p.reset, .int .i64 p.fr.dev, .int .i64 p.fr.ep, .int .i64 p.fr.sq, .int .i64 p.fr.cu, .int .i64 p.to.dev, .int .i64 p.to.ep, .int .i64 p.to.sq, .int .i64 p.to.cu, i]
abbrev MS.k (m : MS) (f g i : MV) : List MV := .int .i64 m.kd :: .int .i64 m.size :: .int .i64 m.cmd.kd :: .int .i64 m.cmd.e.kd :: .int .i64 m.cmd.e.id :: .int .i64 m.cmd.e.gr :: .int .u32 (m.cmd.e.p.mask.toNat : Int) :: .int .u32 (m.cmd.e.p.lab.toNat : Int) :: (fc m.cmd.e.p.f ++
 .int .i64 m.cmd.dev :: .int .i64 m.cmd.req :: .int .i64 m.cmd.id :: .int .i64 m.cmd.base :: .int .i64 m.cmd.keep :: .int .u32 (m.cmd.p.mask.toNat : Int) :: .int .u32 (m.cmd.p.lab.toNat : Int) :: (fc m.cmd.p.f ++ f :: .int .u32 (m.cmd.mask.toNat : Int) ::
 .int .i64 m.tok.dev :: .int .i64 m.tok.ep :: .int .i64 m.tok.sq :: .int .i64 m.tok.cu ::
 .int .i64 m.rep.kd :: .int .i64 m.rep.dev :: .int .i64 m.rep.req :: .int .i64 m.rep.code :: .int .i64 m.rep.id :: .int .i64 m.rep.ver :: .int .i64 m.rep.sq :: .int .i64 m.rep.ep :: g :: .int .u32 (m.rep.mask.toNat : Int) ::
 .int .i64 m.page.code :: .bool m.page.reset :: .int .i64 m.page.fr.dev :: .int .i64 m.page.fr.ep :: .int .i64 m.page.fr.sq :: .int .i64 m.page.fr.cu :: .int .i64 m.page.to.dev :: .int .i64 m.page.to.ep :: .int .i64 m.page.to.sq :: .int .i64 m.page.to.cu :: i ::
 [.int .i64 m.code]))
theorem re_iff {a b : RE} : a = b ↔ a.kd = b.kd ∧ a.dev = b.dev ∧ a.req = b.req ∧ a.code = b.code ∧ a.id = b.id ∧ a.ver = b.ver ∧ a.sq = b.sq ∧ a.ep = b.ep ∧ a.fl = b.fl ∧ a.mask = b.mask := by
 obtain ⟨a1, a2, a3, a4, a5, a6, a7, a8, a9, a10⟩ := a
 obtain ⟨b1, b2, b3, b4, b5, b6, b7, b8, b9, b10⟩ := b
 simp
end Go.Proofs.YtjljgahfkcdhfaaGreatDoor
end

section
namespace Go.Proofs.YtjljgahfkcdhfaaGreatDoor
section
variable {P : Program} {f : FR} {σ : St} {Q : MQ} {id : Nat} {a b l : List Oper} {x : Oper} {dr : Bool}
def mregA (P : Program) (id : Nat) (dr : Bool) (l : List Oper) (f : FR) (σ : St) (Q : MQ) : Prop := mcode P (.region id l.toArray dr) f σ Q
theorem mcode_app : R (mcode P (.region id (List.append a b).toArray dr) f σ Q) = R (mregA P id dr (E (List.append a b)) f σ Q) := congrArg R rfl
theorem mregA_go : R (mregA P id false (x :: l) f σ Q) = R (mops P (@OfNat.ofNat (Array Oper) (nat_lit 0) (@_root_.id (OfNat (Array Oper) (nat_lit 0)) (OfNat.mk ((x :: l).toArray)))) (Q .normal) (@OfNat.ofNat (List Oper) (nat_lit 0) (@_root_.id (OfNat (List Oper) (nat_lit 0)) (OfNat.mk (x :: l)))) f σ) := congrArg R rfl
theorem mregA_draw : R (mregA P id true (x :: l) f σ Q) = R (mdraw P id (@OfNat.ofNat (List Oper) (nat_lit 0) (@_root_.id (OfNat (List Oper) (nat_lit 0)) (OfNat.mk (x :: l)))) (E f) σ Q) := congrArg R rfl
theorem consO : List.append (x :: a) b = x :: List.append a b := rfl
theorem nilO : List.append ([] : List Oper) b = b := rfl
end
attribute [go_sem ↓ high] mcode_app
attribute [go_sem] mregA_go mregA_draw consO nilO
theorem use_new {P : Program} {g : FuncId} {ms : List MV} {σ : St} {o : MObj} {u : Nat → MV} {k : MV → St → Prop} (h : MCalls P g ms St.none fun v σ' => ∃ l, v = u l ∧ σ' = St.none.set l o) (hk : ∀ l, σ l = none → R (mlet (u l) (σ.set l o) k)) : R (mcallE P g ms σ k) :=
 use_frame h (St.none_le σ) fun v σ' hv hf => by
  obtain ⟨l, rfl, rfl⟩ := hv
  rw [minus_none, over_set, over_none]
  refine hk l ?_
  rcases hf l o (set_hit _ _ _) with h | ⟨o', h⟩
  ·exact h
  ·simp [St.none] at h
end Go.Proofs.YtjljgahfkcdhfaaGreatDoor
end

section
namespace Go.Proofs.YtjljgahfkcdhfaaGreatDoor
theorem mb_neq {t : TypeId} {xs ys : List MV} {b : Bool} (h : meqs Tryz.prog 6 t (.agg xs) (.agg ys) = some b) (hp : eqPlain Tryz.prog t = true) : mbin Tryz.prog t .neq (.agg xs) (.agg ys) = some (True, .bool (!b)) := by
 rw [mbin_agg, h, maggEq_some, eqV_neq, hp]; simp
theorem pl_card : eqPlain Tryz.prog 81 = true := by decide +kernel
theorem mbn_card (a b : CA) : mbin Tryz.prog 81 .neq (.agg a.c) (.agg b.c) = some (True, .bool (!decide (a = b))) := mb_neq (meq_card 2 a b) pl_card
end Go.Proofs.YtjljgahfkcdhfaaGreatDoor
end
