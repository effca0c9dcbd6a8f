/- Parts of the proof, joined. Each part says what it proves, and under which conditions it does: those that its theorems name. -/
import Derived.Test.YtjljgahfkcdhfaaGreatDoorSnj
import Derived.Test.YtjljgahfkcdhfaaGreatDoorSnl
set_option linter.unusedVariables false
set_option linter.unusedSimpArgs false
set_option maxHeartbeats 4000000
section
namespace Go.Proofs.YtjljgahfkcdhfaaGreatDoor
def okI (x : IT) : Prop := (x.kd = 1 ∨ x.kd = 2 ∨ x.kd = 3) ∧ (if x.kd = 2 then 0 ≤ x.c.id ∧ x.c.id ≤ idMax - 1 ∧ x.c = { ca0 with id := x.c.id } else cardOk x.c = true)
end Go.Proofs.YtjljgahfkcdhfaaGreatDoor
end

section
namespace Go.Proofs.YtjljgahfkcdhfaaGreatDoor
class Sfx (bs : BL) (r : RD) : Prop where
 h : r.l <:+ bs
instance {bs : BL} {c : Prop} [Decidable c] {r s : RD} [h : Sfx bs r] [k : Sfx bs s] : Sfx bs (if c then r else s) := by
 split
 ·exact h
 ·exact k
theorem Sfx.len {bs : BL} {r : RD} (h : Sfx bs r) : r.l.length ≤ bs.length := h.h.length_le
theorem Sfx.drop {bs : BL} {r : RD} (h : Sfx bs r) : bs.drop (bs.length - r.l.length) = r.l := by
 obtain ⟨a, e⟩ := h.h
 rw [← e]
 simp
def rowS (l : List (Nat × MV)) (e k : Nat) : List (Nat × MV) → Prop
 | [] => True
 | p :: r => (lget l p.1 = p.2 ∨ (p.2 = .vec e k 0 0 ∧ (lget l p.1 = .nils ∨ lget l p.1 = .lst e [] true))) ∧ rowS l e k r
theorem rowS_all {l : List (Nat × MV)} {e k : Nat} : ∀ {l1 : List (Nat × MV)}, rowS l e k l1 → ∀ p, p ∈ l1 → lget l p.1 = p.2 ∨ (p.2 = .vec e k 0 0 ∧ (lget l p.1 = .nils ∨ lget l p.1 = .lst e [] true))
 | [], _, p, hp => absurd hp (List.not_mem_nil)
 | q :: r, h, p, hp => by
  rcases List.mem_cons.1 hp with rfl | hp
  ·exact h.1
  ·exact rowS_all h.2 p hp
theorem Gh.rowNew {n : Nat} {l : List (Nat × MV)} {d : List (FuncId × List MV)} {σ : St} {K : FR → St → Prop} (t : TypeId) (e : Nat) (l1 : Nat → List (Nat × MV)) (h1 : ∀ k, rowS l e k (l1 k))
  (h : ∀ k, σ k = none → Gh ⟨n, l1 k, d⟩ (σ.set k (.row t e [])) K) : Gh ⟨n, l, d⟩ σ K := Gh.row t e l1 (fun k => rowS_all (h1 k)) h
theorem MCalls.obj {P : Program} {g : FuncId} {ms : List MV} {σ : St} {X : MV} {l : Nat} {o : MObj} (h : MCalls P g ms σ fun v σ' => v = X ∧ σ' l = some o) : MCalls P g ms σ fun v σ' => v = X ∧ σ' = St.none.set l o :=
 h.less fun v σ' k => ⟨St.none.set l o, St.set_le (St.none_le _) k.2, k.1, rfl⟩
end Go.Proofs.YtjljgahfkcdhfaaGreatDoor
end
