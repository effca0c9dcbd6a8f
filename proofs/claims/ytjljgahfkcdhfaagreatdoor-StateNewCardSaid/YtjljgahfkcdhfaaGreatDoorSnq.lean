/- Parts of the proof, joined. Each part says what it proves, and under which conditions it does: those that its theorems name. -/
import Derived.Test.YtjljgahfkcdhfaaGreatDoorSnp
set_option linter.unusedVariables false
set_option linter.unusedSimpArgs false
set_option maxHeartbeats 4000000
section
namespace Go.Proofs.YtjljgahfkcdhfaaGreatDoor
abbrev RE.c (a : RE) : List MV := a.k (.lst 5 (a.fl.map ND.c) false)
abbrev IT.ks (l : List IT) : List (List MV) := l.map fun x => .int .i64 x.kd :: .int .i64 x.c.id :: .int .i64 x.c.ver :: .int .u32 (x.c.lab.toNat : Int) :: fc x.c.f
abbrev PG.c (p : PG) : List MV := p.k (.lst 28 (IT.ks p.items) false)
abbrev CM.c (c : CM) : List MV := c.k (.lst 5 (c.fl.map ND.c) false)
def Views (σ : St) : List MV → List MV → Prop
 | [], [] => True
 | m :: ms, m' :: ms' => View σ m m' ∧ Views σ ms ms'
 | _, _ => False
theorem Views.same {σ : St} : ∀ ms : List MV, Views σ ms ms
 | [] => trivial
 | m :: ms => ⟨.same m, Views.same ms⟩
theorem Views.app {σ : St} : ∀ {a b c d : List MV}, Views σ a b → Views σ c d → Views σ (a ++ c) (b ++ d)
 | [], [], _, _, _, h => h
 | _ :: _, _ :: _, _, _, h, k => ⟨h.1, Views.app h.2 k⟩
theorem Views.len {σ : St} : ∀ {a b : List MV}, Views σ a b → a.length = b.length
 | [], [], _ => rfl
 | _ :: _, _ :: _, h => congrArg (· + 1) (Views.len h.2)
theorem Views.at {σ : St} : ∀ {a b : List MV}, Views σ a b → ∀ (i : Nat) (m m' : MV), a[i]? = some m → b[i]? = some m' → View σ m m'
 | _ :: _, _ :: _, h, 0, m, m', h1, h2 => by simp at h1 h2; subst h1 h2; exact h.1
 | _ :: _, _ :: _, h, i + 1, m, m', h1, h2 => by simp at h1 h2; exact h.2.at i m m' h1 h2
theorem View.aggL {σ : St} {ms ms' : List MV} (h : Views σ ms ms') (hc : ms'.all MV.isCell = true) : View σ (.agg ms) (.agg ms') :=
 .agg h.len (fun i m hm => List.all_eq_true.1 hc m (List.mem_of_getElem? hm)) h.at
theorem View.nils {σ : St} {e : Nat} {xs : List (List MV)} (h : xs = []) : View σ .nils (.lst e xs false) := by subst h; exact .nil e false
theorem fc_all {f : F8} {r : List MV} : (fc f ++ r).all MV.isCell = r.all MV.isCell := by rw [List.all_append, fc_cell, Bool.true_and]
theorem fc_assoc {f : F8} {a b : List MV} : (fc f ++ a) ++ b = fc f ++ (a ++ b) := List.append_assoc _ _ _
theorem u32z : ((UInt32.toNat 0 : Nat) : Int) = 0 := rfl
theorem RE.cell (a : RE) : a.c.all MV.isCell = true := rfl
theorem PG.cell (a : PG) : a.c.all MV.isCell = true := rfl
theorem CM.cell (c : CM) : c.c.all MV.isCell = true := by
 simp only [CM.c, CM.k, List.all_cons, List.all_append, fc_cell]; rfl
end Go.Proofs.YtjljgahfkcdhfaaGreatDoor
end

section
namespace Go.Proofs.YtjljgahfkcdhfaaGreatDoor
def val : BL → Nat
 | [] => 0
 | c :: l => c.toNat % 128 + 128 * val l
end Go.Proofs.YtjljgahfkcdhfaaGreatDoor
end
