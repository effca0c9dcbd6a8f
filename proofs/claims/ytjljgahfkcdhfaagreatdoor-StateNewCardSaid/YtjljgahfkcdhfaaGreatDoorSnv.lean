/- Parts of the proof, joined. Each part says what it proves, and under which conditions it does: those that its theorems name. -/
import Derived.Test.YtjljgahfkcdhfaaGreatDoorSnt
set_option linter.unusedVariables false
set_option linter.unusedSimpArgs false
set_option maxHeartbeats 4000000
section
namespace Go.Proofs.YtjljgahfkcdhfaaGreatDoor
set_option maxRecDepth 100000
theorem le2 {σ : St} {l k : Nat} {o o' : MObj} (h1 : σ l = some o) (h2 : σ k = some o') : ((St.none.set l o).set k o').le σ := St.set_le (St.set_le (St.none_le _) h1) h2
theorem tk_app {α : Type} {f : α → List MV} {l : List α} {ex : List (List MV)} : (l.map f ++ ex).take l.length = l.map f := by rw [List.take_append_of_le_length (by simp), List.take_of_length_le (by simp)]
theorem dr_app {α : Type} {f : α → List MV} {l : List α} {ex : List (List MV)} : (l.map f ++ ex).drop (l.length + 1) = ex.drop 1 := by
 rw [List.drop_append, List.drop_eq_nil_of_le (by simp), List.nil_append]; congr 1; simp
theorem ite_imp {c P Q : Prop} [Decidable c] : (if c then P else Q) ↔ (c → P) ∧ (¬ c → Q) := by split <;> simp [*]
theorem Views.fc {σ : St} {f : F8} {a b : List MV} (h : Views σ a b) : Views σ (fc f ++ a) (fc f ++ b) := Views.app (Views.same _) h
abbrev MS.c (m : MS) : List MV := m.k (.lst 5 (m.cmd.fl.map ND.c) false) (.lst 5 (m.rep.fl.map ND.c) false) (.lst 28 (IT.ks m.page.items) false)
theorem MS.cell (m : MS) : m.c.all MV.isCell = true := by
 simp only [MS.c, MS.k, List.all_cons, fc_all]; rfl
structure Sm (m : MS) : Prop where
 f : m.cmd.fl.length ≤ 1000000
 g : m.rep.fl.length ≤ 1000000
 i : m.page.items.length ≤ 1000000
end Go.Proofs.YtjljgahfkcdhfaaGreatDoor
end

section
namespace Go.Proofs.YtjljgahfkcdhfaaGreatDoor
set_option maxRecDepth 100000
theorem Sfx.get {bs : BL} {r : RD} (h : Sfx bs r) {i : Nat} (hi : i < r.l.length) : bs.getD (bs.length - r.l.length + i) 0 = r.l.getD i 0 := by
 have := h.drop
 rw [← this, List.getD_eq_getElem?_getD, List.getD_eq_getElem?_getD, List.getElem?_drop, this]
end Go.Proofs.YtjljgahfkcdhfaaGreatDoor
end
