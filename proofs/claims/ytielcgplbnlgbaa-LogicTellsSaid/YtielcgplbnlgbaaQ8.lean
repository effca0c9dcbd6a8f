/- Contract of slices.SortFunc at nodes: the conditions that the theorem names. -/
import Derived.Test.YtielcgplbnlgbaaQ5
import Derived.Test.YtielcgplbnlgbaaP3
import Derived.Test.YtielcgplbnlgbaaMl23
import Derived.Test.YtielcgplbnlgbaaLy
set_option linter.unusedVariables false
set_option linter.unusedSimpArgs false
namespace Go.Proofs.Ytielcgplbnlgbaa
open Go.Shelf Go.Sort

def ND.v0 (x : ND) : List Value := [.int .i64 x.op, .int .i64 x.n, .int .i64 x.v.kd, .int .i64 x.v.n, .string x.v.s]
instance : Inhabited ND := ⟨nd0⟩

theorem nd_plain : PlainC ND.c ND.v0 := fun x => ⟨rfl, fun j m h => by
  match j, h with
  | 0, h => simp at h; subst h; exact ⟨rfl, fun Φ v => ⟨fun r => r.inv_int, fun e => e ▸ .int _ _⟩⟩
  | 1, h => simp at h; subst h; exact ⟨rfl, fun Φ v => ⟨fun r => r.inv_int, fun e => e ▸ .int _ _⟩⟩
  | 2, h => simp at h; subst h; exact ⟨rfl, fun Φ v => ⟨fun r => r.inv_int, fun e => e ▸ .int _ _⟩⟩
  | 3, h => simp at h; subst h; exact ⟨rfl, fun Φ v => ⟨fun r => r.inv_int, fun e => e ▸ .int _ _⟩⟩
  | 4, h => simp at h; subst h; exact ⟨rfl, fun Φ v => ⟨fun r => r.inv_str, fun e => e ▸ .str _⟩⟩⟩

theorem nd_lt (x y : ND) : ltOf (fun x y : ND => ordI (cmpL x.key y.key)) x y = decide (lessK x.key y.key) := by
  have e : (ordI (cmpL x.key y.key) < 0) ↔ lessK x.key y.key := by
    unfold lessK
    cases cmpL x.key y.key <;> simp [ordI]
  unfold ltOf
  simp only [e]

theorem nd_swo : SWO (ltOf fun x y : ND => ordI (cmpL x.key y.key)) where
  irrefl x := by rw [nd_lt]; simp [lessK_irrefl]
  trans x y z h1 h2 := by rw [nd_lt] at *; simp only [decide_eq_true_eq] at *; exact lessK_trans h1 h2
  ntrans x y z h1 h2 := by
    rw [nd_lt] at *
    simp only [decide_eq_false_iff_not] at *
    intro h3
    by_cases e : y.key = z.key
    · rw [e] at h1; exact h1 h3
    · exact h1 (lessK_trans h3 (lessK_total h2 e))

theorem sort_pos (l : Nat) (xs : List ND) (hx : xs.length ≤ 1000000) (h0 : 0 < xs.length) (ex : List (List MV)) : MCalls Try.prog 43 [.vec 5 l 0 xs.length, .fn (.func 44) [] []] (St.none.set l (.row 49 5 (xs.map ND.c ++ ex)))
    (fun r σ' => r = .tup [] ∧ ∃ ys : List ND, ys.Perm xs ∧ Sorted ys ∧ σ' = St.none.set l (.row 49 5 (ys.map ND.c ++ ex))) :=
  (sort_any (P := Try.prog) (ρ := lay_sortN_ren) lay_sortN 5 (by omega) Try.isAgg49 Try.sizeOf49 ND.c ND.v0 (fun _ => rfl) nd_plain (fun x v hv => by simp [ND.v0] at hv; rcases hv with rfl | rfl | rfl | rfl | rfl <;> rfl) (fun x y => ordI (cmpL x.key y.key)) nd_swo 44
    lorder_call (enters_of Try.func44 (by kernel_rfl) rfl) ⟨_, Try.func43, rfl, by kernel_rfl⟩ l 49 xs ex h0 (by omega)).mono fun r σ' ⟨h1, ys, h2, h3, h4⟩ => ⟨h1, ys, h2, List.pairwise_iff_getElem.2 fun i j hi hj hij => by
      have h := List.pairwise_iff_getElem.1 h3 i j hi hj hij
      rw [nd_lt] at h
      simpa using h, h4⟩
end Go.Proofs.Ytielcgplbnlgbaa
