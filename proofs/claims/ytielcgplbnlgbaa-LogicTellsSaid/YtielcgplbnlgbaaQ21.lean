/- What the arguments of the laws hold. -/
import Derived.Test.YtielcgplbnlgbaaP2
import Derived.Test.YtielcgplbnlgbaaTy
import Derived.Test.YtielcgplbnlgbaaMl22
import Derived.Test.YtielcgplbnlgbaaRows
set_option linter.unusedVariables false
set_option linter.unusedSimpArgs false
namespace Go.Proofs.Ytielcgplbnlgbaa
open Go.ChangeShapes Go.WideShapes Go.RowKit
set_option maxRecDepth 100000

theorem va_open {n : Nat} {x : List MV} (h : CT Try.prog (n + 2) 32 x) : ∃ a : VA, x = a.c := by
  obtain ⟨hl, hf⟩ := ct_struct (congrArg TD.k td32) h
  rw [td32] at hl
  match x, hl with
  | [a, b, c], _ =>
    obtain ⟨v0, h0, _⟩ := ct_int (by rw [td3]) (hf (0, 3) (by simp))
    obtain ⟨v1, h1, _⟩ := ct_int (by rw [td3]) (hf (1, 3) (by simp))
    obtain ⟨v2, h2, _⟩ := ct_str (by rw [td9]) (hf (2, 9) (by simp))
    simp only [td3, td9, List.drop_zero, List.drop_succ_cons, List.take_succ_cons, List.take_zero, List.cons.injEq, and_true] at h0 h1 h2
    subst h0 h1 h2
    exact ⟨⟨v0, v1, v2⟩, rfl⟩

theorem nd_open {n : Nat} {x : List MV} (h : CT Try.prog (n + 3) 49 x) : ∃ a : ND, x = a.c := by
  obtain ⟨hl, hf⟩ := ct_struct (congrArg TD.k td49) h
  rw [td49] at hl
  match x, hl with
  | [a, b, c, d, e], _ =>
    obtain ⟨v0, h0, _⟩ := ct_int (by rw [td3]) (hf (0, 3) (by simp))
    obtain ⟨v1, h1, _⟩ := ct_int (by rw [td3]) (hf (1, 3) (by simp))
    obtain ⟨p, h2⟩ := va_open (hf (2, 32) (by simp))
    simp only [td3, td32, List.drop_zero, List.drop_succ_cons, List.take_succ_cons, List.take_zero, List.cons.injEq, and_true, VA.c] at h0 h1 h2
    obtain ⟨rfl, rfl, rfl⟩ := h2
    subst h0 h1
    exact ⟨⟨v0, v1, p⟩, rfl⟩

theorem nds_open {m : MV} (h : AT Try.prog 6 22 m) : ∃ l : List ND, m = .lst 5 (l.map ND.c) false := by
  obtain ⟨xs, hm, _, hx⟩ := ct_slice (by rw [td22]) (at_cell (by rw [td22]; rfl) h)
  obtain ⟨l, rfl⟩ := lists_of fun x hx' => nd_open (hx x hx')
  rw [td49] at hm
  exact ⟨l, cell_eq hm⟩

theorem nodes2_open {ms : List MV} (h : ATs Try.prog 6 [22, 22] ms) : ∃ a b : List ND, ms = [.lst 5 (a.map ND.c) false, .lst 5 (b.map ND.c) false] := by
  match ms, h with
  | [m, m2], ⟨h, h2, _⟩ =>
    obtain ⟨a, rfl⟩ := nds_open h
    obtain ⟨b, rfl⟩ := nds_open h2
    exact ⟨a, b, rfl⟩

theorem nodes2on_open {ms : List MV} (h : ATs Try.prog 6 [22, 22, 30] ms) : ∃ (a b : List ND) (on : Nat), on < 4294967296 ∧ ms = [.lst 5 (a.map ND.c) false, .lst 5 (b.map ND.c) false, .int .u32 (on : Int)] := by
  match ms, h with
  | [m, m2, m3], ⟨h, h2, h3, _⟩ =>
    obtain ⟨a, rfl⟩ := nds_open h
    obtain ⟨b, rfl⟩ := nds_open h2
    obtain ⟨v, hv, h0, h1⟩ := ct_int (by rw [td30]) (at_cell (by rw [td30]; rfl) h3)
    have e0 : IntKind.u32.min = 0 := by decide
    have e1 : IntKind.u32.max = 4294967295 := by decide
    rw [e0] at h0
    rw [e1] at h1
    refine ⟨a, b, v.toNat, by omega, ?_⟩
    rw [cell_eq hv, Int.toNat_of_nonneg h0]

theorem own_ : ownKnob Try.prog.godebug = none := by kernel_rfl
end Go.Proofs.Ytielcgplbnlgbaa
