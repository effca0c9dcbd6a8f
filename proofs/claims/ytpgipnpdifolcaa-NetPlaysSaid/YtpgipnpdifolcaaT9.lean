/- What the arguments of the laws of the net hold. -/
import Derived.Test.YtpgipnpdifolcaaT2
import Derived.Test.YtpgipnpdifolcaaMl22
import Derived.Test.YtpgipnpdifolcaaRows
set_option linter.unusedVariables false
set_option linter.unusedSimpArgs false
namespace Go.Proofs.Ytpgipnpdifolcaa
open Go.ChangeShapes Go.WideShapes Go.RowKit

theorem pk_open {n : Nat} {x : List MV} (h : CT Try.prog (n + 2) 29 x) : ∃ a : PK, x = a.c := by
  obtain ⟨hl, hf⟩ := ct_struct (by rw [td29]) h
  rw [td29] at hl
  match x, hl with
  | [a, b, c], _ =>
    obtain ⟨v0, h0, _⟩ := ct_int (by rw [td3]) (hf (0, 3) (by simp))
    obtain ⟨v1, h1, _⟩ := ct_int (by rw [td3]) (hf (1, 3) (by simp))
    obtain ⟨v2, h2, _⟩ := ct_str (by rw [td9]) (hf (2, 9) (by simp))
    simp only [td3, td9, List.drop_zero, List.drop_succ_cons, List.take_succ_cons, List.take_zero, List.cons.injEq, and_true] at h0 h1 h2
    subst h0 h1 h2
    exact ⟨⟨v0, v1, v2⟩, rfl⟩

theorem ac_open {n : Nat} {x : List MV} (h : CT Try.prog (n + 3) 31 x) : ∃ a : AC, x = a.c := by
  obtain ⟨hl, hf⟩ := ct_struct (by rw [td31]) h
  rw [td31] at hl
  match x, hl with
  | [a, b, c, d, e], _ =>
    obtain ⟨v0, h0, _⟩ := ct_int (by rw [td3]) (hf (0, 3) (by simp))
    obtain ⟨v1, h1, _⟩ := ct_int (by rw [td3]) (hf (1, 3) (by simp))
    obtain ⟨p, h2⟩ := pk_open (hf (2, 29) (by simp))
    simp only [td3, td29, List.drop_zero, List.drop_succ_cons, List.take_succ_cons, List.take_zero, List.cons.injEq, and_true, PK.c] at h0 h1 h2
    obtain ⟨rfl, rfl, rfl⟩ := h2
    subst h0 h1
    exact ⟨⟨v0, v1, p⟩, rfl⟩

theorem acts_open {ms : List MV} (h : ATs Try.prog 6 [22] ms) : ∃ l : List AC, ms = [.lst 5 (l.map AC.c) false] := by
  match ms, h with
  | [m], ⟨h, _⟩ =>
    obtain ⟨xs, hm, _, hx⟩ := ct_slice (by rw [td22]) (at_cell (by rw [td22]; rfl) h)
    obtain ⟨l, rfl⟩ := lists_of fun x hx' => ac_open (hx x hx')
    rw [td31] at hm
    exact ⟨l, hm⟩

theorem own_ : ownKnob Try.prog.godebug = none := by kernel_rfl
end Go.Proofs.Ytpgipnpdifolcaa
