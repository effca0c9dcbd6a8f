/- Parts of the proof, joined: each part says what it proves, and under which conditions. -/
import Derived.Test.YtfbodefnblpflaaGreatDoorMaf
import Derived.Test.YtfbodefnblpflaaGreatDoorRows
import Derived.Lib.LaidTab
import Derived.LaidLaws
import Derived.LaidHandle
import Derived.Stop.Joined
import Derived.LaidMore
import Derived.MakeChecks
section
/- What the arguments of the laws of messages hold. -/
set_option linter.unusedVariables false
set_option linter.unusedSimpArgs false
namespace Go.Proofs.YtfbodefnblpflaaGreatDoor
open Go.ChangeShapes Go.WideShapes Go.RowKit
set_option maxRecDepth 100000
/-- Cells by parts. -/
def segs (cs : List MV) : List (Nat × Nat) → List MV
  | [] => []
  | p :: r => (cs.drop p.1).take p.2 ++ segs cs r
def contig (o n : Nat) : List (Nat × Nat) → Bool
  | [] => o == n
  | p :: r => p.1 == o && contig (o + p.2) n r
theorem segs_all {cs : List MV} : ∀ (l : List (Nat × Nat)) (o : Nat), contig o cs.length l = true → segs cs l = cs.drop o
  | [], o, h => by
    simp only [contig, beq_iff_eq] at h
    rw [segs, h, List.drop_length]
  | p :: r, o, h => by
    simp only [contig, Bool.and_eq_true, beq_iff_eq] at h
    rw [segs, segs_all r _ h.2, h.1, ← List.drop_drop, List.take_append_drop]
theorem segs_eq {cs : List MV} {n : Nat} (hn : cs.length = n) (l : List (Nat × Nat)) (h : contig 0 n l = true) : cs = segs cs l := by
  have := segs_all (cs := cs) l 0 (by rw [hn]; exact h)
  rw [this, List.drop_zero]
theorem i64_in {v : Int} (h0 : IntKind.i64.min ≤ v) (h1 : v ≤ IntKind.i64.max) : In64 v := by
  have e0 : IntKind.i64.min = -9223372036854775808 := by decide
  have e1 : IntKind.i64.max = 9223372036854775807 := by decide
  rw [e0] at h0
  rw [e1] at h1
  exact ⟨h0, h1⟩
theorem oint {n : Nat} {x : List MV} (h : CT Tryz.prog (n + 1) 3 x) : ∃ v, x = [.int .i64 v] ∧ In64 v := by
  obtain ⟨v, h0, h1, h2⟩ := ct_int (by rw [td3]) h
  exact ⟨v, h0, i64_in h1 h2⟩
theorem oerr {n : Nat} {x : List MV} (h : CT Tryz.prog (n + 1) 35 x) : ∃ v, x = [.int .i64 v] := by
  obtain ⟨v, h0, h1, h2⟩ := ct_int (by rw [td35]) h
  exact ⟨v, h0⟩
theorem obool {n : Nat} {x : List MV} (h : CT Tryz.prog (n + 1) 4 x) : ∃ b, x = [.bool b] := ct_bool (by rw [td4]) h
theorem ou32 {n : Nat} {x : List MV} (h : CT Tryz.prog (n + 1) 22 x) : ∃ u : UInt32, x = [.int .u32 (u.toNat : Int)] := by
  obtain ⟨v, h0, h1, h2⟩ := ct_int (by rw [td22]) h
  have e0 : IntKind.u32.min = 0 := by decide
  have e1 : IntKind.u32.max = 4294967295 := by decide
  rw [e0] at h1
  rw [e1] at h2
  exact ⟨UInt32.ofNat v.toNat, by rw [h0, u32_toN h1 (by omega)]⟩
theorem oval {n : Nat} {x : List MV} (h : CT Tryz.prog (n + 2) 24 x) : ∃ a : VA, x = a.c := by
  obtain ⟨hl, hf⟩ := ct_struct (congrArg TD.k td24) h
  rw [td24] at hl
  obtain ⟨a, ha, _⟩ := oint (hf (0, 3) (by simp))
  obtain ⟨b, hb, _⟩ := oint (hf (1, 3) (by simp))
  obtain ⟨s, hs, _⟩ := ct_str (by rw [td9]) (hf (2, 9) (by simp))
  simp only [td3, td9] at ha hb hs
  refine ⟨⟨a, b, s⟩, ?_⟩
  rw [segs_eq hl [(0, 1), (1, 1), (2, 1)] rfl]
  simp only [segs, ha, hb, hs]
  rfl
theorem onode {n : Nat} {x : List MV} (h : CT Tryz.prog (n + 3) 115 x) : ∃ a : ND, x = a.c := by
  obtain ⟨hl, hf⟩ := ct_struct (congrArg TD.k td115) h
  rw [td115] at hl
  obtain ⟨a, ha, _⟩ := oint (hf (0, 3) (by simp))
  obtain ⟨b, hb, _⟩ := oint (hf (1, 3) (by simp))
  obtain ⟨v, hv⟩ := oval (hf (2, 24) (by simp))
  simp only [td3, td24] at ha hb hv
  refine ⟨⟨a, b, v⟩, ?_⟩
  rw [segs_eq hl [(0, 1), (1, 1), (2, 3)] rfl]
  simp only [segs, ha, hb, hv]
  rfl
theorem onodes {n : Nat} {x : List MV} (h : CT Tryz.prog (n + 4) 30 x) : ∃ l : List ND, x = [.lst 5 (l.map ND.c) false] := by
  obtain ⟨xs, hm, _, hx⟩ := ct_slice (by rw [td30]) h
  obtain ⟨l, rfl⟩ := lists_of fun x hx' => onode (hx x hx')
  rw [td115] at hm
  exact ⟨l, hm⟩
theorem ovals {n : Nat} {x : List MV} (h : CT Tryz.prog (n + 3) 25 x) : ∃ f : F8, x = fc f := by
  obtain ⟨hl, ha⟩ := ct_array (congrArg TD.k td25) h
  rw [td25] at hl
  rw [td24] at ha
  simp only at hl ha
  obtain ⟨a0, h0⟩ := oval (ha 0 (by decide))
  obtain ⟨a1, h1⟩ := oval (ha 1 (by decide))
  obtain ⟨a2, h2⟩ := oval (ha 2 (by decide))
  obtain ⟨a3, h3⟩ := oval (ha 3 (by decide))
  obtain ⟨a4, h4⟩ := oval (ha 4 (by decide))
  obtain ⟨a5, h5⟩ := oval (ha 5 (by decide))
  obtain ⟨a6, h6⟩ := oval (ha 6 (by decide))
  obtain ⟨a7, h7⟩ := oval (ha 7 (by decide))
  refine ⟨⟨[a0, a1, a2, a3, a4, a5, a6, a7], rfl⟩, ?_⟩
  rw [segs_eq hl [(0 * 3, 3), (1 * 3, 3), (2 * 3, 3), (3 * 3, 3), (4 * 3, 3), (5 * 3, 3), (6 * 3, 3), (7 * 3, 3)] rfl]
  simp only [segs, h0, h1, h2, h3, h4, h5, h6, h7]
  rfl
theorem opatch {n : Nat} {x : List MV} (h : CT Tryz.prog (n + 4) 27 x) : ∃ p : PA, x = p.c := by
  obtain ⟨hl, hf⟩ := ct_struct (congrArg TD.k td27) h
  rw [td27] at hl
  obtain ⟨a, ha⟩ := ou32 (hf (0, 22) (by simp))
  obtain ⟨b, hb⟩ := ou32 (hf (1, 22) (by simp))
  obtain ⟨f, hff⟩ := ovals (hf (2, 25) (by simp))
  simp only [td22, td25] at ha hb hff
  refine ⟨⟨a, b, f⟩, ?_⟩
  rw [segs_eq hl [(0, 1), (1, 1), (2, 24)] rfl]
  simp only [segs, ha, hb, hff, List.append_nil]
  rfl
theorem ocard {n : Nat} {x : List MV} (h : CT Tryz.prog (n + 4) 117 x) : ∃ c : CA, x = c.c := by
  obtain ⟨hl, hf⟩ := ct_struct (congrArg TD.k td117) h
  rw [td117] at hl
  obtain ⟨a, ha, _⟩ := oint (hf (0, 3) (by simp))
  obtain ⟨b, hb, _⟩ := oint (hf (1, 3) (by simp))
  obtain ⟨u, hu⟩ := ou32 (hf (2, 22) (by simp))
  obtain ⟨f, hff⟩ := ovals (hf (3, 25) (by simp))
  simp only [td3, td22, td25] at ha hb hu hff
  refine ⟨⟨a, b, u, f⟩, ?_⟩
  rw [segs_eq hl [(0, 1), (1, 1), (2, 1), (3, 24)] rfl]
  simp only [segs, ha, hb, hu, hff, List.append_nil]
  rfl
theorem oitem {n : Nat} {x : List MV} (h : CT Tryz.prog (n + 5) 119 x) : ∃ i : IT, x = .int .i64 i.kd :: .int .i64 i.c.id :: .int .i64 i.c.ver :: .int .u32 (i.c.lab.toNat : Int) :: fc i.c.f := by
  obtain ⟨hl, hf⟩ := ct_struct (congrArg TD.k td119) h
  rw [td119] at hl
  obtain ⟨a, ha, _⟩ := oint (hf (0, 3) (by simp))
  obtain ⟨c, hc⟩ := ocard (hf (1, 117) (by simp))
  simp only [td3, td117] at ha hc
  refine ⟨⟨a, c⟩, ?_⟩
  rw [segs_eq hl [(0, 1), (1, 27)] rfl]
  simp only [segs, ha, hc, List.append_nil]
  rfl
theorem oitems {n : Nat} {x : List MV} (h : CT Tryz.prog (n + 6) 38 x) : ∃ l : List IT, x = [.lst 28 (IT.ks l) false] := by
  obtain ⟨xs, hm, _, hx⟩ := ct_slice (by rw [td38]) h
  obtain ⟨l, rfl⟩ := lists_of fun x hx' => oitem (hx x hx')
  rw [td119] at hm
  exact ⟨l, hm⟩
theorem otok {n : Nat} {x : List MV} (h : CT Tryz.prog (n + 2) 34 x) : ∃ t : TO, x = t.c := by
  obtain ⟨hl, hf⟩ := ct_struct (congrArg TD.k td34) h
  rw [td34] at hl
  obtain ⟨a, ha, _⟩ := oint (hf (0, 3) (by simp))
  obtain ⟨b, hb, _⟩ := oint (hf (1, 3) (by simp))
  obtain ⟨c, hc, _⟩ := oint (hf (2, 3) (by simp))
  obtain ⟨d, hd, _⟩ := oint (hf (3, 3) (by simp))
  simp only [td3] at ha hb hc hd
  refine ⟨⟨a, b, c, d⟩, ?_⟩
  rw [segs_eq hl [(0, 1), (1, 1), (2, 1), (3, 1)] rfl]
  simp only [segs, ha, hb, hc, hd]
  rfl
theorem oedit {n : Nat} {x : List MV} (h : CT Tryz.prog (n + 5) 29 x) : ∃ e : ED, x = e.c := by
  obtain ⟨hl, hf⟩ := ct_struct (congrArg TD.k td29) h
  rw [td29] at hl
  obtain ⟨a, ha, _⟩ := oint (hf (0, 3) (by simp))
  obtain ⟨b, hb, _⟩ := oint (hf (1, 3) (by simp))
  obtain ⟨c, hc, _⟩ := oint (hf (2, 3) (by simp))
  obtain ⟨p, hp⟩ := opatch (hf (3, 27) (by simp))
  simp only [td3, td27] at ha hb hc hp
  refine ⟨⟨a, b, c, p⟩, ?_⟩
  rw [segs_eq hl [(0, 1), (1, 1), (2, 1), (3, 26)] rfl]
  simp only [segs, ha, hb, hc, hp, List.append_nil]
  rfl
theorem oreply {n : Nat} {x : List MV} (h : CT Tryz.prog (n + 5) 37 x) : ∃ a : RE, x = a.c := by
  obtain ⟨hl, hf⟩ := ct_struct (congrArg TD.k td37) h
  rw [td37] at hl
  obtain ⟨a, ha, _⟩ := oint (hf (0, 3) (by simp))
  obtain ⟨b, hb, _⟩ := oint (hf (1, 3) (by simp))
  obtain ⟨c, hc, _⟩ := oint (hf (2, 3) (by simp))
  obtain ⟨d, hd⟩ := oerr (hf (3, 35) (by simp))
  obtain ⟨e, he, _⟩ := oint (hf (4, 3) (by simp))
  obtain ⟨f, hff, _⟩ := oint (hf (5, 3) (by simp))
  obtain ⟨g, hg, _⟩ := oint (hf (6, 3) (by simp))
  obtain ⟨i, hi, _⟩ := oint (hf (7, 3) (by simp))
  obtain ⟨l, hll⟩ := onodes (hf (8, 30) (by simp))
  obtain ⟨u, hu⟩ := ou32 (hf (9, 22) (by simp))
  simp only [td3, td35, td30, td22] at ha hb hc hd he hff hg hi hll hu
  refine ⟨⟨a, b, c, d, e, f, g, i, l, u⟩, ?_⟩
  rw [segs_eq hl [(0, 1), (1, 1), (2, 1), (3, 1), (4, 1), (5, 1), (6, 1), (7, 1), (8, 1), (9, 1)] rfl]
  simp only [segs, ha, hb, hc, hd, he, hff, hg, hi, hll, hu]
  rfl
theorem opage {n : Nat} {x : List MV} (h : CT Tryz.prog (n + 7) 40 x) : ∃ p : PG, x = p.c := by
  obtain ⟨hl, hf⟩ := ct_struct (congrArg TD.k td40) h
  rw [td40] at hl
  obtain ⟨a, ha⟩ := oerr (hf (0, 35) (by simp))
  obtain ⟨b, hb⟩ := obool (hf (1, 4) (by simp))
  obtain ⟨c, hc⟩ := otok (hf (2, 34) (by simp))
  obtain ⟨d, hd⟩ := otok (hf (6, 34) (by simp))
  obtain ⟨l, hll⟩ := oitems (hf (10, 38) (by simp))
  simp only [td35, td4, td34, td38] at ha hb hc hd hll
  refine ⟨⟨a, b, c, d, l⟩, ?_⟩
  rw [segs_eq hl [(0, 1), (1, 1), (2, 4), (6, 4), (10, 1)] rfl]
  simp only [segs, ha, hb, hc, hd, hll]
  rfl
theorem ocmd {n : Nat} {x : List MV} (h : CT Tryz.prog (n + 6) 32 x) : ∃ c : CM, x = c.c ∧ Rg c := by
  obtain ⟨hl, hf⟩ := ct_struct (congrArg TD.k td32) h
  rw [td32] at hl
  obtain ⟨a, ha, _⟩ := oint (hf (0, 3) (by simp))
  obtain ⟨e, he⟩ := oedit (hf (1, 29) (by simp))
  obtain ⟨b, hb, ib⟩ := oint (hf (30, 3) (by simp))
  obtain ⟨c, hc, ic⟩ := oint (hf (31, 3) (by simp))
  obtain ⟨d, hd, id⟩ := oint (hf (32, 3) (by simp))
  obtain ⟨f, hff, if'⟩ := oint (hf (33, 3) (by simp))
  obtain ⟨g, hg, ig⟩ := oint (hf (34, 3) (by simp))
  obtain ⟨p, hp⟩ := opatch (hf (35, 27) (by simp))
  obtain ⟨l, hll⟩ := onodes (hf (61, 30) (by simp))
  obtain ⟨u, hu⟩ := ou32 (hf (62, 22) (by simp))
  simp only [td3, td29, td27, td30, td22] at ha he hb hc hd hff hg hp hll hu
  refine ⟨⟨a, e, b, c, d, f, g, p, l, u⟩, ?_, ib, ic, id, if', ig⟩
  rw [segs_eq hl [(0, 1), (1, 29), (30, 1), (31, 1), (32, 1), (33, 1), (34, 1), (35, 26), (61, 1), (62, 1)] rfl]
  simp only [segs, ha, he, hb, hc, hd, hff, hg, hp, hll, hu, CM.c, CM.k]
  simp only [ED.c, PA.c, List.cons_append, List.nil_append, List.append_assoc, List.append_nil]
theorem omsg {n : Nat} {x : List MV} (h : CT Tryz.prog (n + 8) 42 x) : ∃ m : MS, x = m.c ∧ Rg m.cmd := by
  obtain ⟨hl, hf⟩ := ct_struct (congrArg TD.k td42) h
  rw [td42] at hl
  obtain ⟨a, ha, _⟩ := oint (hf (0, 3) (by simp))
  obtain ⟨b, hb, _⟩ := oint (hf (1, 3) (by simp))
  obtain ⟨c, hc, hr⟩ := ocmd (hf (2, 32) (by simp))
  obtain ⟨t, ht⟩ := otok (hf (65, 34) (by simp))
  obtain ⟨r, hrr⟩ := oreply (hf (69, 37) (by simp))
  obtain ⟨p, hp⟩ := opage (hf (79, 40) (by simp))
  obtain ⟨e, he⟩ := oerr (hf (90, 35) (by simp))
  simp only [td3, td32, td34, td37, td40, td35] at ha hb hc ht hrr hp he
  refine ⟨⟨a, b, c, t, r, p, e⟩, ?_, hr⟩
  rw [segs_eq hl [(0, 1), (1, 1), (2, 63), (65, 4), (69, 10), (79, 11), (90, 1)] rfl]
  simp only [segs, ha, hb, hc, ht, hrr, hp, he, MS.c, MS.k, CM.c, CM.k, RE.c, PG.c]
  simp only [List.cons_append, List.nil_append, List.append_assoc, List.append_nil]
theorem amsg {m : MV} (h : AT Tryz.prog 8 42 m) : ∃ x : MS, m = .agg x.c ∧ Rg x.cmd := by
  obtain ⟨cs, rfl, h1⟩ := at_agg (by rw [td42]; rfl) h
  obtain ⟨x, rfl, hr⟩ := omsg (n := 0) h1
  exact ⟨x, rfl, hr⟩
theorem own_ : ownKnob Tryz.prog.godebug = none := by kernel_rfl
end Go.Proofs.YtfbodefnblpflaaGreatDoor
end

section
/- A law whose row lists a table of numbers is lifted. -/
set_option linter.unusedVariables false
set_option linter.unusedSimpArgs false
namespace Go.Proofs.YtfbodefnblpflaaGreatDoor
open Go.ChangeShapes Go.WideShapes Go.RowKit
section
variable {H : Type} {enc : TypeId × Value → H}
/-- A law is lifted, its row's variables laid. -/
theorem law_lift_laid {C : Checked} {os : Os} {g : FuncId} {fn : Func} {s : ChangeSpec} {conds : List PathCond} {apart fresh handsOn again : Bool} {tb : TypeId} {n : Nat} {laid : List (String × DataW Unit)}
    (hvars : s.vars = []) (hs : ∀ (H : Type) (ds : List (DataW H)), ds.length = fn.params.size → s.fn H ds = { results := [.lit (.bool true)], args := ds })
    (hres : fn.resultTypes = #[tb]) (htb : C.prog.underlying tb = some .bool) (hl : laidOutB C.prog = true) (hr : ∀ t, t ∈ fn.params.toList → C.prog.readableRec t = true ∧ t < C.prog.types.size)
    (hshp : ∀ t, t ∈ fn.params.toList → shp C.prog n t = true) (hG : ∀ W, laidMetH C.prog laid W → GTok W)
    (own : ownKnob C.prog.godebug = none) (started : os.Started) (noInit : C.prog.inits.idxOf? g = none) (hfn : C.prog.funcs[g]? = some fn)
    (witness : ∃ (w : World) (tape : Tape) (i : Input), w.os = os ∧ (w.forCall tape i).Shaped C.prog ∧ i.vars = [] ∧ Input.okWide C.prog (w.forCall tape i) .any w.heap.size g i ∧
      ((s.pre enc C.prog fn conds apart (w.forCall tape i).memory i.args ∧ laidMetH C.prog laid (w.forCall tape i).memory) ∧ sizedMet enc C.prog fn (OpenSpec.ofChange s) apart (w.forCall tape i).memory i.args) ∧ ({} : Assume).holds C.prog (lone (Frame.enter C.prog g i.args .normal) [] (w.forCall tape i)))
    (h : ∀ ms, ATs C.prog n fn.params.toList ms → MCalls C.prog g ms St.none fun r _ => r = .bool true) :
    ReturnsInHanded {} C os g .any (fun w args => (s.pre enc C.prog fn conds apart w args ∧ laidMetH C.prog laid w) ∧ sizedMet enc C.prog fn (OpenSpec.ofChange s) apart w args) (s.post enc C.prog fn apart fresh handsOn again) := by
  refine returnsInHanded_of_change_and (X := fun w _ => laidMetH C.prog laid w) (fun _ _ _ hh h => h.of_heap hh) own started noInit hfn witness ?_
  intro W base args ds gs before hval hW _ _ hX _
  obtain ⟨p, q, hA, _⟩ := id hW
  obtain ⟨ms, e, hrel, hat⟩ := args_open (n := n) (base := base) hshp (fun j t v p q => hval j t v (by simpa using p) (by simpa using q)) hA
  have hrels : Rels (phi0 W) args ms := ⟨by simpa using e, fun i m hm => by
    have hi : i < args.size := by
      have := (List.getElem?_eq_some_iff.1 hm).1
      simp at e; omega
    exact hrel i _ m (by simp [Array.getD, hi]) hm⟩
  refine ((h ms hat).2 (phi0 W) W args (inv0 W (hG W hX)) hrels).mono fun e' W' ⟨v, mv, σ', Φ', he, hv, hi, hst, hq⟩ => ?_
  subst hq
  cases hv
  refine ⟨_, he, law_post hvars hs hres htb hl hr hW hst.os hst.output fun k hk => hst.block k hk ?_⟩
  rintro ⟨l, o, p, h1, _⟩
  simp [St.none] at h1
end
end Go.Proofs.YtfbodefnblpflaaGreatDoor
end

section
/- What the rows of messages list, and what it gives the walks: no condition. -/
set_option linter.unusedVariables false
set_option linter.unusedSimpArgs false
namespace Go.Proofs.YtfbodefnblpflaaGreatDoor
open Go.ChangeShapes Go.WideShapes Go.RowKit
set_option maxRecDepth 100000
abbrev laidT : List (String × DataW Unit) := [("math/bits.deBruijn32tab", Rows.laid_math_bits_deBruijn32tab)]
theorem gTab : Tryz.prog.globalNamed "math/bits.deBruijn32tab" = some 0 := by kernel_rfl
theorem tTab : (Tryz.prog.globals[0]?).map (·.type) = some 211 := by kernel_rfl
theorem uTab : Tryz.prog.underlying 211 = some (.array 32 5) := by kernel_rfl
theorem uU8 : Tryz.prog.underlying 5 = some (.int .u8) := by kernel_rfl
theorem cU8 : Tryz.prog.cellsOf 5 = 1 := by kernel_rfl
theorem cTab : Tryz.prog.cellsOf 211 = 32 := by kernel_rfl
theorem gt_of_laid : ∀ W, laidMetH Tryz.prog laidT W → GTok W := fun W h => by
  rw [MakeChecks.laidMetH_plain _ _ _ (by kernel_rfl)] at h
  have ht : Go.Lib.TabIs Tryz.prog W "math/bits.deBruijn32tab" .u8 dbT := Go.Lib.tabIs_of_head gTab tTab uTab uU8 cU8 cTab h
  intro g i v hv
  by_cases hg : g = 0
  · subst hg
    rw [GT_tz, Option.map_eq_some_iff] at hv
    obtain ⟨n, hn, rfl⟩ := hv
    have hi := (List.getElem?_eq_some_iff.1 hn).1
    rw [ht.cell gTab i hi]
    simp [List.getD, hn]
  · unfold GT at hv
    rw [if_neg hg] at hv
    cases hv
theorem door_met (os : Os) (args : Array Value) : laidMetH Tryz.prog laidT ((World.doorLaid Tryz.prog 40 os).forCall (fun _ _ => 0) ⟨#[], args, []⟩).memory :=
  laidMetH_of_parts3 (fuel := 8) (laidMet_of_run' 8 (by kernel_rfl) (by kernel_rfl)) (by kernel_rfl) (by kernel_rfl)
end Go.Proofs.YtfbodefnblpflaaGreatDoor
end
