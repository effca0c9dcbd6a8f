/- That the operations which neither read nor write memory give what the logic says. -/
import Derived.Test.YtielcgplbnlgbaaMl3
set_option linter.unusedVariables false
set_option linter.unusedSimpArgs false
namespace Go.Proofs.Ytielcgplbnlgbaa
section
variable {P : Program} {Φ : Phi}

theorem intBin_sound {op : BinOp} {k : IntKind} {a b : Int} {C : Prop} {mv : MV} (h : intBin op k a b = some (C, mv)) (hC : C) (t : TypeId) :
    ∃ v, (∀ w, (binOp op t (.int k a) (.int k b)).run P w = .ok v w) ∧ Rel Φ v mv := by
  cases op <;> simp only [intBin, Option.some.injEq, Prod.mk.injEq, reduceCtorEq] at h <;> obtain ⟨rfl, rfl⟩ := h
  case quo => exact ⟨_, fun w => by simp only [binOp, ne_eq, not_true_eq_false, if_false, Op.intDiv, if_neg hC, Sem.run_pure], .int _ _⟩
  case rem => exact ⟨_, fun w => by simp only [binOp, ne_eq, not_true_eq_false, if_false, Op.intDiv, if_neg hC, Sem.run_pure], .int _ _⟩
  all_goals refine ⟨_, fun w => by simp only [binOp, ne_eq, not_true_eq_false, if_false, Op.intArith, Op.intBits, Op.intCmp, Sem.run_pure]; rfl, ?_⟩
  all_goals first | exact .int _ _ | exact .bool _

theorem intShift_sound {op : BinOp} {k k' : IntKind} {a b : Int} {C : Prop} {mv : MV} (h : intShift op k a b = some (C, mv)) (hC : C) (t : TypeId) :
    ∃ v, (∀ w, (binOp op t (.int k a) (.int k' b)).run P w = .ok v w) ∧ Rel Φ v mv := by
  cases op <;> simp only [intShift, Option.some.injEq, Prod.mk.injEq, reduceCtorEq] at h <;> obtain ⟨rfl, rfl⟩ := h <;>
    exact ⟨_, fun w => by simp [binOp, Op.shift, show ¬ b < 0 by omega], .int _ _⟩

theorem strBin_sound {op : BinOp} {x y : ByteArray} {C : Prop} {mv : MV} (h : strBin op x y = some (C, mv)) (hC : C) (t : TypeId) :
    ∃ v, (∀ w, (binOp op t (.string x) (.string y)).run P w = .ok v w) ∧ Rel Φ v mv := by
  cases op <;> simp only [strBin, Option.some.injEq, Prod.mk.injEq, reduceCtorEq] at h <;> obtain ⟨rfl, rfl⟩ := h <;>
    first
    | exact ⟨_, fun w => by simp [binOp, Op.stringOp], .bool _⟩
    | exact ⟨.string (x ++ y), fun w => by
        have h2 : ¬ ((x.size + y.size : Nat) : Int) > IntKind.i64.max := by
          simp only [IntKind.max, IntKind.signed, IntKind.bits]
          have := hC
          simp
          omega
        unfold binOp
        simp only [Op.stringOp, if_neg h2, Sem.run_pure], .str _⟩

theorem eqGuard_int {op : BinOp} {t : TypeId} {x y : Operand} {k k' : IntKind} {a b : Int} (w : World) : (eqGuard op t x y (.int k a) (.int k' b)).run P w = .ok () w := by cases op <;> rfl
theorem eqGuard_str {op : BinOp} {t : TypeId} {x y : Operand} {a b : ByteArray} (w : World) : (eqGuard op t x y (.string a) (.string b)).run P w = .ok () w := by cases op <;> rfl
theorem eqGuard_bool {op : BinOp} {t : TypeId} {x y : Operand} {a b : Bool} (w : World) : (eqGuard op t x y (.bool a) (.bool b)).run P w = .ok () w := by cases op <;> rfl
theorem eqGuard_ptr {op : BinOp} {t : TypeId} {x y : Operand} {a b : Option Addr} (w : World) : (eqGuard op t x y (.pointer a) (.pointer b)).run P w = .ok () w := by cases op <;> rfl

theorem tk_bool {t : TypeId} (h : (td P t).k.isBool = true) : P.underlying t = some .bool := und_bool (by
  cases hk : (td P t).k <;> simp [hk, TK.isBool] at h; rfl)
theorem tk_ptr {t : TypeId} (h : (td P t).k.isPtr = true) : ∃ e, P.underlying t = some (.pointer e) := by
  cases hk : (td P t).k <;> simp [hk, TK.isPtr] at h
  exact ⟨_, und_ptr hk⟩

theorem run_equalIn_ptr_nil {t e : TypeId} (h : P.underlying t = some (.pointer e)) (a : Option Addr) (w : World) (d : Nat) : (Op.equalIn (d + 1) t (.pointer a) (.pointer none)).run P w = .ok a.isNone w := by
  cases a <;> simp only [Op.equalIn, Sem.run_bind, run_und' h, Result.andThen_ok, Sem.run_pure] <;> rfl
theorem run_equalIn_nil_ptr {t e : TypeId} (h : P.underlying t = some (.pointer e)) (a : Option Addr) (w : World) (d : Nat) : (Op.equalIn (d + 1) t (.pointer none) (.pointer a)).run P w = .ok a.isNone w := by
  cases a <;> simp only [Op.equalIn, Sem.run_bind, run_und' h, Result.andThen_ok, Sem.run_pure]
theorem run_equalIn_bool2 {t : TypeId} (h : P.underlying t = some .bool) (a b : Bool) (w : World) (d : Nat) : (Op.equalIn (d + 1) t (.bool a) (.bool b)).run P w = .ok (a == b) w := by
  simp only [Op.equalIn, Sem.run_bind, run_und' h, Result.andThen_ok, Sem.run_pure]
theorem run_equal_ptr_nil {t e : TypeId} (h : P.underlying t = some (.pointer e)) (a : Option Addr) (w : World) : (Op.equal t (.pointer a) (.pointer none)).run P w = .ok a.isNone w := run_equalIn_ptr_nil h a w 9999
theorem run_equal_nil_ptr {t e : TypeId} (h : P.underlying t = some (.pointer e)) (a : Option Addr) (w : World) : (Op.equal t (.pointer none) (.pointer a)).run P w = .ok a.isNone w := run_equalIn_nil_ptr h a w 9999
theorem run_equal_bool {t : TypeId} (h : P.underlying t = some .bool) (a b : Bool) (w : World) : (Op.equal t (.bool a) (.bool b)).run P w = .ok (a == b) w := run_equalIn_bool2 h a b w 9999
theorem Rel.ptr_shape {v : Value} {l i o : Nat} (h : Rel Φ v (.ptr l i o)) : ∃ a, v = .pointer (some a) := by obtain ⟨p, R, _, _, rfl⟩ := h.inv_ptr; exact ⟨_, rfl⟩
theorem Rel.cptr_shape {v : Value} {cs : List MV} (h : Rel Φ v (.cptr cs)) : ∃ a, v = .pointer (some a) := by obtain ⟨b, off, vs, rfl, _, _⟩ := h.inv_cptr; exact ⟨_, rfl⟩

theorem eqV_sound {op : BinOp} {t : TypeId} {c : Prop} {b : Bool} {C : Prop} {mv : MV} {v1 v2 : Value} (h : eqV op c b = some (C, mv)) (hC : C)
    (hb : binOp .eql t v1 v2 = (do pure (.bool (← Op.equal t v1 v2)))) (hb' : binOp .neq t v1 v2 = (do pure (.bool (!(← Op.equal t v1 v2))))) (he : c → ∀ w, (Op.equal t v1 v2).run P w = .ok b w) :
    ∃ v, (∀ w, (binOp op t v1 v2).run P w = .ok v w) ∧ Rel Φ v mv := by
  cases op <;> simp only [eqV, Option.some.injEq, Prod.mk.injEq, reduceCtorEq] at h <;> obtain ⟨rfl, rfl⟩ := h
  · exact ⟨_, fun w => by rw [hb]; simp [he hC w], .bool _⟩
  · exact ⟨_, fun w => by rw [hb']; simp [he hC w], .bool _⟩

theorem getD_of {α : Type} {l : List α} {i : Nat} {d : α} (h : i < l.length) : l[i]? = some (l.getD i d) := by
  simp [List.getD, List.getElem?_eq_getElem h]


theorem part_sound {t : TypeId} (hok : (td P t).ok = true) {cs : Array Value} {ms : List MV} {off : Nat} (hs : cs.size = ms.length) (hc : ∀ (i : Nat) m, ms[i]? = some m → m.isCell = true) (hr : ∀ (i : Nat) m, ms[i]? = some m → Rel Φ (cs.getD i undef) m)
    (h1 : off + (td P t).size ≤ ms.length) (h2 : 0 < (td P t).size) : ∃ v, (∀ w, (part t cs off).run P w = .ok v w) ∧ Rel Φ v (mpart (td P t) ms off) := by
  unfold mpart
  cases hk : (td P t).k.isAgg with
  | true =>
    simp only [if_true]
    refine ⟨.agg (cs.extract off (off + (td P t).size)), fun w => by simp [part, run_isAgg' hok, hk, run_sizeOf' hok], .agg ?_ (fun i m hm => ?_) (fun i m hm => ?_)⟩
    · simp only [Array.size_extract, List.length_take, List.length_drop]; omega
    · rw [List.getElem?_take] at hm
      split at hm
      · exact hc _ m (by simpa using hm)
      · cases hm
    · rw [List.getElem?_take] at hm
      split at hm
      · rename_i hi
        have := hr (off + i) m (by simpa using hm)
        have e : (cs.extract off (off + (td P t).size)).getD i undef = cs.getD (off + i) undef := by
          simp only [Array.getD_eq_getD_getElem?]
          congr 1
          rw [Array.getElem?_extract]
          rw [if_pos (by omega)]
        rw [e]
        exact this
      · cases hm
  | false =>
    have hlt : off < cs.size := by omega
    refine ⟨cs.getD off undef, fun w => ?_, ?_⟩
    · have : cs[off]? = some (cs.getD off undef) := by simp [Array.getD_eq_getD_getElem?, Array.getElem?_eq_getElem hlt]
      simp only [part, Sem.run_bind, run_isAgg' hok, hk, Result.andThen_ok, Bool.false_eq_true, if_false, this, Sem.run_pure]
    · simp only [Bool.false_eq_true, if_false]
      exact hr off _ (getD_of (by omega))

theorem meqFields_sound {t : TypeId} {g : TypeId → MV → MV → Option Bool} {dd : Nat} (hg : ∀ t x y b, g t x y = some b → ∀ v1 v2, Rel Φ v1 x → Rel Φ v2 y → ∀ w, (Op.equalIn dd t v1 v2).run P w = .ok b w)
    {xs ys : List MV} {cx cy : Array Value} (hsx : cx.size = xs.length) (hcx : ∀ (i : Nat) m, xs[i]? = some m → m.isCell = true) (hrx : ∀ (i : Nat) m, xs[i]? = some m → Rel Φ (cx.getD i undef) m)
    (hsy : cy.size = ys.length) (hcy : ∀ (i : Nat) m, ys[i]? = some m → m.isCell = true) (hry : ∀ (i : Nat) m, ys[i]? = some m → Rel Φ (cy.getD i undef) m) (w : World) :
    ∀ (fs : List Field) (b : Bool), (∀ f, f ∈ fs → f.name ≠ "_") → meqFields P g xs ys (fs.map fun f => (f.offset, f.type)) = some b → (Op.eqFields dd cx cy fs).run P w = .ok b w := by
  intro fs
  induction fs with
  | nil => intro b _ h; simp [meqFields] at h; subst h; simp [Op.eqFields]
  | cons f r ih =>
    intro b hn h
    simp only [List.map_cons, meqFields] at h
    split at h
    · rename_i hc
      obtain ⟨hok, h1, h2, h3⟩ := hc
      split at h
      · cases h
      · rename_i b1 hb1
        simp only [Option.map_eq_some_iff] at h
        obtain ⟨b2, hb2, rfl⟩ := h
        obtain ⟨v1, hv1, r1⟩ := part_sound hok hsx hcx hrx h1 h3
        obtain ⟨v2, hv2, r2⟩ := part_sound hok hsy hcy hry h2 h3
        have hn0 := hn f (by simp)
        simp only [Op.eqFields, ne_eq, hn0, not_false_eq_true, if_true, Sem.run_bind, hv1 w, hv2 w, Result.andThen_ok, hg _ _ _ _ hb1 v1 v2 r1 r2 w]
        cases b1
        · simp
        · simp only [Bool.not_true, Bool.false_eq_true, if_false, Bool.true_and]
          exact ih b2 (fun f hf => hn f (by simp [hf])) hb2
    · cases h

theorem meqItems_sound {e : TypeId} (hok : (td P e).ok = true) {g : TypeId → MV → MV → Option Bool} {dd : Nat} (hg : ∀ t x y b, g t x y = some b → ∀ v1 v2, Rel Φ v1 x → Rel Φ v2 y → ∀ w, (Op.equalIn dd t v1 v2).run P w = .ok b w)
    {xs ys : List MV} {cx cy : Array Value} (hsx : cx.size = xs.length) (hcx : ∀ (i : Nat) m, xs[i]? = some m → m.isCell = true) (hrx : ∀ (i : Nat) m, xs[i]? = some m → Rel Φ (cx.getD i undef) m)
    (hsy : cy.size = ys.length) (hcy : ∀ (i : Nat) m, ys[i]? = some m → m.isCell = true) (hry : ∀ (i : Nat) m, ys[i]? = some m → Rel Φ (cy.getD i undef) m) (w : World) :
    ∀ (is : List Nat) (b : Bool), meqFields P g xs ys (is.map fun i => (i * (td P e).size, e)) = some b → (Op.eqItems dd e (td P e).size cx cy is).run P w = .ok b w := by
  intro is
  induction is with
  | nil => intro b h; simp [meqFields] at h; subst h; simp [Op.eqItems]
  | cons i r ih =>
    intro b h
    simp only [List.map_cons, meqFields] at h
    split at h
    · rename_i hc
      obtain ⟨hok, h1, h2, h3⟩ := hc
      split at h
      · cases h
      · rename_i b1 hb1
        simp only [Option.map_eq_some_iff] at h
        obtain ⟨b2, hb2, rfl⟩ := h
        obtain ⟨v1, hv1, r1⟩ := part_sound hok hsx hcx hrx h1 h3
        obtain ⟨v2, hv2, r2⟩ := part_sound hok hsy hcy hry h2 h3
        simp only [Op.eqItems, Sem.run_bind, hv1 w, hv2 w, Result.andThen_ok, hg _ _ _ _ hb1 v1 v2 r1 r2 w]
        cases b1
        · simp
        · simp only [Bool.not_true, Bool.false_eq_true, if_false, Bool.true_and]
          exact ih b2 hb2
    · cases h

theorem meqs_sound : ∀ (d : Nat) (t : TypeId) (x y : MV) (b : Bool), meqs P d t x y = some b → ∀ v1 v2, Rel Φ v1 x → Rel Φ v2 y → ∀ (D : Nat) w, (Op.equalIn (D + d) t v1 v2).run P w = .ok b w := by
  intro d
  induction d with
  | zero => intro t x y b h; simp [meqs] at h
  | succ d ih =>
    intro t x y b h v1 v2 r1 r2 D w
    simp only [meqs] at h
    split at h
    · rename_i q k a k' c hk
      cases r1.inv_int; cases r2.inv_int
      split at h
      · rename_i hkk; subst hkk; cases h
        rw [show D + (d + 1) = (D + d) + 1 from rfl]
        simp only [Op.equalIn, Sem.run_bind, run_und' (und_int hk), Result.andThen_ok, if_true, Sem.run_pure]
        rfl
      · cases h
    · rename_i a c hk
      cases r1.inv_bool; cases r2.inv_bool; cases h
      rw [show D + (d + 1) = (D + d) + 1 from rfl]
      simp only [Op.equalIn, Sem.run_bind, run_und' (und_bool hk), Result.andThen_ok, Sem.run_pure]
    · rename_i a c hk
      cases r1.inv_str; cases r2.inv_str; cases h
      rw [show D + (d + 1) = (D + d) + 1 from rfl]
      simp only [Op.equalIn, Sem.run_bind, run_und' (und_str hk), Result.andThen_ok, Sem.run_pure]
      congr 1
      obtain ⟨⟨p⟩⟩ := a
      obtain ⟨⟨q⟩⟩ := c
      show ((⟨p⟩ : Array UInt8) == ⟨q⟩) = _
      rw [Bool.eq_iff_iff]
      simp
    · rename_i fs xs ys hk
      split at h
      · rename_i hp
        obtain ⟨cx, rfl, hsx, hcx, hrx⟩ := r1.inv_agg
        obtain ⟨cy, rfl, hsy, hcy, hry⟩ := r2.inv_agg
        obtain ⟨fa, hu, rfl⟩ := und_struct hk
        have hf : P.fieldsOf t = fa := by simp [Program.fieldsOf, hu]
        simp only [eqPlain, Bool.and_eq_true, Bool.not_eq_true', List.all_eq_true, bne_iff_ne] at hp
        rw [show D + (d + 1) = (D + d) + 1 from rfl, run_equalIn_struct w (D + d) t cx cy (by rw [hf]; exact hu) hp.1.1, hf]
        refine meqFields_sound (P := P) (Φ := Φ) (t := t) (g := meqs P d) (dd := D + d) (fun t x y b h v1 v2 r1 r2 w => ih t x y b h v1 v2 r1 r2 D w) hsx hcx hrx hsy hcy hry w fa.toList b (fun f hf' => hp.1.2 f (by rw [hf]; exact hf')) h
      · cases h
    · rename_i n e xs ys hk
      split at h
      · rename_i hok
        obtain ⟨cx, rfl, hsx, hcx, hrx⟩ := r1.inv_agg
        obtain ⟨cy, rfl, hsy, hcy, hry⟩ := r2.inv_agg
        obtain ⟨i, q, hi, hq, hs, -, -⟩ := td_info hok
        have hce : P.cellsOf e = (td P e).size := by rw [hs]; simp [Program.cellsOf, hi]
        rw [show D + (d + 1) = (D + d) + 1 from rfl, run_equalIn_array w (D + d) cx cy (und_array hk) hi, hce]
        exact meqItems_sound (P := P) (Φ := Φ) hok (g := meqs P d) (dd := D + d) (fun t x y b h v1 v2 r1 r2 w => ih t x y b h v1 v2 r1 r2 D w) hsx hcx hrx hsy hcy hry w _ b h
      · cases h
    · cases h

theorem mbin_sound {t : TypeId} {op : BinOp} {x y : MV} {C : Prop} {mv : MV} (h : mbin P t op x y = some (C, mv)) (hC : C) {v1 v2 : Value} (r1 : Rel Φ v1 x) (r2 : Rel Φ v2 y) (o1 o2 : Operand) :
    ∃ v, (∀ w, (eqGuard op t o1 o2 v1 v2).run P w = .ok () w ∧ (binOp op t v1 v2).run P w = .ok v w) ∧ Rel Φ v mv := by
  unfold mbin at h
  split at h
  · rename_i k a k' b
    cases r1.inv_int; cases r2.inv_int
    have hg : ∀ w, (eqGuard op t o1 o2 (.int k a) (.int k' b)).run P w = .ok () w := fun w => eqGuard_int w
    split at h
    · obtain ⟨v, hv, hr⟩ := intShift_sound (P := P) (Φ := Φ) (k' := k') h hC t
      exact ⟨v, fun w => ⟨hg w, hv w⟩, hr⟩
    · obtain ⟨v, hv, hr⟩ := intShift_sound (P := P) (Φ := Φ) (k' := k') h hC t
      exact ⟨v, fun w => ⟨hg w, hv w⟩, hr⟩
    · split at h
      · rename_i hk
        subst hk
        obtain ⟨v, hv, hr⟩ := intBin_sound (P := P) (Φ := Φ) h hC t
        exact ⟨v, fun w => ⟨hg w, hv w⟩, hr⟩
      · cases h
  · cases r1.inv_str; cases r2.inv_str
    obtain ⟨v, hv, hr⟩ := strBin_sound (P := P) (Φ := Φ) h hC t
    exact ⟨v, fun w => ⟨eqGuard_str w, hv w⟩, hr⟩
  · cases r1.inv_bool; cases r2.inv_bool
    obtain ⟨v, hv, hr⟩ := eqV_sound (P := P) (Φ := Φ) (t := t) h hC rfl rfl (fun hc w => run_equal_bool (tk_bool hc) _ _ w)
    exact ⟨v, fun w => ⟨eqGuard_bool w, hv w⟩, hr⟩
  · cases r1.inv_nilp; cases r2.inv_nilp
    obtain ⟨v, hv, hr⟩ := eqV_sound (P := P) (Φ := Φ) (t := t) (v1 := .pointer none) (v2 := .pointer none) h hC rfl rfl (fun hc w => by obtain ⟨e, he⟩ := tk_ptr hc; exact run_equal_ptr_nil he none w)
    exact ⟨v, fun w => ⟨eqGuard_ptr w, hv w⟩, hr⟩
  · obtain ⟨ad, rfl⟩ := r1.ptr_shape; cases r2.inv_nilp
    obtain ⟨v, hv, hr⟩ := eqV_sound (P := P) (Φ := Φ) (t := t) (v1 := .pointer (some ad)) (v2 := .pointer none) h hC rfl rfl (fun hc w => by obtain ⟨e, he⟩ := tk_ptr hc; exact run_equal_ptr_nil he (some ad) w)
    exact ⟨v, fun w => ⟨eqGuard_ptr w, hv w⟩, hr⟩
  · obtain ⟨ad, rfl⟩ := r2.ptr_shape; cases r1.inv_nilp
    obtain ⟨v, hv, hr⟩ := eqV_sound (P := P) (Φ := Φ) (t := t) (v1 := .pointer none) (v2 := .pointer (some ad)) h hC rfl rfl (fun hc w => by obtain ⟨e, he⟩ := tk_ptr hc; exact run_equal_nil_ptr he (some ad) w)
    exact ⟨v, fun w => ⟨eqGuard_ptr w, hv w⟩, hr⟩
  · obtain ⟨ad, rfl⟩ := r1.cptr_shape; cases r2.inv_nilp
    obtain ⟨v, hv, hr⟩ := eqV_sound (P := P) (Φ := Φ) (t := t) (v1 := .pointer (some ad)) (v2 := .pointer none) h hC rfl rfl (fun hc w => by obtain ⟨e, he⟩ := tk_ptr hc; exact run_equal_ptr_nil he (some ad) w)
    exact ⟨v, fun w => ⟨eqGuard_ptr w, hv w⟩, hr⟩
  · obtain ⟨ad, rfl⟩ := r2.cptr_shape; cases r1.inv_nilp
    obtain ⟨v, hv, hr⟩ := eqV_sound (P := P) (Φ := Φ) (t := t) (v1 := .pointer none) (v2 := .pointer (some ad)) h hC rfl rfl (fun hc w => by obtain ⟨e, he⟩ := tk_ptr hc; exact run_equal_nil_ptr he (some ad) w)
    exact ⟨v, fun w => ⟨eqGuard_ptr w, hv w⟩, hr⟩
  · rename_i xs ys
    split at h
    · rename_i b hb
      obtain ⟨cx, rfl, -⟩ := r1.inv_agg
      obtain ⟨cy, rfl, -⟩ := r2.inv_agg
      obtain ⟨v, hv, hr⟩ := eqV_sound (P := P) (Φ := Φ) (t := t) (v1 := .agg cx) (v2 := .agg cy) h hC rfl rfl (fun _ w => meqs_sound 6 t _ _ b hb _ _ r1 r2 9994 w)
      have hp : eqPlain P t = true := by
        cases op <;> simp only [eqV, Option.some.injEq, Prod.mk.injEq, reduceCtorEq] at h <;> obtain ⟨rfl, -⟩ := h <;> exact hC
      have hgt : P.eqGuardType P.depth t = false := by
        simp only [eqPlain, Bool.and_eq_true, Bool.not_eq_true'] at hp
        exact hp.2
      refine ⟨v, fun w => ⟨?_, hv w⟩, hr⟩
      unfold eqGuard
      cases op <;> simp [run_program, hgt]
    · cases h
  · cases h

theorem mun_sound {op : UnOp} {x : MV} {C : Prop} {mv : MV} (h : mun op x = some (C, mv)) {v1 : Value} (r1 : Rel Φ v1 x) :
    ∃ v, (∀ w, (Op.unary op v1).run P w = .ok v w) ∧ Rel Φ v mv := by
  unfold mun at h
  split at h
  · simp only [Option.some.injEq, Prod.mk.injEq] at h; obtain ⟨_, rfl⟩ := h; cases r1.inv_int
    exact ⟨_, fun w => by simp [Op.unary, Op.intArith], .int _ _⟩
  · simp only [Option.some.injEq, Prod.mk.injEq] at h; obtain ⟨_, rfl⟩ := h; cases r1.inv_int
    exact ⟨_, fun w => by simp only [Op.unary, Op.intBits, Sem.run_pure]; rfl, .int _ _⟩
  · simp only [Option.some.injEq, Prod.mk.injEq] at h; obtain ⟨_, rfl⟩ := h; cases r1.inv_bool
    exact ⟨_, fun w => by simp [Op.unary], .bool _⟩
  · cases h

theorem mconv_sound {s d : TypeId} {x : MV} {C : Prop} {mv : MV} (h : mconv P s d x = some (C, mv)) {v1 : Value} (r1 : Rel Φ v1 x) :
    ∃ v, (∀ w, (convert s d v1).run P w = .ok v w) ∧ Rel Φ v mv := by
  unfold mconv at h
  split at h
  · rename_i hk hs
    simp only [Option.some.injEq, Prod.mk.injEq] at h; obtain ⟨_, rfl⟩ := h; cases r1.inv_int
    obtain ⟨i, d', hi, hd, _⟩ := td_info hs
    exact ⟨_, fun w => by simp [convert, run_und' hd, run_und' (und_int hk), Conv.intToInt], .int _ _⟩
  · rename_i hk hs
    simp only [Option.some.injEq, Prod.mk.injEq] at h; obtain ⟨_, rfl⟩ := h; cases r1.inv_str
    obtain ⟨i, d', hi, hd, _⟩ := td_info hs
    exact ⟨_, fun w => by simp [convert, run_und' hd, run_und' (und_str hk)], .str _⟩
  · cases h

theorem run_sureAddr (a : Addr) (w : World) : (Instr.sureAddr (.pointer (some a))).run P w = .ok a w := rfl

theorem mfieldAddr_sound {t : TypeId} {x : MV} {i : Nat} {C : Prop} {mv : MV} (h : mfieldAddr P t x i = some (C, mv)) (hC : C) {v1 : Value} (r1 : Rel Φ v1 x) :
    ∃ v, (∀ w, (Instr.fieldAt t v1 i).run P w = .ok v w) ∧ Rel Φ v mv := by
  unfold mfieldAddr at h
  split at h
  · rename_i fs hk
    obtain ⟨fa, hu, rfl⟩ := und_struct hk
    split at h
    · rename_i off ft l j o hf
      simp only [Option.some.injEq, Prod.mk.injEq] at h; obtain ⟨rfl, rfl⟩ := h
      obtain ⟨hok, hsz⟩ := hC
      obtain ⟨p, R, ho, hb, rfl⟩ := r1.inv_ptr
      simp only [List.getElem?_map, Array.getElem?_toList, Option.map_eq_some_iff] at hf
      obtain ⟨fd, hfd, he⟩ := hf
      obtain ⟨rfl, rfl⟩ := Prod.mk.injEq .. ▸ he
      refine ⟨.pointer (some ⟨R, p.bo + j * p.e + (o + fd.offset), none⟩), fun w => ?_, .ptr ho hb⟩
      simp only [Instr.fieldAt, Sem.run_bind, run_und' hu, Result.andThen_ok, hfd, run_sureAddr, fieldPlace, run_sizeOf' hok, Sem.run_ite, if_neg hsz, Sem.run_pure, add_none]
      rw [Nat.add_assoc]
    · rename_i off ft cs hf
      simp only [Option.some.injEq, Prod.mk.injEq] at h; obtain ⟨rfl, rfl⟩ := h
      obtain ⟨hok, hsz⟩ := hC
      obtain ⟨b, o, vs, rfl, hc, hr⟩ := r1.inv_cptr
      simp only [List.getElem?_map, Array.getElem?_toList, Option.map_eq_some_iff] at hf
      obtain ⟨fd, hfd, he⟩ := hf
      obtain ⟨rfl, rfl⟩ := Prod.mk.injEq .. ▸ he
      refine ⟨.pointer (some ⟨b, o + fd.offset, none⟩), fun w => ?_, .cptr (fun q => vs (fd.offset + q)) (fun q m hm => ?_) (fun q m hm => hr _ m (by simpa using hm))⟩
      · simp only [Instr.fieldAt, Sem.run_bind, run_und' hu, Result.andThen_ok, hfd, run_sureAddr, fieldPlace, run_sizeOf' hok, Sem.run_ite, if_neg hsz, Sem.run_pure, add_none]
      · have := hc (fd.offset + q) m (by simpa using hm)
        rw [Nat.add_assoc]
        exact this
    · cases h
  · cases h

theorem run_asIntOf (k : IntKind) (n : Int) (w : World) : (asIntOf (.int k n)).run P w = .ok (k, n) w := rfl


theorem mindexAddr_sound {t : TypeId} {x i : MV} {C : Prop} {mv : MV} (h : mindexAddr P t x i = some (C, mv)) (hC : C) {v1 v2 : Value} (r1 : Rel Φ v1 x) (r2 : Rel Φ v2 i) :
    ∃ v, (∀ w, (Instr.indexAt t v1 v2).run P w = .ok v w) ∧ Rel Φ v mv := by
  unfold mindexAddr at h
  split at h
  · rename_i el e xs tt k n hk
    simp only [Option.some.injEq, Prod.mk.injEq] at h; obtain ⟨rfl, rfl⟩ := h
    obtain ⟨hok, hsz, h0, h1⟩ := hC
    cases r2.inv_int
    obtain ⟨a, cap, rfl, _, _, _, _, hat⟩ := r1.inv_lst
    obtain ⟨b, off, rfl, hx, vs, hv⟩ := hat (by omega)
    have hi : xs[n.toNat]? = some (xs.getD n.toNat []) := getD_of (by omega)
    refine ⟨.pointer (some ⟨b, off + n.toNat * e, none⟩), fun w => ?_, .cptr (vs n.toNat) (fun j m hm => ?_) (fun j m hm => (hv n.toNat _ j m hi hm).2.2)⟩
    · simp only [Instr.indexAt, Sem.run_bind, run_asIntOf, Result.andThen_ok, run_und' (und_slice hk), Sem.run_pure, Sem.run_ite, if_pos (show 0 ≤ n ∧ n < (xs.length : Int) from ⟨h0, h1⟩), run_sizeOf' hok, hsz, add_none]
    · have := hv n.toNat _ j m hi hm
      rw [Nat.add_assoc]
      exact ⟨this.1, this.2.1⟩
  · rename_i el e l lo kk k n hk
    simp only [Option.some.injEq, Prod.mk.injEq] at h; obtain ⟨rfl, rfl⟩ := h
    obtain ⟨hok, hsz, h0, h1⟩ := hC
    cases r2.inv_int
    obtain ⟨a, cap, p, rfl, ho, rfl, hcap, hn, hR⟩ := r1.inv_vec
    rcases hR with ⟨R, hb, rfl⟩ | hR
    · refine ⟨.pointer (some ⟨R, p.bo + (lo + n.toNat) * p.e + 0, none⟩), fun w => ?_, .ptr ho hb⟩
      simp only [Instr.indexAt, Sem.run_bind, run_asIntOf, Result.andThen_ok, run_und' (und_slice hk), Sem.run_pure, Sem.run_ite, if_pos (show 0 ≤ n ∧ n < (kk : Int) from ⟨h0, h1⟩), run_sizeOf' hok, hsz, add_none]
      rw [Nat.add_mul, Nat.add_zero, Nat.add_assoc]
    · omega
  · rename_i len el l j o k n hk
    simp only [Option.some.injEq, Prod.mk.injEq] at h; obtain ⟨rfl, rfl⟩ := h
    obtain ⟨hok, h0, h1⟩ := hC
    cases r2.inv_int
    obtain ⟨p, R, ho, hb, rfl⟩ := r1.inv_ptr
    refine ⟨.pointer (some ⟨R, p.bo + j * p.e + (o + n.toNat * (td P el).size), none⟩), fun w => ?_, .ptr ho hb⟩
    simp only [Instr.indexAt, Sem.run_bind, run_asIntOf, Result.andThen_ok, run_und' (und_array hk), run_sureAddr, Sem.run_pure, Sem.run_ite, if_pos (show 0 ≤ n ∧ n < (len : Int) from ⟨h0, h1⟩), run_sizeOf' hok, add_none]
    rw [Nat.add_assoc]
  · rename_i len el cs k n hk
    simp only [Option.some.injEq, Prod.mk.injEq] at h; obtain ⟨rfl, rfl⟩ := h
    obtain ⟨hok, h0, h1⟩ := hC
    cases r2.inv_int
    obtain ⟨b, off, vs, rfl, hc, hr⟩ := r1.inv_cptr
    refine ⟨.pointer (some ⟨b, off + n.toNat * (td P el).size, none⟩), fun w => ?_, .cptr (fun q => vs (n.toNat * (td P el).size + q)) (fun q m hm => ?_) (fun q m hm => hr _ m (by simpa using hm))⟩
    · simp only [Instr.indexAt, Sem.run_bind, run_asIntOf, Result.andThen_ok, run_und' (und_array hk), run_sureAddr, Sem.run_pure, Sem.run_ite, if_pos (show 0 ≤ n ∧ n < (len : Int) from ⟨h0, h1⟩), run_sizeOf' hok, add_none]
    · have := hc (n.toNat * (td P el).size + q) m (by simpa using hm)
      rw [Nat.add_assoc]
      exact this
  · cases h

theorem mfield_sound {t : TypeId} {x : MV} {i : Nat} {C : Prop} {mv : MV} (h : mfield P t x i = some (C, mv)) (hC : C) {v1 : Value} (r1 : Rel Φ v1 x) :
    ∃ v, (∀ w, (Instr.field t v1 i).run P w = .ok v w) ∧ Rel Φ v mv := by
  unfold mfield at h
  split at h
  · rename_i fs hk
    obtain ⟨fa, hu, rfl⟩ := und_struct hk
    split at h
    · rename_i off ft cs hf
      simp only [Option.some.injEq, Prod.mk.injEq] at h; obtain ⟨rfl, rfl⟩ := h
      obtain ⟨hok, h1, h2⟩ := hC
      obtain ⟨cv, rfl, hs, hc, hr⟩ := r1.inv_agg
      simp only [List.getElem?_map, Array.getElem?_toList, Option.map_eq_some_iff] at hf
      obtain ⟨fd, hfd, he⟩ := hf
      obtain ⟨rfl, rfl⟩ := Prod.mk.injEq .. ▸ he
      obtain ⟨v, hv, hrel⟩ := part_sound hok hs hc hr h1 h2
      exact ⟨v, fun w => by simp only [Instr.field, Sem.run_bind, run_und' hu, Result.andThen_ok, hfd, asAgg, Sem.run_pure, hv w], hrel⟩
    · cases h
  · cases h

theorem toList_get (s : ByteArray) (n : Nat) : s[n]? = s.toList[n]? := by
  rw [ByteArray.toList_eq]
  obtain ⟨⟨l⟩⟩ := s
  simp [getElem?_def]
  rfl

theorem mindex_sound {t : TypeId} {x i : MV} {C : Prop} {mv : MV} (h : mindex P t x i = some (C, mv)) (hC : C) {v1 v2 : Value} (r1 : Rel Φ v1 x) (r2 : Rel Φ v2 i) :
    ∃ v, (∀ w, (Instr.index t v1 v2).run P w = .ok v w) ∧ Rel Φ v mv := by
  unfold mindex at h
  split at h
  · rename_i s k n hk
    simp only [Option.some.injEq, Prod.mk.injEq] at h; obtain ⟨rfl, rfl⟩ := h
    cases r1.inv_str; cases r2.inv_int
    obtain ⟨h0, h1⟩ := hC
    have hb : s[n.toNat]? = some (s.toList.getD n.toNat 0) := by
      rw [toList_get]
      refine getD_of ?_
      rw [ByteArray.toList_eq]
      have : s.data.toList.length = s.size := by rw [Array.length_toList]; rfl
      omega
    refine ⟨_, fun w => ?_, .int _ _⟩
    simp only [Instr.index, Sem.run_bind, run_asIntOf, Result.andThen_ok, run_und' (und_str hk), if_pos h0, hb, Sem.run_pure]
  · rename_i len el cs k n hk
    simp only [Option.some.injEq, Prod.mk.injEq] at h; obtain ⟨rfl, rfl⟩ := h
    obtain ⟨hok, h0, h1, h2, h3⟩ := hC
    cases r2.inv_int
    obtain ⟨cv, rfl, hs, hc, hr⟩ := r1.inv_agg
    obtain ⟨v, hv, hrel⟩ := part_sound (off := n.toNat * (td P el).size) hok hs hc hr (by
      have : n.toNat + 1 ≤ len := by omega
      have := Nat.mul_le_mul_right (td P el).size this
      rw [Nat.add_mul, Nat.one_mul, Nat.mul_comm len] at this
      omega) h3
    exact ⟨v, fun w => by simp only [Instr.index, Sem.run_bind, run_asIntOf, Result.andThen_ok, run_und' (und_array hk), Sem.run_ite, if_pos (show 0 ≤ n ∧ n < (len : Int) from ⟨h0, h1⟩), run_sizeOf' hok, hv w], hrel⟩
  · cases h

theorem mlen_sound {t : TypeId} {x : MV} {C : Prop} {mv : MV} (h : mlen P t x = some (C, mv)) (hC : C) {v1 : Value} (r1 : Rel Φ v1 x) (ts : Array TypeId) (hts : ts.size = 1) (ht : ts.getD 0 0 = t) (ty : TypeId) :
    ∃ v, (∀ w, (Builtin.len_ ts ty #[v1]).run P w = .ok v w) ∧ Rel Φ v mv := by
  have hts0 : ts[0]? = some t := by
    rw [← ht, Array.getD_eq_getD_getElem?, Array.getElem?_eq_getElem (by omega)]; simp
  unfold mlen at h
  split at h
  · simp only [Option.some.injEq, Prod.mk.injEq] at h; obtain ⟨rfl, rfl⟩ := h; cases r1.inv_str
    exact ⟨_, fun w => by simp [Builtin.len_, hts0, run_und' (und_str hC), goInt], .int _ _⟩
  · split at h <;> simp only [Option.some.injEq, Prod.mk.injEq, reduceCtorEq] at h
    obtain ⟨rfl, rfl⟩ := h
    obtain ⟨a, cap, rfl, _⟩ := r1.inv_lst
    exact ⟨_, fun w => by simp [Builtin.len_, hts0, run_und' (und_slice (by assumption)), goInt], .int _ _⟩
  · split at h <;> simp only [Option.some.injEq, Prod.mk.injEq, reduceCtorEq] at h
    obtain ⟨rfl, rfl⟩ := h
    obtain ⟨a, cap, p, rfl, _⟩ := r1.inv_vec
    exact ⟨_, fun w => by simp [Builtin.len_, hts0, run_und' (und_slice (by assumption)), goInt], .int _ _⟩
  · split at h <;> simp only [Option.some.injEq, Prod.mk.injEq, reduceCtorEq] at h
    obtain ⟨rfl, rfl⟩ := h
    cases r1.inv_nils
    exact ⟨_, fun w => by simp [Builtin.len_, hts0, run_und' (und_slice (by assumption)), goInt], .int _ _⟩
  · split at h <;> simp only [Option.some.injEq, Prod.mk.injEq, reduceCtorEq] at h
    obtain ⟨rfl, rfl⟩ := h
    cases r1.inv_nilm
    exact ⟨_, fun w => by simp [Builtin.len_, hts0, run_und' (und_map (by assumption)), goInt], .int _ _⟩
  · cases h

theorem mcap_sound {t : TypeId} {x : MV} {C : Prop} {mv : MV} (h : mcap P t x = some (C, mv)) {v1 : Value} (r1 : Rel Φ v1 x) (ts : Array TypeId) (hts : ts.size = 1) (ht : ts.getD 0 0 = t) (ty : TypeId) :
    ∃ v, (∀ w, (Builtin.cap_ ts ty #[v1]).run P w = .ok v w) ∧ Rel Φ v mv := by
  have hts0 : ts[0]? = some t := by
    rw [← ht, Array.getD_eq_getD_getElem?, Array.getElem?_eq_getElem (by omega)]; simp
  unfold mcap at h
  split at h
  · split at h <;> simp only [Option.some.injEq, Prod.mk.injEq, reduceCtorEq] at h
    obtain ⟨rfl, rfl⟩ := h
    cases r1.inv_nils
    exact ⟨_, fun w => by simp [Builtin.cap_, hts0, run_und' (und_slice (by assumption)), goInt], .int _ _⟩
  · cases h

end
end Go.Proofs.Ytielcgplbnlgbaa
