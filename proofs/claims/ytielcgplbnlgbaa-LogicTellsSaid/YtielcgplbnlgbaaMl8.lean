/- Writes; append; rows that are made; calls. -/
import Derived.Test.YtielcgplbnlgbaaMl7
set_option linter.unusedVariables false
set_option linter.unusedSimpArgs false
namespace Go.Proofs.Ytielcgplbnlgbaa
section
variable {P : Program}

theorem setAll_get? (l : List Value) (cs : Array Value) (off i : Nat) (h : off + l.length ≤ cs.size) : (setAll cs off l)[i]? = if off ≤ i ∧ i < off + l.length then l[i - off]? else cs[i]? := by
  by_cases hi : i < cs.size
  · have e1 : (setAll cs off l)[i]? = some ((setAll cs off l).getD i undef) := by
      simp [Array.getD_eq_getD_getElem?, Array.getElem?_eq_getElem (show i < (setAll cs off l).size by rw [setAll_size]; exact hi)]
    rw [e1, setAll_getD _ _ _ _ _ h]
    split
    · rename_i hc
      exact (getD_of (by omega)).symm
    · simp [Array.getD_eq_getD_getElem?, Array.getElem?_eq_getElem hi]
  · rw [if_neg (by omega), Array.getElem?_eq_none (by rw [setAll_size]; omega), Array.getElem?_eq_none (by omega)]

theorem laid_length {cs new : List MV} {off : Nat} (h : off + new.length ≤ cs.length) : (laid cs off new).length = cs.length := by simp [laid]; omega

theorem laid_get? {cs new : List MV} {off : Nat} (h : off + new.length ≤ cs.length) (i : Nat) : (laid cs off new)[i]? = if off ≤ i ∧ i < off + new.length then new[i - off]? else cs[i]? := by
  unfold laid
  by_cases h1 : i < off
  · rw [if_neg (by omega), List.append_assoc, List.getElem?_append_left (by simp; omega), List.getElem?_take, if_pos h1]
  · by_cases h2 : i < off + new.length
    · rw [if_pos (by omega), List.append_assoc, List.getElem?_append_right (by simp; omega), List.getElem?_append_left (by simp; omega)]
      simp [show min off cs.length = off by omega]
    · rw [if_neg (by omega), List.getElem?_append_right (by simp; omega), List.getElem?_drop]
      congr 1
      simp
      omega

theorem sop_store {o : Oper} {f : FR} {σ : St} {k : MV → St → Prop} {t : TypeId} {x y : Operand} (ho : o.op = .store t x y) {l i of : Nat} (hx : mval f x = .ptr l i of)
    {tt : TypeId} {e : Nat} {xs : List (List MV)} (hs : σ l = some (.row tt e xs)) (hok : (td P t).ok = true) (hi' : i < xs.length) (hc : ∀ c, c ∈ (mval f y).cells → c.isCell = true) (hlen : (mval f y).cells.length = (td P t).size)
    (h1 : of + (mval f y).cells.length ≤ (xs.getD i []).length) (hk : k .junk (σ.set l (.row tt e (xs.set i (laid (xs.getD i []) of (mval f y).cells))))) : sop P o f σ k := by
  intro Φ w a K Q' hi hr hK
  have rx := rel_mval hr x
  rw [hx] at rx
  obtain ⟨p, R, hp, hR, he⟩ := rx.inv_ptr
  have rc := rel_cells (rel_mval hr y) hc
  have hown := hi.own l _ hs
  have hown' := hown
  obtain ⟨p', hp', hpe, q1, q2, q3, q4⟩ := hown
  rw [hp] at hp'; cases hp'
  rw [hR] at q4
  obtain ⟨c, fz, k1, k2, k3, k4⟩ := q4
  have hxi : xs[i]? = some (xs.getD i []) := getD_of hi'
  have hxl := q3 i _ hxi
  have hvl : (a.eval y).cells.toList.length = (mval f y).cells.length := by simpa using rc.1
  have hfit : p.bo + i * p.e + of + (a.eval y).cells.toList.length ≤ c.size := by
    have : (i + 1) * e ≤ p.C * e := Nat.mul_le_mul_right _ (by omega)
    rw [Nat.add_mul, Nat.one_mul] at this
    rw [hpe]
    omega
  have hrun : (execOp a.eval o).run P w = .ok .skip (wset w R (.cells (setAll c (p.bo + i * p.e + of) (a.eval y).cells.toList) tt fz)) := by
    unfold execOp
    simp only [ho, he, Instr.storeAt, Sem.run_bind, run_sureAddr, Result.andThen_ok, storeVar, run_sizeOf' hok]
    rw [if_neg (by have := rc.1; omega)]
    rw [run_storeCells' (P := P) _ 0 c w k1 k2 (by simpa using hfit) rc.oneCells]
    rfl
  have hlt : R < w.heap.size := (Array.getElem?_eq_some_iff.1 k1).1
  obtain ⟨i1, s1⟩ := hi.turn (w' := wset w R (.cells (setAll c (p.bo + i * p.e + of) (a.eval y).cells.toList) tt fz)) l hs (.row tt e (xs.set i (laid (xs.getD i []) of (mval f y).cells))) hp hR wset_size (fun k hk => wset_other hk) rfl rfl rfl (Nat.le_refl _) (by
    refine ⟨p, hp, hpe, by simpa using q1, q2, fun i' x' hx' => ?_, ?_⟩
    · rw [List.getElem?_set] at hx'
      split at hx'
      · simp only [Option.some.injEq] at hx'
        subst hx'
        rw [laid_length h1, hxl]
      · exact q3 i' x' hx'
    · rw [hR]
      refine ⟨_, fz, wset_same hlt, by simpa [FzOk, setAll_size] using k2, by rw [setAll_size]; exact k3, fun i' x' j m hx' hm => ?_⟩
      rw [setAll_get? _ _ _ _ hfit, hvl, hpe]
      rw [List.getElem?_set] at hx'
      split at hx'
      · rename_i hii
        subst hii
        simp only [Option.some.injEq] at hx'
        subst hx'
        rw [laid_get? h1] at hm
        split at hm
        · rename_i hin
          rw [if_pos (by omega)]
          refine ⟨rc.2.1 _ m hm, (a.eval y).cells.getD (j - of) undef, ?_, rc.2.2 _ m hm⟩
          rw [show p.bo + (i * e + j) - (p.bo + i * e + of) = j - of from by omega, Array.getElem?_toList]
          have : j - of < (a.eval y).cells.size := by have := rc.1; omega
          simp [Array.getD_eq_getD_getElem?, Array.getElem?_eq_getElem this]
        · rename_i hin
          rw [if_neg (by omega)]
          exact k4 i _ j m hxi hm
      · rename_i hii
        have hjl : j < e := by
          have := (List.getElem?_eq_some_iff.1 hm).1
          have := q3 i' x' hx'
          omega
        rw [if_neg (by
          intro hcon
          have hle : of + (mval f y).cells.length ≤ e := by omega
          rcases Nat.lt_or_gt_of_ne hii with hlt' | hgt
          · have : (i + 1) * e ≤ i' * e := Nat.mul_le_mul_right _ hlt'
            rw [Nat.add_mul, Nat.one_mul] at this
            omega
          · have : (i' + 1) * e ≤ i * e := Nat.mul_le_mul_right _ hgt
            rw [Nat.add_mul, Nat.one_mul] at this
            omega)]
        exact k4 i' x' j m hx' hm)
  exact wp_unit hrun (hK undef .junk _ _ _ (.junk _) i1 s1 hk)

/-! ### append -/

def TK.isSrc : TK → Bool
  | .slice _ | .str => true
  | _ => false

theorem und_src {t : TypeId} (h : (td P t).k.isSrc = true) : (∃ e, P.underlying t = some (.slice e)) ∨ P.underlying t = some .string := by
  cases hk : (td P t).k <;> simp [hk, TK.isSrc] at h
  · exact .inr (und_str hk)
  · exact .inl ⟨_, und_slice hk⟩

theorem run_append_room {t xt ty el : TypeId} {w : World} {a : Option Addr} {n cap m : Nat} {v : Value} {arr : Array Value} (ht : (td P t).k = .slice el) (hxt : (td P xt).k.isSrc = true) (hok : (td P el).ok = true)
    (hl : (Builtin.lenOf v).run P w = .ok m w) (hf : (Builtin.firstCells (td P el).size m v).run P w = .ok arr w) (hroom : n + m ≤ cap) :
    (Builtin.append_ #[t, xt] ty #[.slice a n cap, v]).run P w = ((match a with | some ad => storeCells (ad.add (n * (td P el).size)) arr.toList | none => pure ()).run P w).andThen fun _ w' => .ok (.slice a (n + m) cap) w' := by
  unfold Builtin.append_
  rcases und_src hxt with ⟨e, hd⟩ | hd <;>
  · simp only [List.getElem?_toArray, List.getElem?_cons_zero, List.getElem?_cons_succ, Sem.run_bind, run_und' (und_slice ht), Result.andThen_ok, run_sizeOf' hok, run_und' hd, Sem.run_pure, Bool.false_eq_true, if_false, hl, if_pos hroom, Bool.not_false, if_true, hf]
    cases a <;> simp only [Sem.run_bind, Sem.run_pure, Result.andThen_ok]

theorem run_append_grow' {t xt ty el : TypeId} {w : World} {a : Option Addr} {n cap m : Nat} {v : Value} {arr old : Array Value} (ht : (td P t).k = .slice el) (hxt : (td P xt).k.isSrc = true) (hz : (td P el).zok = true)
    (hl : (Builtin.lenOf v).run P w = .ok m w) (hf : ∀ w' : World, w'.heap = w.heap → (Builtin.firstCells (td P el).size m v).run P w' = .ok arr w') (ho : ∀ w' : World, w'.heap = w.heap → (Builtin.firstCells (td P el).size n (.slice a n cap)).run P w' = .ok old w')
    (hroom : cap < n + m) (hm : n + m ≤ maxLen) (hb : (n + m) * (td P el).bytes ≤ 140737488355328) :
    ∃ rest : Array Value, rest.size = (grownCap w (n + m) cap el - (n + m)) * (td P el).size ∧ (Builtin.append_ #[t, xt] ty #[.slice a n cap, v]).run P w = .ok (.slice (some ⟨w.heap.size, 0, none⟩) (n + m) (grownCap w (n + m) cap el)) (w.drew.alloc (.cells (old ++ arr ++ rest) el)) := by
  obtain ⟨z, hz0, hz1, hz2, hok, hz3, _⟩ := run_zero' hz w.drew
  obtain ⟨i, d, hinf, hd, hsz, hby, hk⟩ := td_info hok
  refine ⟨Builtin.zeroCells z.cells (grownCap w (n + m) cap el - (n + m)), by rw [size_zeroCells, hz2], ?_⟩
  have hn : ¬ (n + m ≤ cap) := by omega
  have h48' : ¬ (Builtin.nextslicecap (n + m) cap * i.bytes > 2 ^ 48) := by
    rw [← hby]
    have := growslice_fits (show cap < n + m from hroom) hb
    omega
  have h63 : ¬ (((n + m : Nat) : Int) > IntKind.i64.max) := by
    simp only [IntKind.max, IntKind.signed, IntKind.bits, maxLen] at hm ⊢
    simp
    omega
  unfold Builtin.append_
  have e1 := ho w.drew rfl
  have e2 := hf w.drew rfl
  simp only [World.drew] at e1 e2 hz0
  rcases und_src hxt with ⟨e, hd2⟩ | hd2 <;>
  · simp only [List.getElem?_toArray, List.getElem?_cons_zero, List.getElem?_cons_succ, Sem.run_bind, run_und' (und_slice ht), Result.andThen_ok, run_sizeOf' hok, run_und' hd2, Sem.run_pure, Bool.false_eq_true, if_false, hl, if_neg hn, Bool.not_false, if_true,
      h63, false_and, typeInfo, run_program, hinf, if_neg h48', run_choose, Question.forced, run_askRoom]
    simp only [e1, e2, hz0, Result.andThen_ok, newRow, Sem.run_bind, run_newObj, Sem.run_pure]
    rfl

/-- Growth: a new row, in a new block. -/
theorem grown_row {Φ : Phi} {w : World} {σ σ1 : St} (hi : Inv Φ w σ) (hless : ∀ l o, σ1 l = some o → σ l = some o) {l' : Nat} (hl' : Φ.obj l' = none) {el : TypeId} {e n m cap' : Nat} {xs ys : List (List MV)} {old arr rest : Array Value}
    (hx : ∀ (i : Nat) (x : List MV), xs[i]? = some x → x.length = e) (hy : ∀ (i : Nat) (x : List MV), ys[i]? = some x → x.length = e) (hn : xs.length = n) (hm : ys.length = m) (ho : RelC Φ old xs.flatten) (ha : RelC Φ arr ys.flatten)
    (hr : rest.size = (cap' - (n + m)) * e) (hc : n + m ≤ cap') (hmax : cap' ≤ maxLen) :
    Inv (Φ.put l' ⟨some w.heap.size, 0, e, cap'⟩) (w.drew.alloc (.cells (old ++ arr ++ rest) el)) (σ1.set l' (.row el e (xs ++ ys))) ∧
    Step Φ σ w (Φ.put l' ⟨some w.heap.size, 0, e, cap'⟩) (σ1.set l' (.row el e (xs ++ ys))) (w.drew.alloc (.cells (old ++ arr ++ rest) el)) ∧
    Rel (Φ.put l' ⟨some w.heap.size, 0, e, cap'⟩) (.slice (some ⟨w.heap.size, 0, none⟩) (n + m) cap') (.vec e l' 0 (n + m)) := by
  have hle := Phi.put_le (Φ := Φ) ⟨some w.heap.size, 0, e, cap'⟩ hl'
  have hxy : ∀ (i : Nat) (x : List MV), (xs ++ ys)[i]? = some x → x.length = e := fun i x q => by
    by_cases h : i < xs.length
    · rw [List.getElem?_append_left h] at q; exact hx i x q
    · rw [List.getElem?_append_right (by omega)] at q; exact hy _ x q
  have hox : old.size = n * e := by rw [ho.1, flatten_length xs hx, hn]
  have hay : arr.size = m * e := by rw [ha.1, flatten_length ys hy, hm]
  have i0 := hi.less hless
  have s0 := Step.less w hless (Φ := Φ)
  obtain ⟨i1, s1⟩ := i0.alloc (w' := w.drew.alloc (.cells (old ++ arr ++ rest) el)) l' hl' (.row el e (xs ++ ys)) (.cells (old ++ arr ++ rest) el) ⟨some w.heap.size, 0, e, cap'⟩ rfl rfl rfl rfl rfl (by first | exact Nat.le_refl _ | exact Nat.le_succ _)
    (own_row (c := old ++ arr ++ rest) (fz := (0, 0)) (R := w.heap.size) (Phi.put_obj _ _ _) rfl rfl (by simp; omega) hmax hxy (heap_alloc_new w.drew _) (.inl (Nat.le_refl _)) (by
      simp only [Array.size_append, hox, hay, hr, Nat.zero_add]
      rw [← Nat.add_mul, ← Nat.add_mul]
      exact Nat.mul_le_mul_right _ (by omega)) (fun i m' q => by
      rw [List.flatten_append] at q
      simp only [Nat.zero_add]
      by_cases h : i < xs.flatten.length
      · rw [List.getElem?_append_left h] at q
        have h' : i < old.size := by have := ho.1; omega
        refine ⟨ho.2.1 i m' q, old.getD i undef, ?_, (ho.2.2 i m' q).mono hle⟩
        rw [Array.append_assoc, Array.getElem?_append_left h']
        simp [Array.getD_eq_getD_getElem?, Array.getElem?_eq_getElem h']
      · rw [List.getElem?_append_right (by omega)] at q
        have hlt := (List.getElem?_eq_some_iff.1 q).1
        have e1 := ho.1
        have e2 := ha.1
        refine ⟨ha.2.1 _ m' q, arr.getD (i - xs.flatten.length) undef, ?_, (ha.2.2 _ m' q).mono hle⟩
        have h3 : i - xs.flatten.length < arr.size := by omega
        have e3 : arr.getD (i - xs.flatten.length) undef = arr[i - xs.flatten.length] := by simp only [Array.getD_eq_getD_getElem?, Array.getElem?_eq_getElem h3, Option.getD_some]
        rw [Array.append_assoc, Array.getElem?_append_right (by omega), Array.getElem?_append_left (by omega), e1, e3, Array.getElem?_eq_getElem h3]))
  refine ⟨i1, s0.trans s1, ?_⟩
  have := Rel.vec (Φ := Φ.put l' ⟨some w.heap.size, 0, e, cap'⟩) (l := l') (lo := 0) (n := n + m) (cap := cap') (R := w.heap.size) (Phi.put_obj _ _ _) rfl (by simp) hc
  simpa using this

/-- An empty row without a block. -/
theorem virt_row {Φ : Phi} {w : World} {σ σ1 : St} (hi : Inv Φ w σ) (hless : ∀ l o, σ1 l = some o → σ l = some o) {l' : Nat} (hl' : Φ.obj l' = none) (el : TypeId) (e : Nat) (a : Option Addr) :
    Inv (Φ.put l' ⟨none, 0, e, 0⟩) w (σ1.set l' (.row el e [])) ∧ Step Φ σ w (Φ.put l' ⟨none, 0, e, 0⟩) (σ1.set l' (.row el e [])) w ∧ Rel (Φ.put l' ⟨none, 0, e, 0⟩) (.slice a 0 0) (.vec e l' 0 0) := by
  have hle := Phi.put_le (Φ := Φ) ⟨none, 0, e, 0⟩ hl'
  refine ⟨(hi.less hless).upd hle (fun _ => rfl) l' _ ⟨none, 0, e, 0⟩ (Phi.put_obj _ _ _) (fun m o q => St.set_cases q) (fun _ _ _ _ _ _ _ _ => ⟨rfl, by simp⟩) (fun _ _ _ => ⟨rfl, by simp⟩) (own_virt (Phi.put_obj _ _ _) rfl rfl rfl) (hi.fresh_put l' _),
    ⟨hle, rfl, rfl, rfl, Nat.le_refl _, Nat.le_refl _, fun _ _ _ => rfl, fun _ _ h => .inl h, fun m o q => ?_, fun R hR => ?_⟩, ?_⟩
  · rcases St.set_cases q with ⟨_, q1⟩ | ⟨rfl, _⟩
    · exact .inl ⟨_, hless _ _ q1⟩
    · exact .inr hl'
  · obtain ⟨m, o1, p1, s1, s2, s3⟩ := hR
    rcases St.set_cases s1 with ⟨hm, q1⟩ | ⟨rfl, _⟩
    · have : (Φ.put l' ⟨none, 0, e, 0⟩).obj m = Φ.obj m := by simp [Phi.put, hm]
      rw [this] at s2
      exact .inl ⟨m, o1, p1, hless _ _ q1, s2, s3⟩
    · rw [Phi.put_obj] at s2; cases s2
      cases s3
  · cases a with
    | none => exact .vecn (p := ⟨none, 0, e, 0⟩) (Phi.put_obj _ _ _) rfl rfl
    | some a => exact .vec0 (p := ⟨none, 0, e, 0⟩) a (Phi.put_obj _ _ _) rfl

theorem run_append_op {o : Oper} {a : Act} {s x : Operand} {t xt : TypeId} (ho : o.op = .call { callee := .builtin .append, args := #[s, x], argTypes := #[t, xt] }) (w : World) :
    (execOp a.eval o).run P w = ((Builtin.append_ #[t, xt] o.type #[a.eval s, a.eval x]).run P w).andThen fun v w' => .ok (.value v) w' := by
  unfold execOp
  simp only [ho, resolve, invoke, builtin, Sem.run_bind, Sem.run_pure, Result.andThen_ok, List.map_toArray, List.map_cons, List.map_nil]

theorem inv_eq {Φ : Phi} {w : World} {σ : St} (hi : Inv Φ w σ) : ∃ l, Φ.obj l = none ∧ σ l = none := by
  obtain ⟨n, hn⟩ := hi.fresh
  exact ⟨n, hn n (Nat.le_refl _), hi.obj_none (hn n (Nat.le_refl _))⟩

/-- append onto what has no room: nil, or a list that is known to be cut. -/
theorem sop_append_new {o : Oper} {f : FR} {σ : St} {k : MV → St → Prop} {s x : Operand} {t xt el : TypeId} (ho : o.op = .call { callee := .builtin .append, args := #[s, x], argTypes := #[t, xt] })
    (ht : (td P t).k = .slice el) (hxt : (td P xt).k.isSrc = true) (hz : (td P el).zok = true) {xs ys : List (List MV)} (hs : mval f s = .nils ∧ xs = [] ∨ mval f s = .lst (td P el).size xs true) (hy : msrc σ (td P el).size (mval f x) = some ys)
    (hne : xs = [] ∨ 0 < ys.length) (hm : xs.length + ys.length ≤ maxLen) (hb : (xs.length + ys.length) * (td P el).bytes ≤ 140737488355328)
    (hk : ∀ l, σ l = none → k (.vec (td P el).size l 0 (xs.length + ys.length)) (σ.set l (.row el (td P el).size (xs ++ ys)))) : sop P o f σ k := by
  intro Φ w a K Q' hi hr hK
  obtain ⟨l', hl', hsl⟩ := inv_eq hi
  obtain ⟨arr, harr, hrel, hyl⟩ := msrc_sound (P := P) hy hi (rel_mval hr x)
  have hsx : msrc σ (td P el).size (mval f s) = some xs := by
    rcases hs with ⟨h, rfl⟩ | h
    · rw [h]; rfl
    · rw [h]; simp [msrc]
  obtain ⟨old, hold, horel, hxl⟩ := msrc_sound (P := P) hsx hi (rel_mval hr s)
  obtain ⟨ad, cap, hv, hcap⟩ : ∃ ad cap, a.eval s = .slice ad xs.length cap ∧ cap = xs.length := by
    have rs := rel_mval hr s
    rcases hs with ⟨h, rfl⟩ | h
    · rw [h] at rs; exact ⟨none, 0, rs.inv_nils, rfl⟩
    · rw [h] at rs
      obtain ⟨ad, cap, he, _, _, ht', _⟩ := rs.inv_lst
      exact ⟨ad, cap, he, ht' rfl⟩
  subst hcap
  by_cases hpos : 0 < ys.length
  · obtain ⟨rest, hrest, hrun⟩ := run_append_grow' (P := P) (ty := o.type) (a := ad) ht hxt hz (harr w rfl).1 (fun w' h => (harr w' h).2) (fun w' h => by have := (hold w' h).2; rw [hv] at this; exact this) (by omega) hm hb
    obtain ⟨i1, s1, r1⟩ := grown_row (σ1 := σ) (el := el) hi (fun _ _ q => q) hl' hxl hyl rfl rfl horel hrel hrest (grownCap_ge w _ _ el) (grownCap_le_maxLen w _ _ el hm)
    refine wp_value (v := _) (w' := _) ?_ (hK _ _ _ _ _ r1 i1 s1 (hk l' hsl))
    rw [run_append_op ho, hv, hrun]
    rfl
  · have hx0 : xs = [] := hne.resolve_right hpos
    subst hx0
    have hy0 : ys = [] := List.eq_nil_of_length_eq_zero (by omega)
    subst hy0
    obtain ⟨i1, s1, r1⟩ := virt_row (σ1 := σ) hi (fun _ _ q => q) hl' el (td P el).size ad
    have harr0 : arr = #[] := by have := hrel.1; simp at this; exact this
    subst harr0
    refine wp_value (v := .slice ad 0 0) (w' := w) ?_ (hK _ _ _ _ _ r1 i1 s1 (hk l' hsl))
    rw [run_append_op ho, hv, run_append_room (P := P) ht hxt (by obtain ⟨z, _, _, _, hok, _⟩ := run_zero' hz w; exact hok) (harr w rfl).1 (harr w rfl).2 (by simp)]
    cases ad <;> rfl

/-- The row behind an append. -/
def appRow (xs : List (List MV)) (lo n : Nat) (ys : List (List MV)) : List (List MV) := ((xs.drop lo).take n ++ ys) ++ (xs.drop lo).drop (n + ys.length)

theorem appRow_end {xs ys : List (List MV)} {lo n : Nat} (h : lo + n = xs.length) : appRow xs lo n ys = xs.drop lo ++ ys := by
  have h1 : (xs.drop lo).take n = xs.drop lo := List.take_of_length_le (by rw [List.length_drop]; omega)
  have h2 : (xs.drop lo).drop (n + ys.length) = [] := List.drop_eq_nil_of_le (by rw [List.length_drop]; omega)
  unfold appRow
  rw [h1, h2, List.append_nil]

/-- append onto a row of one's own. -/
theorem sop_append_vec {o : Oper} {f : FR} {σ : St} {k : MV → St → Prop} {s x : Operand} {t xt el : TypeId} (ho : o.op = .call { callee := .builtin .append, args := #[s, x], argTypes := #[t, xt] })
    (ht : (td P t).k = .slice el) (hxt : (td P xt).k.isSrc = true) (hz : (td P el).zok = true) {l lo n : Nat} {tt : TypeId} {xs ys : List (List MV)} (hs : mval f s = .vec (td P el).size l lo n) (hsl : σ l = some (.row tt (td P el).size xs)) (htt : tt = el)
    (hend : lo + n ≤ xs.length) (hy : msrc σ (td P el).size (mval f x) = some ys) (hm : n + ys.length ≤ maxLen) (hb : (n + ys.length) * (td P el).bytes ≤ 140737488355328)
    (hk : ∀ l', σ l' = none → k (.vec (td P el).size l' 0 (n + ys.length)) ((σ.del l).set l' (.row el (td P el).size (appRow xs lo n ys)))) : sop P o f σ k := by
  subst htt
  intro Φ w a K Q' hi hr hK
  obtain ⟨l', hl', hsl'⟩ := inv_eq hi
  obtain ⟨z, _, _, _, hok, _⟩ := run_zero' hz w
  obtain ⟨arr, harr, hrel, hyl⟩ := msrc_sound (P := P) hy hi (rel_mval hr x)
  have hsx : msrc σ (td P tt).size (mval f s) = some ((xs.drop lo).take n) := by
    rw [hs]
    simp only [msrc, if_true, hsl]
    rw [if_pos (by omega)]
  obtain ⟨old, hold, horel, hxl⟩ := msrc_sound (P := P) hsx hi (rel_mval hr s)
  have hn : ((xs.drop lo).take n).length = n := by simp; omega
  have hsz := (hi.own l _ hsl).e_eq
  have rs := rel_mval hr s
  rw [hs] at rs
  obtain ⟨ad, cap, p, hv, hp, hpe, hcap, hncap, hR⟩ := rs.inv_vec
  have hless : ∀ m o, (σ.del l) m = some o → σ m = some o := fun m o q => by
    simp only [St.del] at q
    split at q
    · cases q
    · exact q
  by_cases hroom : n + ys.length ≤ cap
  · rcases hR with ⟨R, hb', rfl⟩ | hcap0
    · have hown := hi.own l _ hsl
      obtain ⟨p', hp', hpe', q1, q2, q3, q4⟩ := hown
      rw [hp] at hp'; cases hp'
      rw [hb'] at q4
      obtain ⟨c, fz, k1, k2, k3, k4⟩ := q4
      have hlt : R < w.heap.size := (Array.getElem?_eq_some_iff.1 k1).1
      have harrl : arr.toList.length = ys.length * (td P tt).size := by
        have := hrel.1
        rw [flatten_length ys hyl] at this
        simpa using this
      have hfit : p.bo + lo * p.e + n * (td P tt).size + arr.toList.length ≤ c.size := by
        rw [harrl, hpe]
        have : (lo + (n + ys.length)) * (td P tt).size ≤ p.C * (td P tt).size := Nat.mul_le_mul_right _ (by omega)
        rw [Nat.add_mul, Nat.add_mul] at this
        omega
      have hrun : (execOp a.eval o).run P w = .ok (.value (.slice (some ⟨R, p.bo + lo * p.e, none⟩) (n + ys.length) cap)) (wset w R (.cells (setAll c (p.bo + lo * p.e + n * (td P tt).size) arr.toList) tt fz)) := by
        rw [run_append_op ho, hv, run_append_room (P := P) ht hxt hok (harr w rfl).1 (harr w rfl).2 hroom]
        simp only [add_none]
        rw [run_storeCells' (P := P) _ 0 c w k1 k2 (by simpa using hfit) hrel.oneCells]
        rfl
      rw [hpe] at hfit hrun
      let p2 : Place := ⟨some R, p.bo + lo * (td P tt).size, (td P tt).size, cap⟩
      have hle := Phi.put_le (Φ := Φ) p2 hl'
      have hne : ∀ m o q, (σ.del l) m = some o → Φ.obj m = some q → ∀ R', q.blk = some R' → R' ≠ R := fun m o q hm hq R' hR' e => by
        have hml : m = l := hi.inj m l o _ q p R (hless m o hm) hsl hq hp (e ▸ hR') hb'
        subst hml
        simp [St.del] at hm
      -- an element that stays
      have stays : ∀ (i : Nat) (y : List MV) (j : Nat) (m : MV), (xs.drop lo)[i]? = some y → y[j]? = some m → ((i + 1) * (td P tt).size ≤ n * (td P tt).size ∨ (n + ys.length) * (td P tt).size ≤ i * (td P tt).size) →
          m.isCell = true ∧ ∃ v, (setAll c (p.bo + lo * (td P tt).size + n * (td P tt).size) arr.toList)[p.bo + lo * (td P tt).size + (i * (td P tt).size + j)]? = some v ∧ Rel (Φ.put l' p2) v m := by
        intro i y j m q hm hij
        rw [List.getElem?_drop] at q
        have hjl : j < (td P tt).size := by have := (List.getElem?_eq_some_iff.1 hm).1; have := hsz (lo + i) y q; omega
        rw [setAll_get? _ _ _ _ hfit, harrl, if_neg (by
          rcases hij with h | h
          · rw [Nat.add_mul, Nat.one_mul] at h; omega
          · rw [Nat.add_mul] at h; omega)]
        have := k4 (lo + i) y j m q hm
        rw [show p.bo + lo * (td P tt).size + (i * (td P tt).size + j) = p.bo + ((lo + i) * (td P tt).size + j) from by rw [Nat.add_mul]; omega]
        obtain ⟨t1, v, t2, t3⟩ := this
        exact ⟨t1, v, t2, t3.mono hle⟩
      have i1 : Inv (Φ.put l' p2) (wset w R (.cells (setAll c (p.bo + lo * (td P tt).size + n * (td P tt).size) arr.toList) tt fz)) ((σ.del l).set l' (.row tt (td P tt).size (appRow xs lo n ys))) := by
        refine (hi.less hless).upd hle (fun _ => rfl) l' _ p2 (Phi.put_obj _ _ _) (fun m o q => St.set_cases q) (fun m o' q R' hm hs' hq hR' => ?_) (fun b v h => ?_) ?_ (hi.fresh_put l' _)
        · rcases St.set_cases hs' with ⟨_, q1⟩ | ⟨q1, _⟩
          · have := hne m o' q q1 hq R' hR'
            exact ⟨wset_other this, by simp only [p2]; simpa using Ne.symm this⟩
          · exact absurd q1 hm
        · have := hi.apart l _ p R b v hsl hp hb' h
          exact ⟨wset_other this, by simp only [p2]; simpa using Ne.symm this⟩
        · have hsplit : ∀ (i : Nat) (y : List MV), (appRow xs lo n ys)[i]? = some y → (i < n ∧ (xs.drop lo)[i]? = some y) ∨ (n ≤ i ∧ i < n + ys.length ∧ ys[i - n]? = some y) ∨ (n + ys.length ≤ i ∧ (xs.drop lo)[i]? = some y) := by
            intro i y q
            unfold appRow at q
            have hl2 : ((xs.drop lo).take n ++ ys).length = n + ys.length := by rw [List.length_append, hn]
            by_cases h1 : i < n
            · rw [List.getElem?_append_left (by omega), List.getElem?_append_left (by omega), List.getElem?_take, if_pos h1] at q
              exact .inl ⟨h1, q⟩
            · by_cases h2 : i < n + ys.length
              · rw [List.getElem?_append_left (by omega), List.getElem?_append_right (by omega), hn] at q
                exact .inr (.inl ⟨by omega, h2, q⟩)
              · rw [List.getElem?_append_right (by omega), hl2, List.getElem?_drop] at q
                rw [show n + ys.length + (i - (n + ys.length)) = i from by omega] at q
                exact .inr (.inr ⟨by omega, q⟩)
          refine ⟨p2, Phi.put_obj _ _ _, rfl, ?_, by simp only [p2]; omega, fun i y q => ?_, ?_⟩
          · simp only [p2, appRow, List.length_append, hn, List.length_drop]; omega
          · rcases hsplit i y q with ⟨_, q⟩ | ⟨_, _, q⟩ | ⟨_, q⟩
            · rw [List.getElem?_drop] at q; exact hsz _ y q
            · exact hyl _ y q
            · rw [List.getElem?_drop] at q; exact hsz _ y q
          · refine ⟨_, fz, wset_same hlt, by simpa [FzOk, setAll_size] using k2, by
              rw [setAll_size]
              simp only [p2]
              have : (lo + cap) * (td P tt).size ≤ p.C * (td P tt).size := Nat.mul_le_mul_right _ (by omega)
              rw [Nat.add_mul] at this
              omega, fun i y j m q hm => ?_⟩
            simp only [p2]
            rcases hsplit i y q with ⟨h, q⟩ | ⟨h0, h, q⟩ | ⟨h, q⟩
            · exact stays i y j m q hm (.inl (Nat.mul_le_mul_right _ (by omega)))
            · have hjl : j < (td P tt).size := by have := (List.getElem?_eq_some_iff.1 hm).1; have := hyl _ y q; omega
              have hil := (List.getElem?_eq_some_iff.1 q).1
              have hfl := flatten_get ys (i - n) j y m hyl q hm
              have hlt2 := (List.getElem?_eq_some_iff.1 hfl).1
              have harr1 := hrel.1
              have e3 : (i - n) * (td P tt).size + j + n * (td P tt).size = i * (td P tt).size + j := by
                have : i * (td P tt).size = (i - n + n) * (td P tt).size := by congr 1; omega
                rw [this, Nat.add_mul]
                omega
              have e4 : (i - n) * (td P tt).size + j < ys.length * (td P tt).size := by
                have : (i - n + 1) * (td P tt).size ≤ ys.length * (td P tt).size := Nat.mul_le_mul_right _ (by omega)
                rw [Nat.add_mul, Nat.one_mul] at this
                omega
              rw [setAll_get? _ _ _ _ hfit, harrl, if_pos (by omega), show p.bo + lo * (td P tt).size + (i * (td P tt).size + j) - (p.bo + lo * (td P tt).size + n * (td P tt).size) = (i - n) * (td P tt).size + j from by omega, Array.getElem?_toList]
              refine ⟨hrel.2.1 _ m hfl, arr.getD ((i - n) * (td P tt).size + j) undef, ?_, (hrel.2.2 _ m hfl).mono hle⟩
              simp [Array.getD_eq_getD_getElem?, Array.getElem?_eq_getElem (show (i - n) * (td P tt).size + j < arr.size by omega)]
            · exact stays i y j m q hm (.inr (Nat.mul_le_mul_right _ (by omega)))
      have s1 : Step Φ σ w (Φ.put l' p2) ((σ.del l).set l' (.row tt (td P tt).size (appRow xs lo n ys))) (wset w R (.cells (setAll c (p.bo + lo * (td P tt).size + n * (td P tt).size) arr.toList) tt fz)) := by
        refine ⟨hle, rfl, rfl, rfl, Nat.le_refl _, Nat.le_of_eq wset_size.symm, fun k hk hno => wset_other (fun e => hno (e ▸ ⟨l, _, p, hsl, hp, hb'⟩)), fun b v h => .inl h, fun m o q => ?_, fun R' hR' => ?_⟩
        · rcases St.set_cases q with ⟨_, q1⟩ | ⟨rfl, _⟩
          · exact .inl ⟨_, hless _ _ q1⟩
          · exact .inr hl'
        · obtain ⟨m, o1, p1, t1, t2, t3⟩ := hR'
          rcases St.set_cases t1 with ⟨hm', q1⟩ | ⟨rfl, _⟩
          · have : (Φ.put l' p2).obj m = Φ.obj m := by simp [Phi.put, hm']
            rw [this] at t2
            exact .inl ⟨m, o1, p1, hless _ _ q1, t2, t3⟩
          · rw [Phi.put_obj] at t2; cases t2
            cases t3
            exact .inl ⟨l, _, p, hsl, hp, hb'⟩
      refine wp_value hrun (hK _ _ _ _ _ ?_ i1 s1 (hk l' hsl'))
      have := Rel.vec (Φ := Φ.put l' p2) (l := l') (lo := 0) (n := n + ys.length) (cap := cap) (R := R) (p := p2) (Phi.put_obj _ _ _) rfl (by simp [p2]) hroom
      simp only [p2, Nat.zero_mul, Nat.add_zero] at this ⊢
      exact this
    · subst hcap0
      have hn0 : n = 0 := by omega
      have hy0 : ys = [] := List.eq_nil_of_length_eq_zero (by omega)
      subst hy0
      obtain ⟨p', hp', hpe', q1, q2, q3, q4⟩ := hi.own l _ hsl
      rw [hp] at hp'; cases hp'
      obtain ⟨i1, s1, r1⟩ := virt_row (σ1 := σ.del l) hi hless hl' tt (td P tt).size ad
      have harr0 : arr = #[] := by have := hrel.1; simp at this; exact this
      subst harr0
      have hx0 : xs.drop lo = [] := List.eq_nil_of_length_eq_zero (by simp; omega)
      have hk' := hk l' hsl'
      simp only [appRow, hx0, hn0, List.length_nil, List.append_nil, Nat.add_zero, List.take_nil, List.drop_nil] at hk'
      refine wp_value (v := .slice ad 0 0) (w' := w) ?_ (hK _ _ _ _ _ r1 i1 s1 hk')
      rw [run_append_op ho, hv, run_append_room (P := P) ht hxt hok (harr w rfl).1 (harr w rfl).2 hroom, hn0]
      cases ad <;> rfl
  · obtain ⟨p', hp', hpe', q1, q2, q3, q4⟩ := hi.own l _ hsl
    rw [hp] at hp'; cases hp'
    have htail : appRow xs lo n ys = (xs.drop lo).take n ++ ys := by
      have h2 : (xs.drop lo).drop (n + ys.length) = [] := List.drop_eq_nil_of_le (by rw [List.length_drop]; omega)
      unfold appRow
      rw [h2, List.append_nil]
    rw [htail] at hk
    obtain ⟨rest, hrest, hrun⟩ := run_append_grow' (P := P) (ty := o.type) (a := ad) (n := n) (cap := cap) ht hxt hz (harr w rfl).1 (fun w' h => (harr w' h).2) (fun w' h => by have := (hold w' h).2; rw [hv, hn] at this; exact this) (by omega) hm hb
    obtain ⟨i1, s1, r1⟩ := grown_row (σ1 := σ.del l) (el := tt) hi hless hl' hxl hyl hn rfl horel hrel hrest (grownCap_ge w _ _ tt) (grownCap_le_maxLen w _ _ tt hm)
    refine wp_value (v := _) (w' := _) ?_ (hK _ _ _ _ _ r1 i1 s1 (hk l' hsl'))
    rw [run_append_op ho, hv, hrun]
    rfl

/-! ### Calls -/

theorem sop_call {o : Oper} {f : FR} {σ : St} {k : MV → St → Prop} {x : Operand} {args : Array Operand} {ts : Array TypeId} (ho : o.op = .call { callee := .value x, args := args, argTypes := ts }) {g : FuncId} {ms ns : List MV}
    (hx : mval f x = .fn (.func g) ms ns) (hk : MCalls P g (ms ++ args.toList.map (mval f) ++ ns) σ k) : sop P o f σ k := by
  intro Φ w a K Q' hi hr hK
  have rx := rel_mval hr x
  rw [hx] at rx
  obtain ⟨first, cap, he, r1, r2⟩ := rx.inv_fn
  obtain ⟨fn, hfn, hbody, hname⟩ := hk.1
  have hrels : Rels Φ (first ++ args.map a.eval ++ cap) (ms ++ args.toList.map (mval f) ++ ns) := by
    have r3 := rels_map hr args
    have app : ∀ {x y : Array Value} {m n : List MV}, Rels Φ x m → Rels Φ y n → Rels Φ (x ++ y) (m ++ n) := fun {x y m n} h1 h2 => by
      refine ⟨by simp [h1.1, h2.1], fun i q hq => ?_⟩
      have e1 := h1.1
      by_cases h : i < m.length
      · rw [List.getElem?_append_left h] at hq
        have := h1.2 i q hq
        simpa [Array.getD_eq_getD_getElem?, Array.getElem?_append_left (show i < x.size by omega)] using this
      · rw [List.getElem?_append_right (by omega)] at hq
        have := h2.2 _ q hq
        simpa [Array.getD_eq_getD_getElem?, Array.getElem?_append_right (show x.size ≤ i by omega), e1] using this
    exact app (app r1 r3) r2
  have hrun : (execOp a.eval o).run P w = .ok (.enter g (first ++ args.map a.eval ++ cap)) w := by
    unfold execOp
    simp only [ho, resolve, he, Deferred.ofValue, Sem.run_bind, Sem.run_pure, Result.andThen_ok, invoke, callFunc, run_program, hfn, hname, hbody, Bool.false_eq_true, if_false]
  unfold Oper.wp Oper.upon
  rw [hrun]
  refine (hk.2 Φ w _ hi hrels).mono ?_
  rintro e w' ⟨v, mv, σ', Φ', rfl, q1, q2, q3, q4⟩
  exact hK v mv σ' Φ' w' q1 q2 q3 q4

end
end Go.Proofs.Ytielcgplbnlgbaa
