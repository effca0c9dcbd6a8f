/- Parts of the proof, joined. Each part says what it proves, and under which conditions it does: those that its theorems name. -/
import Derived.Test.YtjljgahfkcdhfaaGreatDoorSnb
import Derived.Laws.BytesArg
import Derived.MapKept
set_option linter.unusedVariables false
set_option linter.unusedSimpArgs false
set_option maxHeartbeats 4000000
section
namespace Go.Proofs.YtjljgahfkcdhfaaGreatDoor
section
variable {P : Program}
theorem setAll_get? (l : List Value) (cs : Array Value) (off i : Nat) (h : off + l.length ≤ cs.size) : (setAll cs off l)[i]? = if off ≤ i ∧ i < off + l.length then l[i - off]? else cs[i]? := by
 by_cases hi : i < cs.size
 ·have e1 : (setAll cs off l)[i]? = some ((setAll cs off l).getD i undef) := by
   simp [Array.getD_eq_getD_getElem?, Array.getElem?_eq_getElem (show i < (setAll cs off l).size by rw [setAll_size]; exact hi)]
  rw [e1, setAll_getD _ _ _ _ _ h]
  split
  ·rename_i hc
   exact (getD_of (by omega)).symm
  ·simp [Array.getD_eq_getD_getElem?, Array.getElem?_eq_getElem hi]
 ·rw [if_neg (by omega), Array.getElem?_eq_none (by rw [setAll_size]; omega), Array.getElem?_eq_none (by omega)]
theorem laid_length {cs new : List MV} {off : Nat} (h : off + new.length ≤ cs.length) : (laid cs off new).length = cs.length := by simp [laid]; omega
theorem laid_get? {cs new : List MV} {off : Nat} (h : off + new.length ≤ cs.length) (i : Nat) : (laid cs off new)[i]? = if off ≤ i ∧ i < off + new.length then new[i - off]? else cs[i]? := by
 unfold laid
 by_cases h1 : i < off
 ·rw [if_neg (by omega), List.append_assoc, List.getElem?_append_left (by simp; omega), List.getElem?_take, if_pos h1]
 ·by_cases h2 : i < off + new.length
  ·rw [if_pos (by omega), List.append_assoc, List.getElem?_append_right (by simp; omega), List.getElem?_append_left (by simp; omega)]
   simp [show min off cs.length = off by omega]
  ·rw [if_neg (by omega), List.getElem?_append_right (by simp; omega), List.getElem?_drop]
   congr 1
   simp
   omega
theorem sop_store {o : Oper} {f : FR} {σ : St} {k : MV → St → Prop} {t : TypeId} {x y : Operand} (ho : o.op = .store t x y) {l i of : Nat} (hx : mval f x = .ptr l i of)
  {tt : TypeId} {e : Nat} {xs : List (List MV)} (hs : σ l = some (.row tt e xs)) (hok : (td P t).ok = true) (hi' : i < xs.length) (hc : ∀ c, c ∈ (mval f y).cells → c.isCell = true) (hlen : (mval f y).cells.length = (td P t).size)
  (h1 : of + (mval f y).cells.length ≤ (xs.getD i []).length) (hk : k .junk (σ.set l (.row tt e (xs.set i (laid (xs.getD i []) of (mval f y).cells))))) : sop P o f σ k := by
 intro Φ w a K Q' hi hr hK
 have rx := rel_mval hr x
 rw [hx] at rx
 obtain ⟨p, R, hp, hR, he⟩ := rx.inv_ptr
 have rc := rel_cells (rel_mval hr y) hc
 have hown := hi.own l _ hs
 have hown' := hown
 obtain ⟨p', hp', hpe, q1, q2, q3, q4⟩ := hown
 rw [hp] at hp'; cases hp'
 rw [hR] at q4
 obtain ⟨c, fz, k1, k2, k3, k4⟩ := q4
 have hxi : xs[i]? = some (xs.getD i []) := getD_of hi'
 have hxl := q3 i _ hxi
 have hvl : (a.eval y).cells.toList.length = (mval f y).cells.length := by simpa using rc.1
 have hfit : p.bo + i * p.e + of + (a.eval y).cells.toList.length ≤ c.size := by
  have : (i + 1) * e ≤ p.C * e := Nat.mul_le_mul_right _ (by omega)
  rw [Nat.add_mul, Nat.one_mul] at this
  rw [hpe]
  omega
 have hrun : (execOp a.eval o).run P w = .ok .skip (wset w R (.cells (setAll c (p.bo + i * p.e + of) (a.eval y).cells.toList) tt fz)) := by
  unfold execOp
  simp only [ho, he, Instr.storeAt, Sem.run_bind, run_sureAddr, Result.andThen_ok, storeVar, run_sizeOf' hok]
  rw [if_neg (by have := rc.1; omega)]
  rw [run_storeCells' (P := P) _ 0 c w k1 k2 (by simpa using hfit) rc.oneCells]
  rfl
 have hlt : R < w.heap.size := (Array.getElem?_eq_some_iff.1 k1).1
 obtain ⟨i1, s1⟩ := hi.turn (w' := wset w R (.cells (setAll c (p.bo + i * p.e + of) (a.eval y).cells.toList) tt fz)) l hs (.row tt e (xs.set i (laid (xs.getD i []) of (mval f y).cells))) hp hR wset_size (fun k hk => wset_other hk) rfl rfl rfl (Nat.le_refl _) (by
  refine ⟨p, hp, hpe, by simpa using q1, q2, fun i' x' hx' => ?_, ?_⟩
  ·rw [List.getElem?_set] at hx'
   split at hx'
   ·simp only [Option.some.injEq] at hx'
    subst hx'
    rw [laid_length h1, hxl]
   ·exact q3 i' x' hx'
  ·rw [hR]
   refine ⟨_, fz, wset_same hlt, by simpa [FzOk, setAll_size] using k2, by rw [setAll_size]; exact k3, fun i' x' j m hx' hm => ?_⟩
   rw [setAll_get? _ _ _ _ hfit, hvl, hpe]
   rw [List.getElem?_set] at hx'
   split at hx'
   ·rename_i hii
    subst hii
    simp only [Option.some.injEq] at hx'
    subst hx'
    rw [laid_get? h1] at hm
    split at hm
    ·rename_i hin
     rw [if_pos (by omega)]
     refine ⟨rc.2.1 _ m hm, (a.eval y).cells.getD (j - of) undef, ?_, rc.2.2 _ m hm⟩
     rw [show p.bo + (i * e + j) - (p.bo + i * e + of) = j - of from by omega, Array.getElem?_toList]
     have : j - of < (a.eval y).cells.size := by have := rc.1; omega
     simp [Array.getD_eq_getD_getElem?, Array.getElem?_eq_getElem this]
    ·rename_i hin
     rw [if_neg (by omega)]
     exact k4 i _ j m hxi hm
   ·rename_i hii
    have hjl : j < e := by
     have := (List.getElem?_eq_some_iff.1 hm).1
     have := q3 i' x' hx'
     omega
    rw [if_neg (by
     intro hcon
     have hle : of + (mval f y).cells.length ≤ e := by omega
     rcases Nat.lt_or_gt_of_ne hii with hlt' | hgt
     ·have : (i + 1) * e ≤ i' * e := Nat.mul_le_mul_right _ hlt'
      rw [Nat.add_mul, Nat.one_mul] at this
      omega
     ·have : (i' + 1) * e ≤ i * e := Nat.mul_le_mul_right _ hgt
      rw [Nat.add_mul, Nat.one_mul] at this
      omega)]
    exact k4 i' x' j m hx' hm)
 exact wp_unit hrun (hK undef .junk _ _ _ (.junk _) i1 s1 hk)
def TK.isSrc : TK → Bool
 | .slice _ | .str => true
 | _ => false
theorem und_src {t : TypeId} (h : (td P t).k.isSrc = true) : (∃ e, P.underlying t = some (.slice e)) ∨ P.underlying t = some .string := by
 cases hk : (td P t).k <;> simp [hk, TK.isSrc] at h
 ·exact .inr (und_str hk)
 ·exact .inl ⟨_, und_slice hk⟩
theorem run_append_room {t xt ty el : TypeId} {w : World} {a : Option Addr} {n cap m : Nat} {v : Value} {arr : Array Value} (ht : (td P t).k = .slice el) (hxt : (td P xt).k.isSrc = true) (hok : (td P el).ok = true)
  (hl : (Builtin.lenOf v).run P w = .ok m w) (hf : (Builtin.firstCells (td P el).size m v).run P w = .ok arr w) (hroom : n + m ≤ cap) :
  (Builtin.append_ #[t, xt] ty #[.slice a n cap, v]).run P w = ((match a with | some ad => storeCells (ad.add (n * (td P el).size)) arr.toList | none => pure ()).run P w).andThen fun _ w' => .ok (.slice a (n + m) cap) w' := by
 unfold Builtin.append_
 rcases und_src hxt with ⟨e, hd⟩ | hd <;>
 ·simp only [List.getElem?_toArray, List.getElem?_cons_zero, List.getElem?_cons_succ, Sem.run_bind, run_und' (und_slice ht), Result.andThen_ok, run_sizeOf' hok, run_und' hd, Sem.run_pure, Bool.false_eq_true, if_false, hl, if_pos hroom, Bool.not_false, if_true, hf]
  cases a <;> simp only [Sem.run_bind, Sem.run_pure, Result.andThen_ok]
theorem run_append_grow' {t xt ty el : TypeId} {w : World} {a : Option Addr} {n cap m : Nat} {v : Value} {arr old : Array Value} (ht : (td P t).k = .slice el) (hxt : (td P xt).k.isSrc = true) (hz : (td P el).zok = true)
  (hl : (Builtin.lenOf v).run P w = .ok m w) (hf : ∀ w' : World, w'.heap = w.heap → (Builtin.firstCells (td P el).size m v).run P w' = .ok arr w') (ho : ∀ w' : World, w'.heap = w.heap → (Builtin.firstCells (td P el).size n (.slice a n cap)).run P w' = .ok old w')
  (hroom : cap < n + m) (hm : n + m ≤ maxLen) (hb : (n + m) * (td P el).bytes ≤ 140737488355328) :
  ∃ rest : Array Value, rest.size = (grownCap w (n + m) cap el - (n + m)) * (td P el).size ∧ (Builtin.append_ #[t, xt] ty #[.slice a n cap, v]).run P w = .ok (.slice (some ⟨w.heap.size, 0, none⟩) (n + m) (grownCap w (n + m) cap el)) (w.drew.alloc (.cells (old ++ arr ++ rest) el)) := by
 obtain ⟨z, hz0, hz1, hz2, hok, hz3, _⟩ := run_zero' hz w.drew
 obtain ⟨i, d, hinf, hd, hsz, hby, hk⟩ := td_info hok
 refine ⟨Builtin.zeroCells z.cells (grownCap w (n + m) cap el - (n + m)), by rw [size_zeroCells, hz2], ?_⟩
 have hn : ¬ (n + m ≤ cap) := by omega
 have h48' : ¬ (Builtin.nextslicecap (n + m) cap * i.bytes > 2 ^ 48) := by
  rw [← hby]
  have := growslice_fits (show cap < n + m from hroom) hb
  omega
 have h63 : ¬ (((n + m : Nat) : Int) > IntKind.i64.max) := by
  simp only [IntKind.max, IntKind.signed, IntKind.bits, maxLen] at hm ⊢
  simp
  omega
 unfold Builtin.append_
 have e1 := ho w.drew rfl
 have e2 := hf w.drew rfl
 simp only [World.drew] at e1 e2 hz0
 rcases und_src hxt with ⟨e, hd2⟩ | hd2 <;>
 ·simp only [List.getElem?_toArray, List.getElem?_cons_zero, List.getElem?_cons_succ, Sem.run_bind, run_und' (und_slice ht), Result.andThen_ok, run_sizeOf' hok, run_und' hd2, Sem.run_pure, Bool.false_eq_true, if_false, hl, if_neg hn, Bool.not_false, if_true,
   h63, false_and, typeInfo, run_program, hinf, if_neg h48', run_choose, Question.forced, run_askRoom]
  simp only [e1, e2, hz0, Result.andThen_ok, newRow, Sem.run_bind, run_newObj, Sem.run_pure]
  rfl
theorem grown_row {Φ : Phi} {w : World} {σ σ1 : St} (hi : Inv Φ w σ) (hless : ∀ l o, σ1 l = some o → σ l = some o) {l' : Nat} (hl' : Φ.obj l' = none) {el : TypeId} {e n m cap' : Nat} {xs ys : List (List MV)} {old arr rest : Array Value}
  (hx : ∀ (i : Nat) (x : List MV), xs[i]? = some x → x.length = e) (hy : ∀ (i : Nat) (x : List MV), ys[i]? = some x → x.length = e) (hn : xs.length = n) (hm : ys.length = m) (ho : RelC Φ old xs.flatten) (ha : RelC Φ arr ys.flatten)
  (hr : rest.size = (cap' - (n + m)) * e) (hc : n + m ≤ cap') (hmax : cap' ≤ maxLen) :
  Inv (Φ.put l' ⟨some w.heap.size, 0, e, cap'⟩) (w.drew.alloc (.cells (old ++ arr ++ rest) el)) (σ1.set l' (.row el e (xs ++ ys))) ∧
  Step Φ σ w (Φ.put l' ⟨some w.heap.size, 0, e, cap'⟩) (σ1.set l' (.row el e (xs ++ ys))) (w.drew.alloc (.cells (old ++ arr ++ rest) el)) ∧
  Rel (Φ.put l' ⟨some w.heap.size, 0, e, cap'⟩) (.slice (some ⟨w.heap.size, 0, none⟩) (n + m) cap') (.vec e l' 0 (n + m)) := by
 have hle := Phi.put_le (Φ := Φ) ⟨some w.heap.size, 0, e, cap'⟩ hl'
 have hxy : ∀ (i : Nat) (x : List MV), (xs ++ ys)[i]? = some x → x.length = e := fun i x q => by
  by_cases h : i < xs.length
  ·rw [List.getElem?_append_left h] at q; exact hx i x q
  ·rw [List.getElem?_append_right (by omega)] at q; exact hy _ x q
 have hox : old.size = n * e := by rw [ho.1, flatten_length xs hx, hn]
 have hay : arr.size = m * e := by rw [ha.1, flatten_length ys hy, hm]
 have i0 := hi.less hless
 have s0 := Step.less w hless (Φ := Φ)
 obtain ⟨i1, s1⟩ := i0.alloc (w' := w.drew.alloc (.cells (old ++ arr ++ rest) el)) l' hl' (.row el e (xs ++ ys)) (.cells (old ++ arr ++ rest) el) ⟨some w.heap.size, 0, e, cap'⟩ rfl rfl rfl rfl rfl (by first | exact Nat.le_refl _ | exact drw_le (Nat.le_succ _))
  (own_row (c := old ++ arr ++ rest) (fz := (0, 0)) (R := w.heap.size) (Phi.put_obj _ _ _) rfl rfl (by simp; omega) hmax hxy (heap_alloc_new w.drew _) (.inl (Nat.le_refl _)) (by
   simp only [Array.size_append, hox, hay, hr, Nat.zero_add]
   rw [← Nat.add_mul, ← Nat.add_mul]
   exact Nat.mul_le_mul_right _ (by omega)) (fun i m' q => by
   rw [List.flatten_append] at q
   simp only [Nat.zero_add]
   by_cases h : i < xs.flatten.length
   ·rw [List.getElem?_append_left h] at q
    have h' : i < old.size := by have := ho.1; omega
    refine ⟨ho.2.1 i m' q, old.getD i undef, ?_, (ho.2.2 i m' q).mono hle⟩
    rw [Array.append_assoc, Array.getElem?_append_left h']
    simp [Array.getD_eq_getD_getElem?, Array.getElem?_eq_getElem h']
   ·rw [List.getElem?_append_right (by omega)] at q
    have hlt := (List.getElem?_eq_some_iff.1 q).1
    have e1 := ho.1
    have e2 := ha.1
    refine ⟨ha.2.1 _ m' q, arr.getD (i - xs.flatten.length) undef, ?_, (ha.2.2 _ m' q).mono hle⟩
    have h3 : i - xs.flatten.length < arr.size := by omega
    have e3 : arr.getD (i - xs.flatten.length) undef = arr[i - xs.flatten.length] := by simp only [Array.getD_eq_getD_getElem?, Array.getElem?_eq_getElem h3, Option.getD_some]
    rw [Array.append_assoc, Array.getElem?_append_right (by omega), Array.getElem?_append_left (by omega), e1, e3, Array.getElem?_eq_getElem h3]))
 refine ⟨i1, s0.trans s1, ?_⟩
 have := Rel.vec (Φ := Φ.put l' ⟨some w.heap.size, 0, e, cap'⟩) (l := l') (lo := 0) (n := n + m) (cap := cap') (R := w.heap.size) (Phi.put_obj _ _ _) rfl (by simp) hc
 simpa using this
theorem virt_row {Φ : Phi} {w : World} {σ σ1 : St} (hi : Inv Φ w σ) (hless : ∀ l o, σ1 l = some o → σ l = some o) {l' : Nat} (hl' : Φ.obj l' = none) (el : TypeId) (e : Nat) (a : Option Addr) :
  Inv (Φ.put l' ⟨none, 0, e, 0⟩) w (σ1.set l' (.row el e [])) ∧ Step Φ σ w (Φ.put l' ⟨none, 0, e, 0⟩) (σ1.set l' (.row el e [])) w ∧ Rel (Φ.put l' ⟨none, 0, e, 0⟩) (.slice a 0 0) (.vec e l' 0 0) := by
 have hle := Phi.put_le (Φ := Φ) ⟨none, 0, e, 0⟩ hl'
 refine ⟨(hi.less hless).upd hle (fun _ => rfl) l' _ ⟨none, 0, e, 0⟩ (Phi.put_obj _ _ _) (fun m o q => St.set_cases q) (fun _ _ _ _ _ _ _ _ => ⟨rfl, by simp⟩) (fun _ _ _ => ⟨rfl, by simp⟩) (own_virt (Phi.put_obj _ _ _) rfl rfl rfl) (hi.fresh_put l' _),
  ⟨hle, rfl, rfl, rfl, Nat.le_refl _, Nat.le_refl _, fun _ _ _ => rfl, fun _ _ h => .inl h, fun m o q => ?_, fun R hR => ?_⟩, ?_⟩
 ·rcases St.set_cases q with ⟨_, q1⟩ | ⟨rfl, _⟩
  ·exact .inl ⟨_, hless _ _ q1⟩
  ·exact .inr hl'
 ·obtain ⟨m, o1, p1, s1, s2, s3⟩ := hR
  rcases St.set_cases s1 with ⟨hm, q1⟩ | ⟨rfl, _⟩
  ·have : (Φ.put l' ⟨none, 0, e, 0⟩).obj m = Φ.obj m := by simp [Phi.put, hm]
   rw [this] at s2
   exact .inl ⟨m, o1, p1, hless _ _ q1, s2, s3⟩
  ·rw [Phi.put_obj] at s2; cases s2
   cases s3
 ·cases a with
  | none => exact .vecn (p := ⟨none, 0, e, 0⟩) (Phi.put_obj _ _ _) rfl rfl
  | some a => exact .vec0 (p := ⟨none, 0, e, 0⟩) a (Phi.put_obj _ _ _) rfl
theorem run_append_op {o : Oper} {a : Act} {s x : Operand} {t xt : TypeId} (ho : o.op = .call { callee := .builtin .append, args := #[s, x], argTypes := #[t, xt] }) (w : World) :
  (execOp a.eval o).run P w = ((Builtin.append_ #[t, xt] o.type #[a.eval s, a.eval x]).run P w).andThen fun v w' => .ok (.value v) w' := by
 unfold execOp
 simp only [ho, resolve, invoke, builtin, Sem.run_bind, Sem.run_pure, Result.andThen_ok, List.map_toArray, List.map_cons, List.map_nil]
theorem inv_eq {Φ : Phi} {w : World} {σ : St} (hi : Inv Φ w σ) : ∃ l, Φ.obj l = none ∧ σ l = none := by
 obtain ⟨n, hn⟩ := hi.fresh.1.1
 exact ⟨n, hn n (Nat.le_refl _), hi.obj_none (hn n (Nat.le_refl _))⟩
theorem sop_append_new {o : Oper} {f : FR} {σ : St} {k : MV → St → Prop} {s x : Operand} {t xt el : TypeId} (ho : o.op = .call { callee := .builtin .append, args := #[s, x], argTypes := #[t, xt] })
  (ht : (td P t).k = .slice el) (hxt : (td P xt).k.isSrc = true) (hz : (td P el).zok = true) {xs ys : List (List MV)} (hs : mval f s = .nils ∧ xs = [] ∨ mval f s = .lst (td P el).size xs true) (hy : msrc σ (td P el).size (mval f x) = some ys)
  (hne : xs = [] ∨ 0 < ys.length) (hm : xs.length + ys.length ≤ maxLen) (hb : (xs.length + ys.length) * (td P el).bytes ≤ 140737488355328)
  (hk : ∀ l, σ l = none → k (.vec (td P el).size l 0 (xs.length + ys.length)) (σ.set l (.row el (td P el).size (xs ++ ys)))) : sop P o f σ k := by
 intro Φ w a K Q' hi hr hK
 obtain ⟨l', hl', hsl⟩ := inv_eq hi
 obtain ⟨arr, harr, hrel, hyl⟩ := msrc_sound (P := P) hy hi (rel_mval hr x)
 have hsx : msrc σ (td P el).size (mval f s) = some xs := by
  rcases hs with ⟨h, rfl⟩ | h
  ·rw [h]; rfl
  ·rw [h]; simp [msrc]
 obtain ⟨old, hold, horel, hxl⟩ := msrc_sound (P := P) hsx hi (rel_mval hr s)
 obtain ⟨ad, cap, hv, hcap⟩ : ∃ ad cap, a.eval s = .slice ad xs.length cap ∧ cap = xs.length := by
  have rs := rel_mval hr s
  rcases hs with ⟨h, rfl⟩ | h
  ·rw [h] at rs; exact ⟨none, 0, rs.inv_nils, rfl⟩
  ·rw [h] at rs
   obtain ⟨ad, cap, he, _, _, ht', _⟩ := rs.inv_lst
   exact ⟨ad, cap, he, ht' rfl⟩
 subst hcap
 by_cases hpos : 0 < ys.length
 ·obtain ⟨rest, hrest, hrun⟩ := run_append_grow' (P := P) (ty := o.type) (a := ad) ht hxt hz (harr w rfl).1 (fun w' h => (harr w' h).2) (fun w' h => by have := (hold w' h).2; rw [hv] at this; exact this) (by omega) hm hb
  obtain ⟨i1, s1, r1⟩ := grown_row (σ1 := σ) (el := el) hi (fun _ _ q => q) hl' hxl hyl rfl rfl horel hrel hrest (grownCap_ge w _ _ el) (grownCap_le_maxLen w _ _ el hm)
  refine wp_value (v := _) (w' := _) ?_ (hK _ _ _ _ _ r1 i1 s1 (hk l' hsl))
  rw [run_append_op ho, hv, hrun]
  rfl
 ·have hx0 : xs = [] := hne.resolve_right hpos
  subst hx0
  have hy0 : ys = [] := List.eq_nil_of_length_eq_zero (by omega)
  subst hy0
  obtain ⟨i1, s1, r1⟩ := virt_row (σ1 := σ) hi (fun _ _ q => q) hl' el (td P el).size ad
  have harr0 : arr = #[] := by have := hrel.1; simp at this; exact this
  subst harr0
  refine wp_value (v := .slice ad 0 0) (w' := w) ?_ (hK _ _ _ _ _ r1 i1 s1 (hk l' hsl))
  rw [run_append_op ho, hv, run_append_room (P := P) ht hxt (by obtain ⟨z, _, _, _, hok, _⟩ := run_zero' hz w; exact hok) (harr w rfl).1 (harr w rfl).2 (by simp)]
  cases ad <;> rfl
def appRow (xs : List (List MV)) (lo n : Nat) (ys : List (List MV)) : List (List MV) := ((xs.drop lo).take n ++ ys) ++ (xs.drop lo).drop (n + ys.length)
theorem appRow_end {xs ys : List (List MV)} {lo n : Nat} (h : lo + n = xs.length) : appRow xs lo n ys = xs.drop lo ++ ys := by
 have h1 : (xs.drop lo).take n = xs.drop lo := List.take_of_length_le (by rw [List.length_drop]; omega)
 have h2 : (xs.drop lo).drop (n + ys.length) = [] := List.drop_eq_nil_of_le (by rw [List.length_drop]; omega)
 unfold appRow
 rw [h1, h2, List.append_nil]
theorem sop_append_vec {o : Oper} {f : FR} {σ : St} {k : MV → St → Prop} {s x : Operand} {t xt el : TypeId} (ho : o.op = .call { callee := .builtin .append, args := #[s, x], argTypes := #[t, xt] })
  (ht : (td P t).k = .slice el) (hxt : (td P xt).k.isSrc = true) (hz : (td P el).zok = true) {l lo n : Nat} {tt : TypeId} {xs ys : List (List MV)} (hs : mval f s = .vec (td P el).size l lo n) (hsl : σ l = some (.row tt (td P el).size xs)) (htt : tt = el) (hlo : lo = 0)
  (hend : lo + n ≤ xs.length) (hy : msrc σ (td P el).size (mval f x) = some ys) (hm : n + ys.length ≤ maxLen) (hb : (n + ys.length) * (td P el).bytes ≤ 140737488355328)
  (hk : ∀ l', σ l' = none → k (.vec (td P el).size l' 0 (n + ys.length)) ((σ.del l).set l' (.row el (td P el).size (appRow xs lo n ys)))) : sop P o f σ k := by
 subst htt
 intro Φ w a K Q' hi hr hK
 obtain ⟨l', hl', hsl'⟩ := inv_eq hi
 obtain ⟨z, _, _, _, hok, _⟩ := run_zero' hz w
 obtain ⟨arr, harr, hrel, hyl⟩ := msrc_sound (P := P) hy hi (rel_mval hr x)
 have hsx : msrc σ (td P tt).size (mval f s) = some ((xs.drop lo).take n) := by
  rw [hs]
  simp only [msrc, if_true, hsl]
  rw [if_pos (by omega)]
 obtain ⟨old, hold, horel, hxl⟩ := msrc_sound (P := P) hsx hi (rel_mval hr s)
 have hn : ((xs.drop lo).take n).length = n := by simp; omega
 have hsz := (hi.own l _ hsl).e_eq
 have rs := rel_mval hr s
 rw [hs] at rs
 obtain ⟨ad, cap, p, hv, hp, hpe, hcap, hncap, hR⟩ := rs.inv_vec
 have hless : ∀ m o, (σ.del l) m = some o → σ m = some o := fun m o q => by
  simp only [St.del] at q
  split at q
  ·cases q
  ·exact q
 by_cases hroom : n + ys.length ≤ cap
 ·rcases hR with ⟨R, hb', rfl⟩ | hcap0
  ·have hown := hi.own l _ hsl
   obtain ⟨p', hp', hpe', q1, q2, q3, q4⟩ := hown
   rw [hp] at hp'; cases hp'
   rw [hb'] at q4
   obtain ⟨c, fz, k1, k2, k3, k4⟩ := q4
   have hlt : R < w.heap.size := (Array.getElem?_eq_some_iff.1 k1).1
   have harrl : arr.toList.length = ys.length * (td P tt).size := by
    have := hrel.1
    rw [flatten_length ys hyl] at this
    simpa using this
   have hfit : p.bo + lo * p.e + n * (td P tt).size + arr.toList.length ≤ c.size := by
    rw [harrl, hpe]
    have : (lo + (n + ys.length)) * (td P tt).size ≤ p.C * (td P tt).size := Nat.mul_le_mul_right _ (by omega)
    rw [Nat.add_mul, Nat.add_mul] at this
    omega
   have hrun : (execOp a.eval o).run P w = .ok (.value (.slice (some ⟨R, p.bo + lo * p.e, none⟩) (n + ys.length) cap)) (wset w R (.cells (setAll c (p.bo + lo * p.e + n * (td P tt).size) arr.toList) tt fz)) := by
    rw [run_append_op ho, hv, run_append_room (P := P) ht hxt hok (harr w rfl).1 (harr w rfl).2 hroom]
    simp only [add_none]
    rw [run_storeCells' (P := P) _ 0 c w k1 k2 (by simpa using hfit) hrel.oneCells]
    rfl
   rw [hpe] at hfit hrun
   let p2 : Place := ⟨some R, p.bo + lo * (td P tt).size, (td P tt).size, cap⟩
   have hle := Phi.put_le (Φ := Φ) p2 hl'
   have hne : ∀ m o q, (σ.del l) m = some o → Φ.obj m = some q → ∀ R', q.blk = some R' → R' ≠ R := fun m o q hm hq R' hR' e => by
    have hml : m = l := hi.inj m l o _ q p R (hless m o hm) hsl hq hp (e ▸ hR') hb'
    subst hml
    simp [St.del] at hm
   -- an element that stays
   have stays : ∀ (i : Nat) (y : List MV) (j : Nat) (m : MV), (xs.drop lo)[i]? = some y → y[j]? = some m → ((i + 1) * (td P tt).size ≤ n * (td P tt).size ∨ (n + ys.length) * (td P tt).size ≤ i * (td P tt).size) →
     m.isCell = true ∧ ∃ v, (setAll c (p.bo + lo * (td P tt).size + n * (td P tt).size) arr.toList)[p.bo + lo * (td P tt).size + (i * (td P tt).size + j)]? = some v ∧ Rel (Φ.put l' p2) v m := by
    intro i y j m q hm hij
    rw [List.getElem?_drop] at q
    have hjl : j < (td P tt).size := by have := (List.getElem?_eq_some_iff.1 hm).1; have := hsz (lo + i) y q; omega
    rw [setAll_get? _ _ _ _ hfit, harrl, if_neg (by
     rcases hij with h | h
     ·rw [Nat.add_mul, Nat.one_mul] at h; omega
     ·rw [Nat.add_mul] at h; omega)]
    have := k4 (lo + i) y j m q hm
    rw [show p.bo + lo * (td P tt).size + (i * (td P tt).size + j) = p.bo + ((lo + i) * (td P tt).size + j) from by rw [Nat.add_mul]; omega]
    obtain ⟨t1, v, t2, t3⟩ := this
    exact ⟨t1, v, t2, t3.mono hle⟩
   have i1 : Inv (Φ.put l' p2) (wset w R (.cells (setAll c (p.bo + lo * (td P tt).size + n * (td P tt).size) arr.toList) tt fz)) ((σ.del l).set l' (.row tt (td P tt).size (appRow xs lo n ys))) := by
    refine (hi.less hless).upd hle (fun _ => rfl) l' _ p2 (Phi.put_obj _ _ _) (fun m o q => St.set_cases q) (fun m o' q R' hm hs' hq hR' => ?_) (fun b v h => ?_) ?_ (hi.fresh_put l' _ (by show p.bo + lo * _ = 0; rw [hi.fresh.1.2 l p hp, hlo]; simp))
    ·rcases St.set_cases hs' with ⟨_, q1⟩ | ⟨q1, _⟩
     ·have := hne m o' q q1 hq R' hR'
      exact ⟨wset_other this, by simp only [p2]; simpa using Ne.symm this⟩
     ·exact absurd q1 hm
    ·have := hi.apart l _ p R b v hsl hp hb' h
     exact ⟨wset_other this, by simp only [p2]; simpa using Ne.symm this⟩
    ·have hsplit : ∀ (i : Nat) (y : List MV), (appRow xs lo n ys)[i]? = some y → (i < n ∧ (xs.drop lo)[i]? = some y) ∨ (n ≤ i ∧ i < n + ys.length ∧ ys[i - n]? = some y) ∨ (n + ys.length ≤ i ∧ (xs.drop lo)[i]? = some y) := by
      intro i y q
      unfold appRow at q
      have hl2 : ((xs.drop lo).take n ++ ys).length = n + ys.length := by rw [List.length_append, hn]
      by_cases h1 : i < n
      ·rw [List.getElem?_append_left (by omega), List.getElem?_append_left (by omega), List.getElem?_take, if_pos h1] at q
       exact .inl ⟨h1, q⟩
      ·by_cases h2 : i < n + ys.length
       ·rw [List.getElem?_append_left (by omega), List.getElem?_append_right (by omega), hn] at q
        exact .inr (.inl ⟨by omega, h2, q⟩)
       ·rw [List.getElem?_append_right (by omega), hl2, List.getElem?_drop] at q
        rw [show n + ys.length + (i - (n + ys.length)) = i from by omega] at q
        exact .inr (.inr ⟨by omega, q⟩)
     refine ⟨p2, Phi.put_obj _ _ _, rfl, ?_, by simp only [p2]; omega, fun i y q => ?_, ?_⟩
     ·simp only [p2, appRow, List.length_append, hn, List.length_drop]; omega
     ·rcases hsplit i y q with ⟨_, q⟩ | ⟨_, _, q⟩ | ⟨_, q⟩
      ·rw [List.getElem?_drop] at q; exact hsz _ y q
      ·exact hyl _ y q
      ·rw [List.getElem?_drop] at q; exact hsz _ y q
     ·refine ⟨_, fz, wset_same hlt, by simpa [FzOk, setAll_size] using k2, by
       rw [setAll_size]
       simp only [p2]
       have : (lo + cap) * (td P tt).size ≤ p.C * (td P tt).size := Nat.mul_le_mul_right _ (by omega)
       rw [Nat.add_mul] at this
       omega, fun i y j m q hm => ?_⟩
      simp only [p2]
      rcases hsplit i y q with ⟨h, q⟩ | ⟨h0, h, q⟩ | ⟨h, q⟩
      ·exact stays i y j m q hm (.inl (Nat.mul_le_mul_right _ (by omega)))
      ·have hjl : j < (td P tt).size := by have := (List.getElem?_eq_some_iff.1 hm).1; have := hyl _ y q; omega
       have hil := (List.getElem?_eq_some_iff.1 q).1
       have hfl := flatten_get ys (i - n) j y m hyl q hm
       have hlt2 := (List.getElem?_eq_some_iff.1 hfl).1
       have harr1 := hrel.1
       have e3 : (i - n) * (td P tt).size + j + n * (td P tt).size = i * (td P tt).size + j := by
        have : i * (td P tt).size = (i - n + n) * (td P tt).size := by congr 1; omega
        rw [this, Nat.add_mul]
        omega
       have e4 : (i - n) * (td P tt).size + j < ys.length * (td P tt).size := by
        have : (i - n + 1) * (td P tt).size ≤ ys.length * (td P tt).size := Nat.mul_le_mul_right _ (by omega)
        rw [Nat.add_mul, Nat.one_mul] at this
        omega
       rw [setAll_get? _ _ _ _ hfit, harrl, if_pos (by omega), show p.bo + lo * (td P tt).size + (i * (td P tt).size + j) - (p.bo + lo * (td P tt).size + n * (td P tt).size) = (i - n) * (td P tt).size + j from by omega, Array.getElem?_toList]
       refine ⟨hrel.2.1 _ m hfl, arr.getD ((i - n) * (td P tt).size + j) undef, ?_, (hrel.2.2 _ m hfl).mono hle⟩
       simp [Array.getD_eq_getD_getElem?, Array.getElem?_eq_getElem (show (i - n) * (td P tt).size + j < arr.size by omega)]
      ·exact stays i y j m q hm (.inr (Nat.mul_le_mul_right _ (by omega)))
   have s1 : Step Φ σ w (Φ.put l' p2) ((σ.del l).set l' (.row tt (td P tt).size (appRow xs lo n ys))) (wset w R (.cells (setAll c (p.bo + lo * (td P tt).size + n * (td P tt).size) arr.toList) tt fz)) := by
    refine ⟨hle, rfl, rfl, rfl, Nat.le_refl _, Nat.le_of_eq wset_size.symm, fun k hk hno => wset_other (fun e => hno (e ▸ ⟨l, _, p, hsl, hp, hb'⟩)), fun b v h => .inl h, fun m o q => ?_, fun R' hR' => ?_⟩
    ·rcases St.set_cases q with ⟨_, q1⟩ | ⟨rfl, _⟩
     ·exact .inl ⟨_, hless _ _ q1⟩
     ·exact .inr hl'
    ·obtain ⟨m, o1, p1, t1, t2, t3⟩ := hR'
     rcases St.set_cases t1 with ⟨hm', q1⟩ | ⟨rfl, _⟩
     ·have : (Φ.put l' p2).obj m = Φ.obj m := by simp [Phi.put, hm']
      rw [this] at t2
      exact .inl ⟨m, o1, p1, hless _ _ q1, t2, t3⟩
     ·rw [Phi.put_obj] at t2; cases t2
      cases t3
      exact .inl ⟨l, _, p, hsl, hp, hb'⟩
   refine wp_value hrun (hK _ _ _ _ _ ?_ i1 s1 (hk l' hsl'))
   have := Rel.vec (Φ := Φ.put l' p2) (l := l') (lo := 0) (n := n + ys.length) (cap := cap) (R := R) (p := p2) (Phi.put_obj _ _ _) rfl (by simp [p2]) hroom
   simp only [p2, Nat.zero_mul, Nat.add_zero] at this ⊢
   exact this
  ·subst hcap0
   have hn0 : n = 0 := by omega
   have hy0 : ys = [] := List.eq_nil_of_length_eq_zero (by omega)
   subst hy0
   obtain ⟨p', hp', hpe', q1, q2, q3, q4⟩ := hi.own l _ hsl
   rw [hp] at hp'; cases hp'
   obtain ⟨i1, s1, r1⟩ := virt_row (σ1 := σ.del l) hi hless hl' tt (td P tt).size ad
   have harr0 : arr = #[] := by have := hrel.1; simp at this; exact this
   subst harr0
   have hx0 : xs.drop lo = [] := List.eq_nil_of_length_eq_zero (by simp; omega)
   have hk' := hk l' hsl'
   simp only [appRow, hx0, hn0, List.length_nil, List.append_nil, Nat.add_zero, List.take_nil, List.drop_nil] at hk'
   refine wp_value (v := .slice ad 0 0) (w' := w) ?_ (hK _ _ _ _ _ r1 i1 s1 hk')
   rw [run_append_op ho, hv, run_append_room (P := P) ht hxt hok (harr w rfl).1 (harr w rfl).2 hroom, hn0]
   cases ad <;> rfl
 ·obtain ⟨p', hp', hpe', q1, q2, q3, q4⟩ := hi.own l _ hsl
  rw [hp] at hp'; cases hp'
  have htail : appRow xs lo n ys = (xs.drop lo).take n ++ ys := by
   have h2 : (xs.drop lo).drop (n + ys.length) = [] := List.drop_eq_nil_of_le (by rw [List.length_drop]; omega)
   unfold appRow
   rw [h2, List.append_nil]
  rw [htail] at hk
  obtain ⟨rest, hrest, hrun⟩ := run_append_grow' (P := P) (ty := o.type) (a := ad) (n := n) (cap := cap) ht hxt hz (harr w rfl).1 (fun w' h => (harr w' h).2) (fun w' h => by have := (hold w' h).2; rw [hv, hn] at this; exact this) (by omega) hm hb
  obtain ⟨i1, s1, r1⟩ := grown_row (σ1 := σ.del l) (el := tt) hi hless hl' hxl hyl hn rfl horel hrel hrest (grownCap_ge w _ _ tt) (grownCap_le_maxLen w _ _ tt hm)
  refine wp_value (v := _) (w' := _) ?_ (hK _ _ _ _ _ r1 i1 s1 (hk l' hsl'))
  rw [run_append_op ho, hv, hrun]
  rfl
theorem sop_call {o : Oper} {f : FR} {σ : St} {k : MV → St → Prop} {x : Operand} {args : Array Operand} {ts : Array TypeId} (ho : o.op = .call { callee := .value x, args := args, argTypes := ts }) {g : FuncId} {ms ns : List MV}
  (hx : mval f x = .fn (.func g) ms ns) (hk : MCalls P g (ms ++ args.toList.map (mval f) ++ ns) σ k) : sop P o f σ k := by
 intro Φ w a K Q' hi hr hK
 have rx := rel_mval hr x
 rw [hx] at rx
 obtain ⟨first, cap, he, r1, r2⟩ := rx.inv_fn
 obtain ⟨fn, hfn, hbody, hname⟩ := hk.1
 have hrels : Rels Φ (first ++ args.map a.eval ++ cap) (ms ++ args.toList.map (mval f) ++ ns) := by
  have r3 := rels_map hr args
  have app : ∀ {x y : Array Value} {m n : List MV}, Rels Φ x m → Rels Φ y n → Rels Φ (x ++ y) (m ++ n) := fun {x y m n} h1 h2 => by
   refine ⟨by simp [h1.1, h2.1], fun i q hq => ?_⟩
   have e1 := h1.1
   by_cases h : i < m.length
   ·rw [List.getElem?_append_left h] at hq
    have := h1.2 i q hq
    simpa [Array.getD_eq_getD_getElem?, Array.getElem?_append_left (show i < x.size by omega)] using this
   ·rw [List.getElem?_append_right (by omega)] at hq
    have := h2.2 _ q hq
    simpa [Array.getD_eq_getD_getElem?, Array.getElem?_append_right (show x.size ≤ i by omega), e1] using this
  exact app (app r1 r3) r2
 have hrun : (execOp a.eval o).run P w = .ok (.enter g (first ++ args.map a.eval ++ cap)) w := by
  unfold execOp
  simp only [ho, resolve, he, Deferred.ofValue, Sem.run_bind, Sem.run_pure, Result.andThen_ok, invoke, callFunc, run_program, hfn, hname, hbody, Bool.false_eq_true, if_false]
 unfold Oper.wp Oper.upon
 rw [hrun]
 refine (hk.2 Φ w _ hi hrels).mono ?_
 rintro e w' ⟨v, mv, σ', Φ', rfl, q1, q2, q3, q4⟩
 exact hK v mv σ' Φ' w' q1 q2 q3 q4
end
end Go.Proofs.YtjljgahfkcdhfaaGreatDoor
end

section
namespace Go.Proofs.YtjljgahfkcdhfaaGreatDoor
section
variable {P : Program}
theorem new_row {Φ : Phi} {w w' : World} {σ : St} (hi : Inv Φ w σ) {l' : Nat} (hl' : Φ.obj l' = none) {el : TypeId} {e n C : Nat} {xs : List (List MV)} {c : Array Value} {fz : Nat × Nat}
  (hx : ∀ (i : Nat) (x : List MV), xs[i]? = some x → x.length = e) (hn : xs.length = n) (hC : n ≤ C) (hmax : C ≤ maxLen) (hh : w'.heap = w.heap.push (.cells c el fz)) (h1 : w'.os = w.os) (h2 : w'.tape = w.tape) (h3 : w'.output = w.output) (h4 : drw w ≤ drw w')
  (hf : FzOk c fz) (hsz : C * e ≤ c.size) (hc : ∀ (i : Nat) m, xs.flatten[i]? = some m → m.isCell = true ∧ ∃ v, c[i]? = some v ∧ Rel Φ v m) :
  Inv (Φ.put l' ⟨some w.heap.size, 0, e, C⟩) w' (σ.set l' (.row el e xs)) ∧ Step Φ σ w (Φ.put l' ⟨some w.heap.size, 0, e, C⟩) (σ.set l' (.row el e xs)) w' ∧
  Rel (Φ.put l' ⟨some w.heap.size, 0, e, C⟩) (.slice (some ⟨w.heap.size, 0, none⟩) n C) (.vec e l' 0 n) := by
 have hle := Phi.put_le (Φ := Φ) ⟨some w.heap.size, 0, e, C⟩ hl'
 have hnew : w'.heap[w.heap.size]? = some (.cells c el fz) := by rw [hh]; simp
 obtain ⟨i1, s1⟩ := hi.alloc (w' := w') l' hl' (.row el e xs) (.cells c el fz) ⟨some w.heap.size, 0, e, C⟩ rfl hh h1 h2 h3 h4
  (own_row (c := c) (fz := fz) (R := w.heap.size) (Phi.put_obj _ _ _) rfl rfl (by simp; omega) hmax hx hnew hf (by simpa using hsz) (fun i m q => by
   obtain ⟨q1, v, q2, q3⟩ := hc i m q
   exact ⟨q1, v, by simpa using q2, q3.mono hle⟩))
 refine ⟨i1, s1, ?_⟩
 have := Rel.vec (Φ := Φ.put l' ⟨some w.heap.size, 0, e, C⟩) (l := l') (lo := 0) (n := n) (cap := C) (R := w.heap.size) (Phi.put_obj _ _ _) rfl (by simp) hC
 simpa using this
theorem setAll_append (l1 l2 : List Value) : ∀ (cs : Array Value) (off : Nat), setAll cs off (l1 ++ l2) = setAll (setAll cs off l1) (off + l1.length) l2 := by
 induction l1 with
 | nil => intro cs off; rfl
 | cons c r ih =>
  intro cs off
  simp only [List.cons_append, setAll, ih, List.length_cons]
  congr 1
  omega
theorem fill_all {e : Nat} : ∀ (vs : List Value) (i0 : Nat) (cs : Array Value), (∀ v, v ∈ vs → v.cells.size = e) → i0 * e + vs.length * e ≤ cs.size →
  Instr.fill (fun i => some (i * e, e)) cs ((vs.zipIdx i0).map fun p => (p.2, p.1)) = some (setAll cs (i0 * e) (vs.flatMap fun v => v.cells.toList)) := by
 intro vs
 induction vs with
 | nil => intro i0 cs _ _; rfl
 | cons v vs ih =>
  intro i0 cs h hl
  have hv := h v (by simp)
  simp only [List.length_cons, Nat.add_mul, Nat.one_mul] at hl
  simp only [List.zipIdx_cons, List.map_cons, Instr.fill]
  rw [if_neg (by simp only [hv, ne_eq, not_true_eq_false, decide_false, Bool.false_or, decide_eq_true_eq]; omega)]
  rw [← Array.foldl_toList, Array.toList_zipIdx]
  have e1 := foldl_setAll v.cells.toList 0 cs (i0 * e)
  simp only [Nat.add_zero] at e1
  rw [e1, ih (i0 + 1) _ (fun x hx => h x (by simp [hx])) (by rw [setAll_size, Nat.add_mul, Nat.one_mul]; omega)]
  rw [List.flatMap_cons, setAll_append]
  congr 2
  rw [Nat.add_mul, Nat.one_mul, Array.length_toList, hv]
theorem run_buildSlice {t el : TypeId} (ht : (td P t).k = .slice el) (hz : (td P el).zok = true) (vs : List Value) (hv : ∀ v, v ∈ vs → v.cells.size = (td P el).size) (hsmall : vs.length * (td P el).size ≤ 16777216) (w : World) :
  ∃ c : Array Value, c.size = vs.length * (td P el).size ∧ (∀ i : Nat, c[i]? = (vs.flatMap fun v => v.cells.toList)[i]?) ∧
   (Instr.buildSlice t vs.length ((vs.zipIdx 0).map fun p => (p.2, p.1)).toArray).run P w = .ok (.slice (some ⟨w.heap.size, 0, none⟩) vs.length vs.length) (w.alloc (.cells c el)) := by
 obtain ⟨z, hz0, hz1, hz2, hok, hz3, _⟩ := run_zero' hz w
 have hlen : (vs.flatMap fun v => v.cells.toList).length = vs.length * (td P el).size := by
  clear hsmall
  induction vs with
  | nil => simp
  | cons v vs ih =>
   rw [List.flatMap_cons, List.length_append, ih (fun x hx => hv x (by simp [hx])), Array.length_toList, hv v (by simp), List.length_cons, Nat.add_mul, Nat.one_mul]
   omega
 have key : ∀ cs : Array Value, cs.size = vs.length * (td P el).size → (setAll cs 0 (vs.flatMap fun v => v.cells.toList)).size = vs.length * (td P el).size ∧ ∀ i : Nat, (setAll cs 0 (vs.flatMap fun v => v.cells.toList))[i]? = (vs.flatMap fun v => v.cells.toList)[i]? := fun cs hcs => by
  refine ⟨by rw [setAll_size, hcs], fun i => ?_⟩
  rw [setAll_get? _ _ _ _ (by omega)]
  split
  ·simp
  ·rename_i hn
   rw [Array.getElem?_eq_none (by omega), List.getElem?_eq_none (by omega)]
 have hns : ¬ (vs.length * (td P el).size > 2 ^ 24) := by omega
 by_cases h0 : vs.length * (td P el).size = 0
 ·let cs : Array Value := (Array.range (vs.length * (td P el).size)).map fun x => (#[] : Array Value)[x % (#[] : Array Value).size]!
  have hcs : cs.size = vs.length * (td P el).size := by simp [cs]
  obtain ⟨k1, k2⟩ := key cs hcs
  refine ⟨_, k1, k2, ?_⟩
  have hf := fill_all (e := (td P el).size) vs 0 cs hv (by omega)
  simp only [Nat.zero_mul] at hf
  simp only [Instr.buildSlice, Sem.run_bind, run_und' (und_slice ht), Result.andThen_ok, run_sizeOf' hok, if_neg hns, Sem.run_pure, if_pos h0]
  simp only [cs] at hf
  rw [hf]
  simp only [newRow, Sem.run_bind, run_newObj, Result.andThen_ok, Sem.run_pure]
  rfl
 ·let cs : Array Value := (Array.range (vs.length * (td P el).size)).map fun x => z.cells[x % z.cells.size]!
  have hcs : cs.size = vs.length * (td P el).size := by simp [cs]
  obtain ⟨k1, k2⟩ := key cs hcs
  refine ⟨_, k1, k2, ?_⟩
  have hf := fill_all (e := (td P el).size) vs 0 cs hv (by omega)
  simp only [Nat.zero_mul] at hf
  simp only [Instr.buildSlice, Sem.run_bind, run_und' (und_slice ht), Result.andThen_ok, run_sizeOf' hok, if_neg hns, Sem.run_pure, if_neg h0, hz0]
  simp only [cs] at hf
  rw [hf]
  simp only [newRow, Sem.run_bind, run_newObj, Result.andThen_ok, Sem.run_pure]
  rfl
theorem sop_buildSlice {o : Oper} {f : FR} {σ : St} {k : MV → St → Prop} {t el : TypeId} {len : Nat} {parts : Array (Nat × Operand)} (ho : o.op = .buildSlice t len parts) (ht : (td P t).k = .slice el) (hz : (td P el).zok = true)
  (hidx : parts.toList.map (·.1) = List.range len) (hc : ∀ p, p ∈ parts.toList → (∀ c, c ∈ (mval f p.2).cells → c.isCell = true) ∧ (mval f p.2).cells.length = (td P el).size) (hsmall : len * (td P el).size ≤ 16777216) (hmax : len ≤ maxLen)
  (hk : ∀ l, σ l = none → k (.vec (td P el).size l 0 len) (σ.set l (.row el (td P el).size (parts.toList.map fun p => (mval f p.2).cells)))) : sop P o f σ k := by
 intro Φ w a K Q' hi hr hK
 obtain ⟨l', hl', hsl⟩ := inv_eq hi
 have hlen : parts.toList.length = len := by have := congrArg List.length hidx; simpa using this
 have hcell : ∀ p, p ∈ parts.toList → RelC Φ (a.eval p.2).cells (mval f p.2).cells := fun p hp => rel_cells (rel_mval hr p.2) (hc p hp).1
 let vs := parts.toList.map fun p => a.eval p.2
 have hvl : vs.length = len := by simp [vs]; simpa using hlen
 have hvs : ∀ v, v ∈ vs → v.cells.size = (td P el).size := fun v hv => by
  simp only [vs, List.mem_map] at hv
  obtain ⟨p, hp, rfl⟩ := hv
  exact (hcell p hp).1.trans (hc p hp).2
 obtain ⟨c, hc1, hc2, hrun⟩ := run_buildSlice ht hz vs hvs (by rw [hvl]; exact hsmall) w
 have hargs : (parts.map fun p => (p.1, a.eval p.2)) = ((vs.zipIdx 0).map fun p => (p.2, p.1)).toArray := by
  apply Array.ext'
  simp only [Array.toList_map]
  apply List.ext_getElem?
  intro i
  simp only [List.getElem?_map, List.getElem?_zipIdx, vs, Option.map_map]
  have h1 : (parts.toList.map (·.1))[i]? = (List.range len)[i]? := by rw [hidx]
  rw [List.getElem?_map] at h1
  cases hp : parts.toList[i]? with
  | none => simp
  | some p =>
   rw [hp] at h1
   have hil : i < len := by have := (List.getElem?_eq_some_iff.1 hp).1; omega
   rw [List.getElem?_range hil] at h1
   simp at h1 ⊢
   exact h1
 have hxs : (parts.toList.map fun p => (mval f p.2).cells).length = len := by rw [List.length_map, hlen]
 have hflat : ∀ (l : List (Nat × Operand)), (∀ p, p ∈ l → RelC Φ (a.eval p.2).cells (mval f p.2).cells) → ∀ (i : Nat) m, (l.map fun p => (mval f p.2).cells).flatten[i]? = some m → m.isCell = true ∧ ∃ v, ((l.map fun p => a.eval p.2).flatMap fun v => v.cells.toList)[i]? = some v ∧ Rel Φ v m := by
  intro l
  induction l with
  | nil => intro _ i m h; simp at h
  | cons p l ih =>
   intro h i m hm
   have rc := h p (by simp)
   have rl : (a.eval p.2).cells.toList.length = (mval f p.2).cells.length := by simpa using rc.1
   simp only [List.map_cons, List.flatten_cons, List.flatMap_cons] at hm ⊢
   by_cases hi : i < (mval f p.2).cells.length
   ·rw [List.getElem?_append_left hi] at hm
    refine ⟨rc.2.1 i m hm, (a.eval p.2).cells.getD i undef, ?_, rc.2.2 i m hm⟩
    rw [List.getElem?_append_left (by omega), Array.getElem?_toList]
    have : i < (a.eval p.2).cells.size := by have := rc.1; omega
    simp [Array.getD_eq_getD_getElem?, Array.getElem?_eq_getElem this]
   ·rw [List.getElem?_append_right (by omega)] at hm
    rw [List.getElem?_append_right (by omega), rl]
    exact ih (fun q hq => h q (by simp [hq])) _ m hm
 obtain ⟨i1, s1, r1⟩ := new_row (w' := w.alloc (.cells c el)) (el := el) (e := (td P el).size) (n := len) (C := len) (xs := parts.toList.map fun p => (mval f p.2).cells) (c := c) (fz := (0, 0)) hi hl'
  (fun i x hx => by
   rw [List.getElem?_map, Option.map_eq_some_iff] at hx
   obtain ⟨p, hp, rfl⟩ := hx
   exact (hc p (List.mem_of_getElem? hp)).2) hxs (Nat.le_refl _) hmax rfl rfl rfl rfl (by first | exact Nat.le_refl _ | exact drw_le (Nat.le_succ _)) (.inl (Nat.le_refl _)) (by rw [hc1, hvl]; exact Nat.le_refl _) (fun i m q => by
   obtain ⟨q1, v, q2, q3⟩ := hflat parts.toList hcell i m q
   exact ⟨q1, v, by rw [hc2]; exact q2, q3⟩)
 refine wp_value (v := _) (w' := _) ?_ (hK _ _ _ _ _ r1 i1 s1 (hk l' hsl))
 unfold execOp
 rw [hvl] at hrun
 simp only [ho, hargs, Sem.run_bind, hrun, Result.andThen_ok, Sem.run_pure]
theorem run_asInt' (k : IntKind) (n : Int) (w : World) : (asInt (.int k n)).run P w = .ok n w := rfl
theorem sop_makeSlice {o : Oper} {f : FR} {σ : St} {k : MV → St → Prop} {t el : TypeId} {x y : Operand} (ho : o.op = .makeSlice t x y) (ht : (td P t).k = .slice el) (hz : (td P el).zok = true) {n c : Int} (hx : mval f x = .int .i64 n) (hy : mval f y = .int .i64 c)
  (h0 : 0 ≤ n) (h1 : n ≤ c) (h2 : c ≤ 140737488355328) (h3 : (td P el).bytes * c ≤ 140737488355328)
  (hk : ∀ l, σ l = none → k (.vec (td P el).size l 0 n.toNat) (σ.set l (.row el (td P el).size (List.replicate n.toNat (td P el).zero)))) : sop P o f σ k := by
 intro Φ w a K Q' hi hr hK
 obtain ⟨l', hl', hsl⟩ := inv_eq hi
 obtain ⟨z, hz0, hz1, hz2, hok, hz3, _⟩ := run_zero' hz w
 have hzlen : (td P el).zero.length = (td P el).size := by rw [← hz1, ← hz2]; simp
 obtain ⟨inf, d, hinf, hd, hsz, hby, _⟩ := td_info hok
 have e1 : a.eval x = .int .i64 n := by have := rel_mval hr x; rw [hx] at this; exact this.inv_int
 have e2 : a.eval y = .int .i64 c := by have := rel_mval hr y; rw [hy] at this; exact this.inv_int
 have w1 : IntKind.i64.wrap n = n := IntWalk.i64_in n (by omega)
 have w2 : IntKind.i64.wrap c = c := IntWalk.i64_in c (by omega)
 have rz := zero_relC (P := P) (Φ := Φ) hz1 hz3
 obtain ⟨cells, hcs, hcells, hrun⟩ : ∃ cells : Array Value, cells.size = c.toNat * (td P el).size ∧ (∀ i : Nat, i < c.toNat * (td P el).size → cells[i]? = some (z.cells.getD (i % (td P el).size) undef)) ∧
   (Instr.makeSlice t (a.eval x) (a.eval y)).run P w = .ok (.slice (some ⟨w.heap.size, 0, none⟩) n.toNat c.toNat) (w.alloc (.cells cells el)) := by
  have hneg : ¬ (inf.bytes * c > 2 ^ 48) := by rw [← hby]; omega
  have hc0 : ¬ (c < 0) := by omega
  have hn0 : ¬ (n < 0) := by omega
  have hnc : ¬ (n > c) := by omega
  by_cases hz' : c.toNat * (td P el).size = 0
  ·refine ⟨(Array.range (c.toNat * (td P el).size)).map fun x => (#[] : Array Value)[x % (#[] : Array Value).size]!, by simp, fun i hi => by omega, ?_⟩
   simp only [Instr.makeSlice, e1, e2, run_asInt', Sem.run_bind, run_und' (und_slice ht), Result.andThen_ok, Sem.run_pure, typeInfo, run_program, hinf, w1, w2, hneg, hc0, hn0, hnc, decide_false, Bool.or_false, Bool.false_eq_true, if_false, or_self, run_askRoom, run_sizeOf' hok, if_pos hz', newRow, run_newObj]
   rfl
  ·refine ⟨(Array.range (c.toNat * (td P el).size)).map fun x => z.cells[x % z.cells.size]!, by simp, fun i hi => ?_, ?_⟩
   ·have : i % (td P el).size < z.cells.size := by rw [hz2]; exact Nat.mod_lt _ (Nat.pos_of_ne_zero (fun h => by rw [h] at hi; omega))
    simp [hi, hz2, Array.getD_eq_getD_getElem?, getElem!_def]
    rw [Array.getElem?_eq_getElem this]
    simp
   ·simp only [Instr.makeSlice, e1, e2, run_asInt', Sem.run_bind, run_und' (und_slice ht), Result.andThen_ok, Sem.run_pure, typeInfo, run_program, hinf, w1, w2, hneg, hc0, hn0, hnc, decide_false, Bool.or_false, Bool.false_eq_true, if_false, or_self, run_askRoom, run_sizeOf' hok, if_neg hz', hz0, newRow, run_newObj]
    rfl
 have hfl : ∀ (m i : Nat) (q : MV), (List.replicate m (td P el).zero).flatten[i]? = some q → i < m * (td P el).size ∧ (td P el).zero[i % (td P el).size]? = some q := by
  intro m
  induction m with
  | zero => intro i q h; simp at h
  | succ m ih =>
   intro i q h
   rw [List.replicate_succ, List.flatten_cons] at h
   by_cases hi : i < (td P el).zero.length
   ·rw [List.getElem?_append_left hi] at h
    rw [Nat.mod_eq_of_lt (by omega), Nat.add_mul, Nat.one_mul]
    exact ⟨by omega, h⟩
   ·rw [List.getElem?_append_right (by omega)] at h
    obtain ⟨q1, q2⟩ := ih _ q h
    rw [hzlen] at q1 q2
    rw [Nat.add_mul, Nat.one_mul]
    refine ⟨by omega, ?_⟩
    rw [← q2]
    congr 1
    rw [Nat.mod_eq_sub_mod (by omega)]
 obtain ⟨i1, s1, r1⟩ := new_row (w' := w.alloc (.cells cells el)) (el := el) (e := (td P el).size) (n := n.toNat) (C := c.toNat) (xs := List.replicate n.toNat (td P el).zero) (c := cells) (fz := (0, 0)) hi hl'
  (fun i x hx => by rw [List.getElem?_replicate] at hx; split at hx <;> simp at hx; rw [← hx, hzlen]) (by simp) (by omega) (by simp only [maxLen]; omega) rfl rfl rfl rfl (by first | exact Nat.le_refl _ | exact drw_le (Nat.le_succ _)) (.inl (Nat.le_refl _)) (by rw [hcs]; exact Nat.le_refl _) (fun i m q => by
   obtain ⟨q1, q2⟩ := hfl _ i m q
   refine ⟨rz.2.1 _ m q2, _, hcells i (Nat.lt_of_lt_of_le q1 (Nat.mul_le_mul_right _ (by omega))), rz.2.2 _ m q2⟩)
 refine wp_value (v := _) (w' := _) ?_ (hK _ _ _ _ _ r1 i1 s1 (hk l' hsl))
 unfold execOp
 simp only [ho, Sem.run_bind, hrun, Result.andThen_ok, Sem.run_pure]
def bytesOf (ys : List (List MV)) : ByteArray := ⟨(ys.map fun y => match y with | [.int .u8 n] => UInt8.ofNat n.toNat | _ => 0).toArray⟩
def isByte : List MV → Bool
 | [.int .u8 _] => true
 | _ => false
theorem sop_toStr {o : Oper} {f : FR} {σ : St} {k : MV → St → Prop} {s d el : TypeId} {x : Operand} (ho : o.op = .convert s d x) (hs : (td P s).k = .slice el) (he : (td P el).k = .int .u8) (hd : (td P d).k = .str) {ys : List (List MV)}
  (hx : msrc σ 1 (mval f x) = some ys) (hsl : ∀ b, mval f x ≠ .str b) (hb : ys.all isByte = true) (hk : k (.str (bytesOf ys)) σ) : sop P o f σ k := by
 intro Φ w a K Q' hi hr hK
 obtain ⟨arr, harr, hrel, hyl⟩ := msrc_sound (P := P) hx hi (rel_mval hr x)
 obtain ⟨ns, hns⟩ : ∃ ns : List Int, ys = ns.map fun n => [.int .u8 n] := by
  clear hx harr hrel hyl hk
  induction ys with
  | nil => exact ⟨[], rfl⟩
  | cons y ys ih =>
   simp only [List.all_cons, Bool.and_eq_true] at hb
   obtain ⟨ns, h⟩ := ih hb.2
   match y, hb.1 with
   | [.int .u8 n], _ => exact ⟨n :: ns, by rw [h]; rfl⟩
 subst hns
 rw [flatten_single] at hrel
 have harr2 : arr = (ns.map (Value.int .u8)).toArray := by
  apply Array.ext_getElem?
  intro i
  by_cases hi' : i < ns.length
  ·have h1 := hrel.2.2 i (.int .u8 ns[i]) (by simp [hi'])
   have h2 : i < arr.size := by have := hrel.1; rw [List.length_map] at this; omega
   have h3 := h1.inv_int
   rw [Array.getD_eq_getD_getElem?, Array.getElem?_eq_getElem h2] at h3
   rw [Array.getElem?_eq_getElem h2]
   simp at h3 ⊢
   simp [hi', h3]
  ·have h2 : arr.size ≤ i := by have := hrel.1; rw [List.length_map] at this; omega
   rw [Array.getElem?_eq_none h2, Array.getElem?_eq_none (by rw [List.size_toArray, List.length_map]; omega)]
 have hbytes : bytesOf (ns.map fun n => [.int .u8 n]) = ns.foldl (fun r n => r.push (UInt8.ofNat n.toNat)) ByteArray.empty := by
  rw [foldl_push_bytes]
  simp [bytesOf, ByteArray.empty, ByteArray.emptyWithCapacity, List.map_map]
  rfl
 obtain ⟨ad, len, cap, hv⟩ : ∃ ad len cap, a.eval x = .slice ad len cap := by
  have rx := rel_mval hr x
  cases hm : mval f x <;> rw [hm] at rx hx <;> simp [msrc] at hx
  ·exact absurd hm (hsl _)
  ·exact ⟨_, _, _, rx.inv_nils⟩
  ·obtain ⟨ad, cap, h, _⟩ := rx.inv_lst; exact ⟨_, _, _, h⟩
  ·obtain ⟨ad, cap, p, h, _⟩ := rx.inv_vec; exact ⟨_, _, _, h⟩
 have hw := harr w rfl
 rw [hv] at hw
 have hlen : len = ns.length := by
  have := hw.1
  simp [Builtin.lenOf] at this
  exact this
 have hrun : (execOp a.eval o).run P w = .ok (.value (.string (bytesOf (ns.map fun n => [.int .u8 n])))) w := by
  unfold execOp
  simp only [ho, hv, Sem.run_bind]
  rw [run_convert_bytes_string w s d el ad len cap (und_slice hs) (und_int he) (und_str hd)]
  cases ad with
  | none =>
   have hz : arr = #[] := by simpa [Builtin.firstCells, eq_comm] using hw.2
   rw [hz] at harr2
   have hns0 : ns = [] := by
    have := congrArg Array.size harr2
    simp at this
    exact List.eq_nil_of_length_eq_zero this.symm
   subst hns0
   rfl
  | some ad =>
   have hld := hw.2
   simp only [Builtin.firstCells, List.length_map, Nat.mul_one] at hld
   rw [run_bytesToString w ad len cap ns (by rw [hlen, hld, harr2]), hbytes]
   rfl
 exact wp_value hrun (hK _ _ _ _ _ (.str _) hi (.refl _ _ _) hk)
theorem sop_ofStr {o : Oper} {f : FR} {σ : St} {k : MV → St → Prop} {s d el : TypeId} {x : Operand} (ho : o.op = .convert s d x) (hs : (td P s).k = .str) (hd : (td P d).k = .slice el) (he : (td P el).k = .int .u8) {b : ByteArray}
  (hx : mval f x = .str b) (hmax : b.size ≤ maxLen) (hk : ∀ l, σ l = none → k (.vec 1 l 0 b.size) (σ.set l (.row el 1 (b.toList.map fun c => [.int .u8 (c.toNat : Int)])))) : sop P o f σ k := by
 intro Φ w a K Q' hi hr hK
 obtain ⟨l', hl', hsl⟩ := inv_eq hi
 have e1 : a.eval x = .string b := by have := rel_mval hr x; rw [hx] at this; exact this.inv_str
 have hbl : b.toList.length = b.size := by rw [ByteArray.toList_eq, Array.length_toList]; rfl
 have hrun := run_bytes_of_string (P := P) w s d el b (und_str hs) (und_slice hd) (und_int he)
 have hcap := grownCap_ge w b.size 0 el
 have hcm := grownCap_le_maxLen w b.size 0 el hmax
 obtain ⟨i1, s1, r1⟩ := new_row (w' := w.drew.alloc (.cells (bytesRow b (grownCap w b.size 0 el)) el ((bytesRow b (grownCap w b.size 0 el)).size, (bytesRow b (grownCap w b.size 0 el)).size + 1))) (el := el) (e := 1) (n := b.size) (C := grownCap w b.size 0 el)
  (xs := b.toList.map fun c => [.int .u8 (c.toNat : Int)]) hi hl' (fun i x hx => by rw [List.getElem?_map, Option.map_eq_some_iff] at hx; obtain ⟨c, _, rfl⟩ := hx; rfl) (by rw [List.length_map, hbl]) hcap hcm rfl rfl rfl rfl (by first | exact Nat.le_refl _ | exact drw_le (Nat.le_succ _)) (.inr (Nat.le_refl _))
  (by
   simp only [bytesRow, Array.size_append, Array.size_map, Array.size_replicate]
   have : b.data.size = b.size := rfl
   omega)
  (fun i m q => by
   rw [flatten_single, List.getElem?_map, Option.map_eq_some_iff] at q
   obtain ⟨c, hc, rfl⟩ := q
   refine ⟨rfl, .int .u8 c.toNat, ?_, .int _ _⟩
   rw [ByteArray.toList_eq, Array.getElem?_toList] at hc
   have hlt := (Array.getElem?_eq_some_iff.1 hc).1
   simp only [bytesRow]
   rw [Array.getElem?_append_left (by simpa using hlt), Array.getElem?_map, hc]
   rfl)
 refine wp_value (v := _) (w' := _) ?_ (hK _ _ _ _ _ r1 i1 s1 (hk l' hsl))
 unfold execOp
 simp only [ho, e1, Sem.run_bind, hrun, Result.andThen_ok, Sem.run_pure]
theorem sop_vslice {o : Oper} {f : FR} {σ : St} {k : MV → St → Prop} {t el : TypeId} {x y z : Operand} (ho : o.op = .slice t x (some y) (some z) none) (ht : (td P t).k = .slice el) (hok : (td P el).ok = true) {l l0 n : Nat} {tt : TypeId} {xs : List (List MV)}
  (hx : mval f x = .vec (td P el).size l l0 n) (hsl : σ l = some (.row tt (td P el).size xs)) {k1 k2 : IntKind} {a h : Int} (hy : mval f y = .int k1 a) (hz : mval f z = .int k2 h) (h0 : 0 ≤ a) (h1 : a ≤ h) (h2 : l0 + h.toNat ≤ xs.length)
  (hk : k (.vec (td P el).size l (l0 + a.toNat) (h.toNat - a.toNat)) σ) : sop P o f σ k := by
 intro Φ w ac K Q' hi hr hK
 have rx := rel_mval hr x
 have ry := rel_mval hr y
 have rz := rel_mval hr z
 rw [hx] at rx
 rw [hy] at ry
 rw [hz] at rz
 obtain ⟨p0, hp0, hpe0, q1, q2, q3, q4⟩ := hi.own l _ hsl
 have rx' := rx
 generalize hv : ac.eval x = vx at rx rx'
 obtain ⟨ad, cap, p, rfl, hp, hpe, hcap, hncap, hR⟩ := rx'.inv_vec
 rw [hp0] at hp; cases hp
 have e1 := ry.inv_int
 have e2 := rz.inv_int
 refine wp_value (v := _) (w' := w) ?_ (hK _ _ _ Φ w (vec_sliced rx a.toNat h.toNat (by omega) (by omega)) hi (.refl _ _ _) hk)
 unfold execOp
 simp only [ho, hv, Option.map_some, Option.map_none, e1, e2, Sem.run_bind, Instr.sliceAt, run_und' (und_slice ht), Result.andThen_ok, Instr.slice, Instr.sliceBounds, Sem.run_pure]
 rw [run_sliceBound ⟨by omega, by omega⟩]
 simp only [Result.andThen_ok, Option.isSome_none, Bool.false_eq_true, if_false]
 rw [run_sliceBound ⟨by omega, by omega⟩]
 simp only [Result.andThen_ok, run_sizeOf' hok, Sem.run_pure]
def rowLaid (xs : List (List MV)) (i0 : Nat) (ys : List (List MV)) : List (List MV) := (xs.take i0 ++ ys) ++ xs.drop (i0 + ys.length)
theorem rowLaid_get {xs ys : List (List MV)} {i0 : Nat} (h : i0 + ys.length ≤ xs.length) (i : Nat) : (rowLaid xs i0 ys)[i]? = if i0 ≤ i ∧ i < i0 + ys.length then ys[i - i0]? else xs[i]? := by
 unfold rowLaid
 have hl1 : (xs.take i0).length = i0 := by simp; omega
 have hl2 : (xs.take i0 ++ ys).length = i0 + ys.length := by rw [List.length_append, hl1]
 by_cases h1 : i < i0
 ·rw [List.getElem?_append_left (by omega), List.getElem?_append_left (by omega), List.getElem?_take, if_pos h1, if_neg (by omega)]
 ·by_cases h2 : i < i0 + ys.length
  ·rw [List.getElem?_append_left (by omega), List.getElem?_append_right (by omega), hl1, if_pos ⟨by omega, h2⟩]
  ·rw [List.getElem?_append_right (by omega), hl2, List.getElem?_drop, show i0 + ys.length + (i - (i0 + ys.length)) = i from by omega, if_neg (by omega)]
theorem rowLaid_length {xs ys : List (List MV)} {i0 : Nat} (h : i0 + ys.length ≤ xs.length) : (rowLaid xs i0 ys).length = xs.length := by
 simp [rowLaid]; omega
theorem row_laid {Φ : Phi} {w : World} {σ : St} (hi : Inv Φ w σ) {l : Nat} {t : TypeId} {e : Nat} {xs ys : List (List MV)} (hsl : σ l = some (.row t e xs)) {i0 : Nat} (hfit : i0 + ys.length ≤ xs.length)
  (hyl : ∀ (i : Nat) (y : List MV), ys[i]? = some y → y.length = e) {arr : Array Value} (hrel : RelC Φ arr ys.flatten) {p : Place} (hp : Φ.obj l = some p) {R : Nat} (hR : p.blk = some R) {c : Array Value} {fz : Nat × Nat} (hc : w.heap[R]? = some (.cells c t fz)) :
  FzOk c fz ∧ p.bo + i0 * e + arr.toList.length ≤ c.size ∧ Inv Φ (wset w R (.cells (setAll c (p.bo + i0 * e) arr.toList) t fz)) (σ.set l (.row t e (rowLaid xs i0 ys))) ∧
   Step Φ σ w Φ (σ.set l (.row t e (rowLaid xs i0 ys))) (wset w R (.cells (setAll c (p.bo + i0 * e) arr.toList) t fz)) := by
 obtain ⟨p', hp', hpe, q1, q2, q3, q4⟩ := hi.own l _ hsl
 rw [hp] at hp'; cases hp'
 rw [hR] at q4
 obtain ⟨c', fz', k1, k2, k3, k4⟩ := q4
 rw [hc] at k1; cases k1
 have hlt : R < w.heap.size := (Array.getElem?_eq_some_iff.1 hc).1
 have harrl : arr.toList.length = ys.length * e := by
  have := hrel.1
  rw [flatten_length ys hyl] at this
  simpa using this
 have hfit2 : p.bo + i0 * e + arr.toList.length ≤ c.size := by
  rw [harrl]
  have : (i0 + ys.length) * e ≤ p.C * e := Nat.mul_le_mul_right _ (by omega)
  rw [Nat.add_mul] at this
  omega
 refine ⟨k2, hfit2, hi.turn (w' := wset w R (.cells (setAll c (p.bo + i0 * e) arr.toList) t fz)) l hsl _ hp hR wset_size (fun k hk => wset_other hk) rfl rfl rfl (Nat.le_refl _) ?_⟩
 refine ⟨p, hp, hpe, by rw [rowLaid_length hfit]; exact q1, q2, fun i y q => ?_, ?_⟩
 ·rw [rowLaid_get hfit] at q
  split at q
  ·exact hyl _ y q
  ·exact q3 i y q
 ·rw [hR]
  refine ⟨_, fz, wset_same hlt, by simpa [FzOk, setAll_size] using k2, by rw [setAll_size]; exact k3, fun i y j m q hm => ?_⟩
  rw [setAll_get? _ _ _ _ hfit2, harrl]
  rw [rowLaid_get hfit] at q
  split at q
  ·rename_i hin
   have hjl : j < e := by have := (List.getElem?_eq_some_iff.1 hm).1; have := hyl _ y q; omega
   have hil := (List.getElem?_eq_some_iff.1 q).1
   have hfl := flatten_get ys (i - i0) j y m hyl q hm
   have hlt2 := (List.getElem?_eq_some_iff.1 hfl).1
   have harr1 := hrel.1
   have e3 : (i - i0) * e + j + i0 * e = i * e + j := by
    have : i * e = (i - i0 + i0) * e := by congr 1; omega
    rw [this, Nat.add_mul]
    omega
   have e4 : (i - i0) * e + j < ys.length * e := by
    have : (i - i0 + 1) * e ≤ ys.length * e := Nat.mul_le_mul_right _ (by omega)
    rw [Nat.add_mul, Nat.one_mul] at this
    omega
   rw [if_pos (by omega), show p.bo + (i * e + j) - (p.bo + i0 * e) = (i - i0) * e + j from by omega, Array.getElem?_toList]
   refine ⟨hrel.2.1 _ m hfl, arr.getD ((i - i0) * e + j) undef, ?_, hrel.2.2 _ m hfl⟩
   simp [Array.getD_eq_getD_getElem?, Array.getElem?_eq_getElem (show (i - i0) * e + j < arr.size by omega)]
  ·rename_i hout
   have hjl : j < e := by have := (List.getElem?_eq_some_iff.1 hm).1; have := q3 i y q; omega
   rw [if_neg (by
    intro hcon
    rcases Nat.lt_or_ge i i0 with h | h
    ·have : (i + 1) * e ≤ i0 * e := Nat.mul_le_mul_right _ h
     rw [Nat.add_mul, Nat.one_mul] at this
     omega
    ·have : (i0 + ys.length) * e ≤ i * e := Nat.mul_le_mul_right _ (by omega)
     rw [Nat.add_mul] at this
     omega)]
   exact k4 i y j m q hm
theorem zero_cells {Φ : Phi} {el : TypeId} {z : Value} (hz1 : z.cells.toList.map ofV = (td P el).zero) (hz2 : z.cells.size = (td P el).size) (hz3 : ∀ v, v ∈ z.cells.toList → (ofV v).isCell = true) (h0 : 0 < (td P el).size) : ∀ n, RelC Φ (Builtin.zeroCells z.cells n) (List.replicate n (td P el).zero).flatten := by
 have rz := zero_relC (P := P) (Φ := Φ) hz1 hz3
 have hzlen : (td P el).zero.length = (td P el).size := by rw [← hz1, ← hz2]; simp
 intro n
 have hget : ∀ i : Nat, i < n * (td P el).size → (Builtin.zeroCells z.cells n)[i]? = some (z.cells.getD (i % (td P el).size) undef) := by
  intro i hi
  have : i % (td P el).size < z.cells.size := by rw [hz2]; exact Nat.mod_lt _ h0
  simp only [Builtin.zeroCells]
  simp [hi, hz2, Array.getD_eq_getD_getElem?, getElem!_def]
  rw [Array.getElem?_eq_getElem this]
  simp
 have hfl : ∀ (m i : Nat) (q : MV), (List.replicate m (td P el).zero).flatten[i]? = some q → i < m * (td P el).size ∧ (td P el).zero[i % (td P el).size]? = some q := by
  intro m
  induction m with
  | zero => intro i q h; simp at h
  | succ m ih =>
   intro i q h
   rw [List.replicate_succ, List.flatten_cons] at h
   by_cases hi : i < (td P el).zero.length
   ·rw [List.getElem?_append_left hi] at h
    rw [Nat.mod_eq_of_lt (by omega), Nat.add_mul, Nat.one_mul]
    exact ⟨by omega, h⟩
   ·rw [List.getElem?_append_right (by omega)] at h
    obtain ⟨q1, q2⟩ := ih _ q h
    rw [hzlen] at q1 q2
    rw [Nat.add_mul, Nat.one_mul]
    refine ⟨by omega, ?_⟩
    rw [← q2]
    congr 1
    rw [Nat.mod_eq_sub_mod (by omega)]
 refine ⟨?_, fun i m h => ?_, fun i m h => ?_⟩
 ·simp [Builtin.zeroCells, hz2, hzlen, List.length_flatten]
 ·exact rz.2.1 _ m (hfl n i m h).2
 ·obtain ⟨q1, q2⟩ := hfl n i m h
  have := hget i q1
  rw [Array.getD_eq_getD_getElem?, this]
  exact rz.2.2 _ m q2
def TK.isInt : TK → Bool
 | .int _ => true
 | _ => false
theorem und_isInt {t : TypeId} (h : (td P t).k.isInt = true) : ∃ k, P.underlying t = some (.int k) := by
 cases hk : (td P t).k <;> rw [hk] at h <;> simp [TK.isInt] at h
 exact ⟨_, und_int hk⟩
theorem sop_append_zeros {o : Oper} {f : FR} {σ : St} {k : MV → St → Prop} {s x : Operand} {t xt el : TypeId} (ho : o.op = .call { callee := .builtin .append, args := #[s, x], argTypes := #[t, xt] })
  (ht : (td P t).k = .slice el) (hxt : (td P xt).k.isInt = true) (hz : (td P el).zok = true) (h0 : 0 < (td P el).size) {n : Int} (hs : mval f s = .nils) (hx : mval f x = .int .i64 n) (hn : 0 < n)
  (hm : n.toNat ≤ 140737488355328) (hb : n.toNat * (td P el).bytes ≤ 140737488355328)
  (hk : ∀ l, σ l = none → k (.vec (td P el).size l 0 n.toNat) (σ.set l (.row el (td P el).size (List.replicate n.toNat (td P el).zero)))) : sop P o f σ k := by
 intro Φ w a K Q' hi hr hK
 obtain ⟨l', hl', hsl⟩ := inv_eq hi
 have e1 : a.eval s = .slice none 0 0 := by have := rel_mval hr s; rw [hs] at this; exact this.inv_nils
 have e2 : a.eval x = .int .i64 n := by have := rel_mval hr x; rw [hx] at this; exact this.inv_int
 obtain ⟨z, hz0, hz1, hz2, hok, hz3, _⟩ := run_zero' hz w.drew
 have hzlen : (td P el).zero.length = (td P el).size := by rw [← hz1, ← hz2]; simp
 obtain ⟨i, d, hinf, hd, hsz, hby, _⟩ := td_info hok
 obtain ⟨ik, hxu⟩ := und_isInt hxt
 have w1 : IntKind.i64.wrap n = n := IntWalk.i64_in n (by omega)
 have hrun : (Builtin.append_ #[t, xt] o.type #[.slice none 0 0, .int .i64 n]).run P w = .ok (.slice (some ⟨w.heap.size, 0, none⟩) (0 + n.toNat) (grownCap w (0 + n.toNat) 0 el)) (w.drew.alloc (.cells (#[] ++ Builtin.zeroCells z.cells n.toNat ++ Builtin.zeroCells z.cells (grownCap w (0 + n.toNat) 0 el - (0 + n.toNat))) el)) := by
  have hroom : ¬ (0 + n.toNat ≤ 0) := by omega
  have h48' : ¬ (Builtin.nextslicecap (0 + n.toNat) 0 * i.bytes > 2 ^ 48) := by
   rw [← hby]
   have := growslice_fits (show 0 < 0 + n.toNat by omega) (show (0 + n.toNat) * (td P el).bytes ≤ 140737488355328 by rw [Nat.zero_add]; exact hb)
   omega
  have h63 : ¬ (((0 + n.toNat : Nat) : Int) > IntKind.i64.max) := by
   simp only [IntKind.max, IntKind.signed, IntKind.bits]
   simp
   omega
  have hneg : ¬ (n < 0) := by omega
  have hbig : ¬ (n * i.bytes > 2 ^ 48) := by
   rw [← hby]
   have : n * ((td P el).bytes : Int) = ((n.toNat * (td P el).bytes : Nat) : Int) := by
    rw [Int.natCast_mul, Int.toNat_of_nonneg (by omega)]
   omega
  have hns : ¬ (n.toNat * (td P el).size = 0) := by
   have : 0 < n.toNat * (td P el).size := Nat.mul_pos (by omega) h0
   omega
  unfold Builtin.append_
  simp only [World.drew] at hz0
  simp only [List.getElem?_toArray, List.getElem?_cons_zero, List.getElem?_cons_succ, Sem.run_bind, run_und' (und_slice ht), Result.andThen_ok, run_sizeOf' hok, run_und' hxu, Sem.run_pure, if_true, run_asInt', w1, if_neg hneg, typeInfo, run_program, hinf, if_neg hbig,
   if_neg hroom, Bool.not_true, Bool.false_eq_true, if_false, h63, false_and, if_neg h48', run_choose, Question.forced, run_askRoom, if_neg hns]
  simp only [hz0, Builtin.firstCells, Result.andThen_ok, newRow, Sem.run_bind, run_newObj, Sem.run_pure]
  rfl
 obtain ⟨i1, s1, r1⟩ := grown_row (σ1 := σ) (el := el) (n := 0) (m := n.toNat) (cap' := grownCap w (0 + n.toNat) 0 el) (xs := []) (ys := List.replicate n.toNat (td P el).zero) (old := #[]) (arr := Builtin.zeroCells z.cells n.toNat)
  (rest := Builtin.zeroCells z.cells (grownCap w (0 + n.toNat) 0 el - (0 + n.toNat))) hi (fun _ _ q => q) hl' (fun i x hx => by simp at hx) (fun i x hx => by rw [List.getElem?_replicate] at hx; split at hx <;> simp at hx; rw [← hx, hzlen]) rfl (by simp)
  ⟨rfl, fun i m h => by simp at h, fun i m h => by simp at h⟩ (zero_cells (P := P) (Φ := Φ) hz1 hz2 hz3 h0 n.toNat) (by rw [size_zeroCells, hz2]) (grownCap_ge w _ _ el) (grownCap_le_maxLen w _ _ el (by simp only [maxLen]; omega))
 simp only [Nat.zero_add, List.nil_append] at i1 s1 r1 hrun
 refine wp_value (v := _) (w' := _) ?_ (hK _ _ _ _ _ r1 i1 s1 (hk l' hsl))
 rw [run_append_op ho, e1, e2, hrun]
 rfl
theorem sop_clear {o : Oper} {f : FR} {σ : St} {k : MV → St → Prop} {t el : TypeId} {x : Operand} (ho : o.op = .call { callee := .builtin .clear, args := #[x], argTypes := #[t] }) (ht : (td P t).k = .slice el) (hz : (td P el).zok = true) (h0 : 0 < (td P el).size)
  {l l0 n : Nat} {tt : TypeId} {xs : List (List MV)} (hx : mval f x = .vec (td P el).size l l0 n) (hsl : σ l = some (.row tt (td P el).size xs)) (hfit : l0 + n ≤ xs.length)
  (hk : k .junk (σ.set l (.row tt (td P el).size (rowLaid xs l0 (List.replicate n (td P el).zero))))) : sop P o f σ k := by
 intro Φ w ac K Q' hi hr hK
 obtain ⟨z, hz0, hz1, hz2, hok, hz3, _⟩ := run_zero' hz w
 have hzlen : (td P el).zero.length = (td P el).size := by rw [← hz1, ← hz2]; simp
 have rx := rel_mval hr x
 rw [hx] at rx
 generalize hv : ac.eval x = vx at rx
 obtain ⟨ad, cap, p, rfl, hp, hpe, hcap, hncap, hR⟩ := rx.inv_vec
 have hop : ∀ r w', (Builtin.clear_ #[t] o.type #[.slice ad n cap]).run P w = .ok r w' → (execOp ac.eval o).run P w = .ok (.value r) w' := fun r w' h => by
  unfold execOp
  simp only [ho, resolve, List.map_toArray, List.map_cons, List.map_nil, hv, Sem.run_bind, Sem.run_pure, Result.andThen_ok, invoke]
  show Sem.run P (do pure (Next.value (← Builtin.clear_ #[t] o.type #[.slice ad n cap]))) w = _
  simp only [Sem.run_bind, h, Result.andThen_ok, Sem.run_pure]
 by_cases hn : n = 0
 ·subst hn
  have hrow : rowLaid xs l0 (List.replicate 0 (td P el).zero) = xs := by simp [rowLaid]
  have hst : σ.set l (.row tt (td P el).size xs) = σ := by
   funext j
   simp only [St.set]
   split
   ·rename_i e; rw [e, hsl]
   ·rfl
  rw [hrow, hst] at hk
  refine wp_value (hop (.tuple #[]) w ?_) (hK _ _ _ Φ w (.junk _) hi (.refl _ _ _) hk)
  unfold Builtin.clear_
  cases ad <;> simp [run_und' (und_slice ht)]
 ·rcases hR with ⟨R, hb, rfl⟩ | hcap0
  ·obtain ⟨p', hp', hpe', q1, q2, q3, q4⟩ := hi.own l _ hsl
   rw [hp] at hp'; cases hp'
   rw [hb] at q4
   obtain ⟨c, fz, k1, -⟩ := q4
   have hzc := zero_cells (P := P) (Φ := Φ) hz1 hz2 hz3 h0 n
   obtain ⟨r1, r2, i1, s1⟩ := row_laid hi hsl (i0 := l0) (ys := List.replicate n (td P el).zero) (by simpa using hfit) (fun i y h => by
    rw [List.getElem?_replicate] at h
    split at h <;> simp at h
    rw [← h, hzlen]) hzc hp hb k1
   refine wp_value (hop (.tuple #[]) _ ?_) (hK _ _ _ Φ _ (.junk _) i1 s1 hk)
   unfold Builtin.clear_
   have hn' : ¬ n = 0 := hn
   simp only [List.getElem?_toArray, List.getElem?_cons_zero, Sem.run_bind, run_und' (und_slice ht), Result.andThen_ok]
   cases n with
   | zero => exact absurd rfl hn
   | succ n =>
    simp only [Sem.run_bind, hz0, Result.andThen_ok]
    rw [hpe]
    rw [run_storeCells' (P := P) _ 0 c w k1 r1 (by simpa using r2) (RelC.oneCells hzc)]
    rfl
  ·omega
end
end Go.Proofs.YtjljgahfkcdhfaaGreatDoor
end

section
namespace Go.Proofs.YtjljgahfkcdhfaaGreatDoor
open Go.MapKept
def isK (k : IntKind) : MV → Bool
 | .int k' _ => decide (k' = k)
 | _ => false
def iget (n : Int) : List (MV × MV) → Option MV
 | [] => none
 | (.int _ m, v) :: r => if m = n then some v else iget n r
 | _ :: r => iget n r
def iput (k : IntKind) (n : Int) (v : MV) : List (MV × MV) → List (MV × MV)
 | [] => [(.int k n, v)]
 | (.int k' m, u) :: r => if m = n then (.int k' m, v) :: r else (.int k' m, u) :: iput k n v r
 | x :: r => x :: iput k n v r
theorem isK_int {k : IntKind} {m : MV} (h : isK k m = true) : ∃ n, m = .int k n := by
 cases m <;> simp [isK] at h
 subst h; exact ⟨_, rfl⟩
theorem find_iget {k : IntKind} {n : Int} {Φ : Phi} (v' : MV) : ∀ (l : List MapEntry) (es : List (MV × MV)) (i0 : Nat), l.length = es.length → (es.all fun x => isK k x.1) = true → (∀ (i : Nat) (x : MV × MV), es[i]? = some x → ∃ e : MapEntry, l[i]? = some e ∧ Rel Φ e.key x.1) →
  (∀ x : MapEntry, x ∈ l → IsKey (.int k) x.key) ∧ ((iget n es = none ∧ Instr.findNow (.int k) (.int k n) l i0 = some none ∧ iput k n v' es = es ++ [(.int k n, v')]) ∨
   ∃ (j : Nat) (e : MapEntry) (v : MV), iget n es = some v ∧ Instr.findNow (.int k) (.int k n) l i0 = some (some (i0 + j, e.val)) ∧ l[j]? = some e ∧ e.key = .int k n ∧ es[j]? = some (.int k n, v) ∧ iput k n v' es = es.set j (.int k n, v'))
 | [], [], _, _, _, _ => ⟨by simp, .inl ⟨rfl, rfl, rfl⟩⟩
 | [], _ :: _, _, h, _, _ => by simp at h
 | _ :: _, [], _, h, _, _ => by simp at h
 | e :: l, (x, u) :: es, i0, hl, hk, hr => by
  simp only [List.all_cons, Bool.and_eq_true] at hk
  obtain ⟨m, rfl⟩ := isK_int hk.1
  obtain ⟨e', he', hrel⟩ := hr 0 _ rfl
  simp only [List.getElem?_cons_zero, Option.some.injEq] at he'
  subst he'
  have hkey := hrel.inv_int
  obtain ⟨q1, q2⟩ := find_iget (n := n) v' l es (i0 + 1) (by simpa using hl) hk.2 fun i x hx => hr (i + 1) x (by simpa using hx)
  refine ⟨?_, ?_⟩
  ·intro y hy
   rcases List.mem_cons.1 hy with rfl | hy
   ·rw [hkey]; exact rfl
   ·exact q1 y hy
  ·by_cases hmn : m = n
   ·subst hmn
    right
    refine ⟨0, e, u, by simp [iget], ?_, rfl, hkey, rfl, by simp [iput]⟩
    simp [Instr.findNow, Instr.sameNow, hkey]
   ·have hf : Instr.findNow (.int k) (.int k n) (e :: l) i0 = Instr.findNow (.int k) (.int k n) l (i0 + 1) := by
     have : (n == m) = false := by simpa using Ne.symm hmn
     simp [Instr.findNow, Instr.sameNow, hkey, this]
    rw [hf]
    rcases q2 with ⟨a, b, c⟩ | ⟨j, e2, v, a, b, c, d, e3, f⟩
    ·exact .inl ⟨by simp [iget, hmn, a], b, by simp [iput, hmn, c]⟩
    ·refine .inr ⟨j + 1, e2, v, by simp [iget, hmn, a], ?_, by simpa using c, d, by simpa using e3, by simp [iput, hmn, f]⟩
     rw [b]; simp; omega
theorem iget_off {Φ : Phi} {k : IntKind} {n : Int} : ∀ {es : List (MV × MV)} {x : MV × MV} {v : Value}, iget n es = none → (es.all fun p => isK k p.1) = true → x ∈ es → Rel Φ v x.1 → v ≠ .int k n
 | [], _, _, _, _, hx, _ => by cases hx
 | (y, u) :: es, x, v, h0, hk, hx, hr => by
  simp only [List.all_cons, Bool.and_eq_true] at hk
  obtain ⟨m, rfl⟩ := isK_int hk.1
  by_cases hm : m = n
  ·simp [iget, hm] at h0
  ·simp only [iget, if_neg hm] at h0
   rcases List.mem_cons.1 hx with rfl | hx
   ·rw [hr.inv_int]
    intro e; cases e; exact hm rfl
   ·exact iget_off h0 hk.2 hx hr
theorem OwnOk.mapAt {Φ : Phi} {w : World} {l : Nat} {es : List (MV × MV)} (h : OwnOk Φ w l (.mp es)) : ∃ (p : Place) (R : Nat) (c : Array MapEntry) (clock : Nat), Φ.obj l = some p ∧ p.blk = some R ∧ w.heap[R]? = some (.map c clock) ∧ c.size = es.length ∧ Stamped c clock ∧
  ∀ (i : Nat) (x : MV × MV), es[i]? = some x → ∃ e, c.toList[i]? = some e ∧ Rel Φ e.key x.1 ∧ Rel Φ e.val x.2 := by
 obtain ⟨p, R, hp, hR, c, clock, hh, ⟨hs, hst⟩, hr⟩ := h
 refine ⟨p, R, c, clock, hp, hR, hh, hs, hst, fun i x hx => ?_⟩
 have hi := (List.getElem?_eq_some_iff.1 hx).1
 have hic : i < c.size := by omega
 have := hr i x hx
 rw [show c.getD i default = c[i] by simp [Array.getD, hic]] at this
 exact ⟨c[i], by simp [hic], this⟩
theorem sop_makeMap {P : Program} {o : Oper} {f : FR} {σ : St} {k : MV → St → Prop} {t : TypeId} (ho : o.op = .makeMap t none) (hk : ∀ l, σ l = none → k (.mapv l) (σ.set l (.mp []))) : sop P o f σ k := by
 intro Φ w a K Q' hi hr hK
 obtain ⟨n, hn⟩ := hi.fresh.1.1
 have hl := hn n (Nat.le_refl _)
 have hrun : (execOp a.eval o).run P w = .ok (.value (.map (some w.heap.size))) (w.alloc (.map #[] 0)) := by
  unfold execOp
  simp only [ho, Instr.makeMap, Option.map_none, Sem.run_bind, run_newObj, Result.andThen_ok, Sem.run_pure]
  rfl
 obtain ⟨i1, s1⟩ := hi.alloc (w' := w.alloc (.map #[] 0)) n hl (.mp []) (.map #[] 0) ⟨some w.heap.size, 0, 1, 1⟩ rfl rfl rfl rfl rfl (by first | exact Nat.le_refl _ | exact drw_le (Nat.le_succ _))
  ⟨_, w.heap.size, Phi.put_obj _ _ _, rfl, #[], 0, heap_alloc_new w _, ⟨rfl, stamped_empty 0⟩, fun i x hx => by simp at hx⟩
 exact wp_value hrun (hK _ (.mapv n) _ _ _ (Rel.mapv (Phi.put_obj _ _ _) rfl) i1 s1 (hk n (hi.obj_none hl)))
theorem sop_insert {P : Program} {o : Oper} {f : FR} {σ : St} {k : MV → St → Prop} {t kt et : TypeId} {m x y : Operand} (ho : o.op = .insert t m x y ∨ o.op = .mapUpdate t m x y) (ht : (td P t).k = .map kt et) {kd : IntKind} (hkt : (td P kt).k = .int kd)
  {l : Nat} {es : List (MV × MV)} (hm : mval f m = .mapv l) (hl : σ l = some (.mp es)) {n : Int} (hx : mval f x = .int kd n) (he : (es.all fun p => isK kd p.1) = true)
  (hk : k .junk (σ.set l (.mp (iput kd n (mval f y) es)))) : sop P o f σ k := by
 intro Φ w a K Q' hi hr hK
 have hum := und_map ht
 have huk := und_int hkt
 have rm := rel_mval hr m
 have rx := rel_mval hr x
 have ry := rel_mval hr y
 rw [hm] at rm
 rw [hx] at rx
 obtain ⟨p, R, hp, hR, hmv⟩ := rm.inv_mapv
 have hxv := rx.inv_int
 obtain ⟨p', R', c, clock, hp', hR', hh, hs, hst, hrel⟩ := (hi.own l _ hl).mapAt
 rw [hp] at hp'; cases hp'
 rw [hR] at hR'; cases hR'
 obtain ⟨hkeys, hfind⟩ := find_iget (n := n) (mval f y) c.toList es 0 (by simpa using hs) he fun i z hz => by
  obtain ⟨e, h1, h2, _⟩ := hrel i z hz
  exact ⟨e, h1, h2⟩
 have hrt := (Array.getElem?_eq_some_iff.1 hh).1
 rcases hfind with ⟨h0, h1, h2⟩ | ⟨j, e, v, _, h1, hj, hek, hes, h2⟩
 ·obtain ⟨c', hc'⟩ : ∃ c', c' = c.push { key := a.eval x, val := a.eval y, born := clock } := ⟨_, rfl⟩
  have hrun : (execOp a.eval o).run P w = .ok .skip (wset w R (.map c' (clock + 1))) := by
   unfold execOp
   rcases ho with ho | ho <;> simp only [ho] <;>
    simp [hmv, hxv, Instr.mapUpdate, run_underlying hum, Go.MapKept.run_getObj_map hh, run_checkKey (d := .int kd) (k := .int kd n) huk rfl, run_findKey (d := .int kd) huk h1, run_setObj_map _ hh, Result.andThen, wset, hc']
  obtain ⟨i1, s1⟩ := hi.turn (w' := wset w R (.map c' (clock + 1))) l hl (.mp (es ++ [(.int kd n, mval f y)])) hp hR wset_size (fun q hq => wset_other hq) rfl rfl rfl (Nat.le_refl _)
   ⟨p, R, hp, hR, c', clock + 1, wset_same hrt, ⟨by rw [hc']; simp [hs], by
    rw [hc']
    refine stamped_push hst fun e1 he1 => ?_
    obtain ⟨i, hi1, rfl⟩ := List.mem_iff_getElem.1 he1
    have hi' : i < es.length := by rw [← hs]; simpa using hi1
    obtain ⟨e', q1, q2, _⟩ := hrel i es[i] (List.getElem?_eq_getElem hi')
    rw [List.getElem?_eq_getElem hi1] at q1
    cases q1
    rw [hxv]
    exact iget_off h0 he (List.getElem_mem hi') q2⟩, fun i z hz => by
    rw [hc']
    by_cases hlt : i < es.length
    ·rw [List.getElem?_append_left hlt] at hz
     obtain ⟨e, q1, q2, q3⟩ := hrel i z hz
     have : (c.push { key := a.eval x, val := a.eval y, born := clock }).getD i default = e := by
      have hic : i < c.size := by omega
      have q1' : c[i]? = some e := by simpa using q1
      rw [Array.getD_eq_getD_getElem?, Array.getElem?_push, if_neg (by omega), q1']; rfl
     rw [this]; exact ⟨q2, q3⟩
    ·have hie : i = es.length := by
      have := (List.getElem?_eq_some_iff.1 hz).1
      simp at this; omega
     subst hie
     rw [List.getElem?_append_right (Nat.le_refl _)] at hz
     simp only [Nat.sub_self, List.getElem?_cons_zero, Option.some.injEq] at hz
     subst hz
     have : (c.push { key := a.eval x, val := a.eval y, born := clock }).getD es.length default = { key := a.eval x, val := a.eval y, born := clock } := by
      rw [Array.getD_eq_getD_getElem?, Array.getElem?_push, if_pos (by omega)]; rfl
     rw [this]
     exact ⟨by simp only; rw [hxv]; exact .int _ _, ry⟩⟩
  rw [← h2] at i1 s1
  exact wp_unit hrun (hK _ .junk _ _ _ (.junk _) i1 s1 hk)
 ·have hjc : c[j]? = some e := by simpa using hj
  obtain ⟨c', hc'⟩ : ∃ c', c' = c.modify j fun e => { e with key := a.eval x, val := a.eval y } := ⟨_, rfl⟩
  have hrun : (execOp a.eval o).run P w = .ok .skip (wset w R (.map c' clock)) := by
   unfold execOp
   rcases ho with ho | ho <;> simp only [ho] <;>
    simp [hmv, hxv, Instr.mapUpdate, run_underlying hum, Go.MapKept.run_getObj_map hh, run_checkKey (d := .int kd) (k := .int kd n) huk rfl, run_findKey (d := .int kd) huk h1, hjc, hek, run_keyThatStays (d := .int kd) (k := .int kd n) rfl, run_setObj_map _ hh, Result.andThen, wset, hc']
  have hjlt := (Array.getElem?_eq_some_iff.1 hjc).1
  obtain ⟨i1, s1⟩ := hi.turn (w' := wset w R (.map c' clock)) l hl (.mp (es.set j (.int kd n, mval f y))) hp hR wset_size (fun q hq => wset_other hq) rfl rfl rfl (Nat.le_refl _)
   ⟨p, R, hp, hR, c', clock, wset_same hrt, ⟨by rw [hc']; simp [hs], by
    rw [hc']
    exact stamped_modify hst j _ (fun _ _ => rfl) fun e' _ he' => by rw [hjc] at he'; cases he'; exact hxv.trans hek.symm⟩, fun i z hz => by
    rw [hc', Array.getD_eq_getD_getElem?, Array.getElem?_modify]
    by_cases hij : j = i
    ·subst hij
     rw [List.getElem?_set_self (by omega)] at hz
     cases hz
     rw [if_pos rfl, hjc]
     exact ⟨by simp only [Option.map_some, Option.getD_some]; rw [hxv]; exact .int _ _, ry⟩
    ·rw [List.getElem?_set_ne hij] at hz
     obtain ⟨e, q1, q2, q3⟩ := hrel i z hz
     have q1' : c[i]? = some e := by simpa using q1
     rw [if_neg hij, q1']; exact ⟨q2, q3⟩⟩
  rw [← h2] at i1 s1
  exact wp_unit hrun (hK _ .junk _ _ _ (.junk _) i1 s1 hk)
def zval (d : TD) : MV := if d.k.isAgg = true then .agg d.zero else d.zero.headD .junk
theorem sop_lookup {P : Program} {o : Oper} {f : FR} {σ : St} {k : MV → St → Prop} {t kt et : TypeId} {m x : Operand} {ok : Bool} (ho : o.op = .lookup t m x ok) (ht : (td P t).k = .map kt et) {kd : IntKind} (hkt : (td P kt).k = .int kd) (hz : (td P et).zok = true)
  {l : Nat} {es : List (MV × MV)} (hm : mval f m = .mapv l) (hl : σ l = some (.mp es)) {n : Int} (hx : mval f x = .int kd n) (he : (es.all fun p => isK kd p.1) = true)
  (hk : k (if ok = true then .tup [(iget n es).getD (zval (td P et)), .bool (iget n es).isSome] else (iget n es).getD (zval (td P et))) σ) : sop P o f σ k := by
 intro Φ w a K Q' hi hr hK
 have hum := und_map ht
 have huk := und_int hkt
 have rm := rel_mval hr m
 have rx := rel_mval hr x
 rw [hm] at rm
 rw [hx] at rx
 obtain ⟨p, R, hp, hR, hmv⟩ := rm.inv_mapv
 have hxv := rx.inv_int
 obtain ⟨p', R', c, clock, hp', hR', hh, hs, hst, hrel⟩ := (hi.own l _ hl).mapAt
 rw [hp] at hp'; cases hp'
 rw [hR] at hR'; cases hR'
 obtain ⟨hkeys, hfind⟩ := find_iget (n := n) .junk c.toList es 0 (by simpa using hs) he fun i z hz => by
  obtain ⟨e, h1, h2, _⟩ := hrel i z hz
  exact ⟨e, h1, h2⟩
 obtain ⟨z, hz0, hz1, hz2, hok, hz3, hz4, hz5⟩ := run_zero' hz w
 have fin : ∀ (v : Value) (u : MV) (b : Bool), Rel Φ v u → (Instr.lookup t (a.eval m) (a.eval x) ok).run P w = .ok (if ok = true then .tuple #[v, .bool b] else v) w → k (if ok = true then .tup [u, .bool b] else u) σ → o.wp P a w K Q' := fun v u b hv hrun hk => by
  have hrun2 : (execOp a.eval o).run P w = .ok (.value (if ok = true then .tuple #[v, .bool b] else v)) w := by
   unfold execOp
   simp only [ho, Sem.run_bind, hrun, Result.andThen_ok, Sem.run_pure]
  refine wp_value hrun2 (hK _ _ _ _ _ ?_ hi (.refl _ _ _) hk)
  cases ok
  ·exact hv
  ·refine .tup rfl fun i q hq => ?_
   match i with
   | 0 => simp at hq; subst hq; exact hv
   | 1 => simp at hq; subst hq; exact .bool _
   | i + 2 => simp at hq
 rcases hfind with ⟨h0, h1, h2⟩ | ⟨j, e, v, h0, h1, hj, hek, hes, h2⟩
 ·rw [h0] at hk
  refine fin z (zval (td P et)) false ?_ ?_ hk
  ·unfold zval
   by_cases hag : (td P et).k.isAgg = true
   ·rw [if_pos hag]
    obtain ⟨cs, rfl⟩ := hz4 hag
    exact (zero_relC (Φ := Φ) hz1 hz3).agg
   ·rw [if_neg hag]
    have h5 := hz5 (by simpa using hag)
    have rc := zero_relC (Φ := Φ) hz1 hz3
    rw [h5] at rc
    have hlen := rc.1
    match hzz : (td P et).zero with
    | [] => rw [hzz] at hlen; simp at hlen
    | q :: _ =>
     rw [hzz] at rc
     have := rc.2.2 0 q rfl
     simpa using this
  ·simp [hmv, hxv, Instr.lookup, run_underlying hum, Go.MapKept.run_getObj_map hh, run_checkKey (d := .int kd) (k := .int kd n) huk rfl, run_findKey (d := .int kd) huk h1, hz0, Result.andThen]
 ·rw [h0] at hk
  obtain ⟨e', q1, q2, q3⟩ := hrel j _ hes
  rw [hj] at q1; cases q1
  refine fin e.val v true q3 ?_ hk
  simp [hmv, hxv, Instr.lookup, run_underlying hum, Go.MapKept.run_getObj_map hh, run_checkKey (d := .int kd) (k := .int kd n) huk rfl, run_findKey (d := .int kd) huk h1, Result.andThen]
end Go.Proofs.YtjljgahfkcdhfaaGreatDoor
end
