/- Rows that are made; copy; strings and bytes. -/
import Derived.Test.YtielcgplbnlgbaaMl8
import Derived.Laws.BytesArg
set_option linter.unusedVariables false
set_option linter.unusedSimpArgs false
namespace Go.Proofs.Ytielcgplbnlgbaa
section
variable {P : Program}

/-- A new row, in a new block, with more room than it needs. -/
theorem new_row {Φ : Phi} {w w' : World} {σ : St} (hi : Inv Φ w σ) {l' : Nat} (hl' : Φ.obj l' = none) {el : TypeId} {e n C : Nat} {xs : List (List MV)} {c : Array Value} {fz : Nat × Nat}
    (hx : ∀ (i : Nat) (x : List MV), xs[i]? = some x → x.length = e) (hn : xs.length = n) (hC : n ≤ C) (hmax : C ≤ maxLen) (hh : w'.heap = w.heap.push (.cells c el fz)) (h1 : w'.os = w.os) (h2 : w'.tape = w.tape) (h3 : w'.output = w.output) (h4 : w.drawn ≤ w'.drawn)
    (hf : FzOk c fz) (hsz : C * e ≤ c.size) (hc : ∀ (i : Nat) m, xs.flatten[i]? = some m → m.isCell = true ∧ ∃ v, c[i]? = some v ∧ Rel Φ v m) :
    Inv (Φ.put l' ⟨some w.heap.size, 0, e, C⟩) w' (σ.set l' (.row el e xs)) ∧ Step Φ σ w (Φ.put l' ⟨some w.heap.size, 0, e, C⟩) (σ.set l' (.row el e xs)) w' ∧
    Rel (Φ.put l' ⟨some w.heap.size, 0, e, C⟩) (.slice (some ⟨w.heap.size, 0, none⟩) n C) (.vec e l' 0 n) := by
  have hle := Phi.put_le (Φ := Φ) ⟨some w.heap.size, 0, e, C⟩ hl'
  have hnew : w'.heap[w.heap.size]? = some (.cells c el fz) := by rw [hh]; simp
  obtain ⟨i1, s1⟩ := hi.alloc (w' := w') l' hl' (.row el e xs) (.cells c el fz) ⟨some w.heap.size, 0, e, C⟩ rfl hh h1 h2 h3 h4
    (own_row (c := c) (fz := fz) (R := w.heap.size) (Phi.put_obj _ _ _) rfl rfl (by simp; omega) hmax hx hnew hf (by simpa using hsz) (fun i m q => by
      obtain ⟨q1, v, q2, q3⟩ := hc i m q
      exact ⟨q1, v, by simpa using q2, q3.mono hle⟩))
  refine ⟨i1, s1, ?_⟩
  have := Rel.vec (Φ := Φ.put l' ⟨some w.heap.size, 0, e, C⟩) (l := l') (lo := 0) (n := n) (cap := C) (R := w.heap.size) (Phi.put_obj _ _ _) rfl (by simp) hC
  simpa using this

theorem setAll_append (l1 l2 : List Value) : ∀ (cs : Array Value) (off : Nat), setAll cs off (l1 ++ l2) = setAll (setAll cs off l1) (off + l1.length) l2 := by
  induction l1 with
  | nil => intro cs off; rfl
  | cons c r ih =>
    intro cs off
    simp only [List.cons_append, setAll, ih, List.length_cons]
    congr 1
    omega

theorem fill_all {e : Nat} : ∀ (vs : List Value) (i0 : Nat) (cs : Array Value), (∀ v, v ∈ vs → v.cells.size = e) → i0 * e + vs.length * e ≤ cs.size →
    Instr.fill (fun i => some (i * e, e)) cs ((vs.zipIdx i0).map fun p => (p.2, p.1)) = some (setAll cs (i0 * e) (vs.flatMap fun v => v.cells.toList)) := by
  intro vs
  induction vs with
  | nil => intro i0 cs _ _; rfl
  | cons v vs ih =>
    intro i0 cs h hl
    have hv := h v (by simp)
    simp only [List.length_cons, Nat.add_mul, Nat.one_mul] at hl
    simp only [List.zipIdx_cons, List.map_cons, Instr.fill]
    rw [if_neg (by simp only [hv, ne_eq, not_true_eq_false, decide_false, Bool.false_or, decide_eq_true_eq]; omega)]
    rw [← Array.foldl_toList, Array.toList_zipIdx]
    have e1 := foldl_setAll v.cells.toList 0 cs (i0 * e)
    simp only [Nat.add_zero] at e1
    rw [e1, ih (i0 + 1) _ (fun x hx => h x (by simp [hx])) (by rw [setAll_size, Nat.add_mul, Nat.one_mul]; omega)]
    rw [List.flatMap_cons, setAll_append]
    congr 2
    rw [Nat.add_mul, Nat.one_mul, Array.length_toList, hv]

theorem run_buildSlice {t el : TypeId} (ht : (td P t).k = .slice el) (hz : (td P el).zok = true) (vs : List Value) (hv : ∀ v, v ∈ vs → v.cells.size = (td P el).size) (hsmall : vs.length * (td P el).size ≤ 16777216) (w : World) :
    ∃ c : Array Value, c.size = vs.length * (td P el).size ∧ (∀ i : Nat, c[i]? = (vs.flatMap fun v => v.cells.toList)[i]?) ∧
      (Instr.buildSlice t vs.length ((vs.zipIdx 0).map fun p => (p.2, p.1)).toArray).run P w = .ok (.slice (some ⟨w.heap.size, 0, none⟩) vs.length vs.length) (w.alloc (.cells c el)) := by
  obtain ⟨z, hz0, hz1, hz2, hok, hz3, _⟩ := run_zero' hz w
  have hlen : (vs.flatMap fun v => v.cells.toList).length = vs.length * (td P el).size := by
    clear hsmall
    induction vs with
    | nil => simp
    | cons v vs ih =>
      rw [List.flatMap_cons, List.length_append, ih (fun x hx => hv x (by simp [hx])), Array.length_toList, hv v (by simp), List.length_cons, Nat.add_mul, Nat.one_mul]
      omega
  have key : ∀ cs : Array Value, cs.size = vs.length * (td P el).size → (setAll cs 0 (vs.flatMap fun v => v.cells.toList)).size = vs.length * (td P el).size ∧ ∀ i : Nat, (setAll cs 0 (vs.flatMap fun v => v.cells.toList))[i]? = (vs.flatMap fun v => v.cells.toList)[i]? := fun cs hcs => by
    refine ⟨by rw [setAll_size, hcs], fun i => ?_⟩
    rw [setAll_get? _ _ _ _ (by omega)]
    split
    · simp
    · rename_i hn
      rw [Array.getElem?_eq_none (by omega), List.getElem?_eq_none (by omega)]
  have hns : ¬ (vs.length * (td P el).size > 2 ^ 24) := by omega
  by_cases h0 : vs.length * (td P el).size = 0
  · let cs : Array Value := (Array.range (vs.length * (td P el).size)).map fun x => (#[] : Array Value)[x % (#[] : Array Value).size]!
    have hcs : cs.size = vs.length * (td P el).size := by simp [cs]
    obtain ⟨k1, k2⟩ := key cs hcs
    refine ⟨_, k1, k2, ?_⟩
    have hf := fill_all (e := (td P el).size) vs 0 cs hv (by omega)
    simp only [Nat.zero_mul] at hf
    simp only [Instr.buildSlice, Sem.run_bind, run_und' (und_slice ht), Result.andThen_ok, run_sizeOf' hok, if_neg hns, Sem.run_pure, if_pos h0]
    simp only [cs] at hf
    rw [hf]
    simp only [newRow, Sem.run_bind, run_newObj, Result.andThen_ok, Sem.run_pure]
    rfl
  · let cs : Array Value := (Array.range (vs.length * (td P el).size)).map fun x => z.cells[x % z.cells.size]!
    have hcs : cs.size = vs.length * (td P el).size := by simp [cs]
    obtain ⟨k1, k2⟩ := key cs hcs
    refine ⟨_, k1, k2, ?_⟩
    have hf := fill_all (e := (td P el).size) vs 0 cs hv (by omega)
    simp only [Nat.zero_mul] at hf
    simp only [Instr.buildSlice, Sem.run_bind, run_und' (und_slice ht), Result.andThen_ok, run_sizeOf' hok, if_neg hns, Sem.run_pure, if_neg h0, hz0]
    simp only [cs] at hf
    rw [hf]
    simp only [newRow, Sem.run_bind, run_newObj, Result.andThen_ok, Sem.run_pure]
    rfl

theorem sop_buildSlice {o : Oper} {f : FR} {σ : St} {k : MV → St → Prop} {t el : TypeId} {len : Nat} {parts : Array (Nat × Operand)} (ho : o.op = .buildSlice t len parts) (ht : (td P t).k = .slice el) (hz : (td P el).zok = true)
    (hidx : parts.toList.map (·.1) = List.range len) (hc : ∀ p, p ∈ parts.toList → (∀ c, c ∈ (mval f p.2).cells → c.isCell = true) ∧ (mval f p.2).cells.length = (td P el).size) (hsmall : len * (td P el).size ≤ 16777216) (hmax : len ≤ maxLen)
    (hk : ∀ l, σ l = none → k (.vec (td P el).size l 0 len) (σ.set l (.row el (td P el).size (parts.toList.map fun p => (mval f p.2).cells)))) : sop P o f σ k := by
  intro Φ w a K Q' hi hr hK
  obtain ⟨l', hl', hsl⟩ := inv_eq hi
  have hlen : parts.toList.length = len := by have := congrArg List.length hidx; simpa using this
  have hcell : ∀ p, p ∈ parts.toList → RelC Φ (a.eval p.2).cells (mval f p.2).cells := fun p hp => rel_cells (rel_mval hr p.2) (hc p hp).1
  let vs := parts.toList.map fun p => a.eval p.2
  have hvl : vs.length = len := by simp [vs]; simpa using hlen
  have hvs : ∀ v, v ∈ vs → v.cells.size = (td P el).size := fun v hv => by
    simp only [vs, List.mem_map] at hv
    obtain ⟨p, hp, rfl⟩ := hv
    exact (hcell p hp).1.trans (hc p hp).2
  obtain ⟨c, hc1, hc2, hrun⟩ := run_buildSlice ht hz vs hvs (by rw [hvl]; exact hsmall) w
  have hargs : (parts.map fun p => (p.1, a.eval p.2)) = ((vs.zipIdx 0).map fun p => (p.2, p.1)).toArray := by
    apply Array.ext'
    simp only [Array.toList_map]
    apply List.ext_getElem?
    intro i
    simp only [List.getElem?_map, List.getElem?_zipIdx, vs, Option.map_map]
    have h1 : (parts.toList.map (·.1))[i]? = (List.range len)[i]? := by rw [hidx]
    rw [List.getElem?_map] at h1
    cases hp : parts.toList[i]? with
    | none => simp
    | some p =>
      rw [hp] at h1
      have hil : i < len := by have := (List.getElem?_eq_some_iff.1 hp).1; omega
      rw [List.getElem?_range hil] at h1
      simp at h1 ⊢
      exact h1
  have hxs : (parts.toList.map fun p => (mval f p.2).cells).length = len := by rw [List.length_map, hlen]
  have hflat : ∀ (l : List (Nat × Operand)), (∀ p, p ∈ l → RelC Φ (a.eval p.2).cells (mval f p.2).cells) → ∀ (i : Nat) m, (l.map fun p => (mval f p.2).cells).flatten[i]? = some m → m.isCell = true ∧ ∃ v, ((l.map fun p => a.eval p.2).flatMap fun v => v.cells.toList)[i]? = some v ∧ Rel Φ v m := by
    intro l
    induction l with
    | nil => intro _ i m h; simp at h
    | cons p l ih =>
      intro h i m hm
      have rc := h p (by simp)
      have rl : (a.eval p.2).cells.toList.length = (mval f p.2).cells.length := by simpa using rc.1
      simp only [List.map_cons, List.flatten_cons, List.flatMap_cons] at hm ⊢
      by_cases hi : i < (mval f p.2).cells.length
      · rw [List.getElem?_append_left hi] at hm
        refine ⟨rc.2.1 i m hm, (a.eval p.2).cells.getD i undef, ?_, rc.2.2 i m hm⟩
        rw [List.getElem?_append_left (by omega), Array.getElem?_toList]
        have : i < (a.eval p.2).cells.size := by have := rc.1; omega
        simp [Array.getD_eq_getD_getElem?, Array.getElem?_eq_getElem this]
      · rw [List.getElem?_append_right (by omega)] at hm
        rw [List.getElem?_append_right (by omega), rl]
        exact ih (fun q hq => h q (by simp [hq])) _ m hm
  obtain ⟨i1, s1, r1⟩ := new_row (w' := w.alloc (.cells c el)) (el := el) (e := (td P el).size) (n := len) (C := len) (xs := parts.toList.map fun p => (mval f p.2).cells) (c := c) (fz := (0, 0)) hi hl'
    (fun i x hx => by
      rw [List.getElem?_map, Option.map_eq_some_iff] at hx
      obtain ⟨p, hp, rfl⟩ := hx
      exact (hc p (List.mem_of_getElem? hp)).2) hxs (Nat.le_refl _) hmax rfl rfl rfl rfl (by first | exact Nat.le_refl _ | exact Nat.le_succ _) (.inl (Nat.le_refl _)) (by rw [hc1, hvl]; exact Nat.le_refl _) (fun i m q => by
      obtain ⟨q1, v, q2, q3⟩ := hflat parts.toList hcell i m q
      exact ⟨q1, v, by rw [hc2]; exact q2, q3⟩)
  refine wp_value (v := _) (w' := _) ?_ (hK _ _ _ _ _ r1 i1 s1 (hk l' hsl))
  unfold execOp
  rw [hvl] at hrun
  simp only [ho, hargs, Sem.run_bind, hrun, Result.andThen_ok, Sem.run_pure]

theorem run_asInt' (k : IntKind) (n : Int) (w : World) : (asInt (.int k n)).run P w = .ok n w := rfl

theorem sop_makeSlice {o : Oper} {f : FR} {σ : St} {k : MV → St → Prop} {t el : TypeId} {x y : Operand} (ho : o.op = .makeSlice t x y) (ht : (td P t).k = .slice el) (hz : (td P el).zok = true) {n c : Int} (hx : mval f x = .int .i64 n) (hy : mval f y = .int .i64 c)
    (h0 : 0 ≤ n) (h1 : n ≤ c) (h2 : c ≤ 140737488355328) (h3 : (td P el).bytes * c ≤ 140737488355328)
    (hk : ∀ l, σ l = none → k (.vec (td P el).size l 0 n.toNat) (σ.set l (.row el (td P el).size (List.replicate n.toNat (td P el).zero)))) : sop P o f σ k := by
  intro Φ w a K Q' hi hr hK
  obtain ⟨l', hl', hsl⟩ := inv_eq hi
  obtain ⟨z, hz0, hz1, hz2, hok, hz3, _⟩ := run_zero' hz w
  have hzlen : (td P el).zero.length = (td P el).size := by rw [← hz1, ← hz2]; simp
  obtain ⟨inf, d, hinf, hd, hsz, hby, _⟩ := td_info hok
  have e1 : a.eval x = .int .i64 n := by have := rel_mval hr x; rw [hx] at this; exact this.inv_int
  have e2 : a.eval y = .int .i64 c := by have := rel_mval hr y; rw [hy] at this; exact this.inv_int
  have w1 : IntKind.i64.wrap n = n := IntWalk.i64_in n (by omega)
  have w2 : IntKind.i64.wrap c = c := IntWalk.i64_in c (by omega)
  have rz := zero_relC (P := P) (Φ := Φ) hz1 hz3
  obtain ⟨cells, hcs, hcells, hrun⟩ : ∃ cells : Array Value, cells.size = c.toNat * (td P el).size ∧ (∀ i : Nat, i < c.toNat * (td P el).size → cells[i]? = some (z.cells.getD (i % (td P el).size) undef)) ∧
      (Instr.makeSlice t (a.eval x) (a.eval y)).run P w = .ok (.slice (some ⟨w.heap.size, 0, none⟩) n.toNat c.toNat) (w.alloc (.cells cells el)) := by
    have hneg : ¬ (inf.bytes * c > 2 ^ 48) := by rw [← hby]; omega
    have hc0 : ¬ (c < 0) := by omega
    have hn0 : ¬ (n < 0) := by omega
    have hnc : ¬ (n > c) := by omega
    by_cases hz' : c.toNat * (td P el).size = 0
    · refine ⟨(Array.range (c.toNat * (td P el).size)).map fun x => (#[] : Array Value)[x % (#[] : Array Value).size]!, by simp, fun i hi => by omega, ?_⟩
      simp only [Instr.makeSlice, e1, e2, run_asInt', Sem.run_bind, run_und' (und_slice ht), Result.andThen_ok, Sem.run_pure, typeInfo, run_program, hinf, w1, w2, hneg, hc0, hn0, hnc, decide_false, Bool.or_false, Bool.false_eq_true, if_false, or_self, run_askRoom, run_sizeOf' hok, if_pos hz', newRow, run_newObj]
      rfl
    · refine ⟨(Array.range (c.toNat * (td P el).size)).map fun x => z.cells[x % z.cells.size]!, by simp, fun i hi => ?_, ?_⟩
      · have : i % (td P el).size < z.cells.size := by rw [hz2]; exact Nat.mod_lt _ (Nat.pos_of_ne_zero (fun h => by rw [h] at hi; omega))
        simp [hi, hz2, Array.getD_eq_getD_getElem?, getElem!_def]
        rw [Array.getElem?_eq_getElem this]
        simp
      · simp only [Instr.makeSlice, e1, e2, run_asInt', Sem.run_bind, run_und' (und_slice ht), Result.andThen_ok, Sem.run_pure, typeInfo, run_program, hinf, w1, w2, hneg, hc0, hn0, hnc, decide_false, Bool.or_false, Bool.false_eq_true, if_false, or_self, run_askRoom, run_sizeOf' hok, if_neg hz', hz0, newRow, run_newObj]
        rfl
  have hfl : ∀ (m i : Nat) (q : MV), (List.replicate m (td P el).zero).flatten[i]? = some q → i < m * (td P el).size ∧ (td P el).zero[i % (td P el).size]? = some q := by
    intro m
    induction m with
    | zero => intro i q h; simp at h
    | succ m ih =>
      intro i q h
      rw [List.replicate_succ, List.flatten_cons] at h
      by_cases hi : i < (td P el).zero.length
      · rw [List.getElem?_append_left hi] at h
        rw [Nat.mod_eq_of_lt (by omega), Nat.add_mul, Nat.one_mul]
        exact ⟨by omega, h⟩
      · rw [List.getElem?_append_right (by omega)] at h
        obtain ⟨q1, q2⟩ := ih _ q h
        rw [hzlen] at q1 q2
        rw [Nat.add_mul, Nat.one_mul]
        refine ⟨by omega, ?_⟩
        rw [← q2]
        congr 1
        rw [Nat.mod_eq_sub_mod (by omega)]
  obtain ⟨i1, s1, r1⟩ := new_row (w' := w.alloc (.cells cells el)) (el := el) (e := (td P el).size) (n := n.toNat) (C := c.toNat) (xs := List.replicate n.toNat (td P el).zero) (c := cells) (fz := (0, 0)) hi hl'
    (fun i x hx => by rw [List.getElem?_replicate] at hx; split at hx <;> simp at hx; rw [← hx, hzlen]) (by simp) (by omega) (by simp only [maxLen]; omega) rfl rfl rfl rfl (by first | exact Nat.le_refl _ | exact Nat.le_succ _) (.inl (Nat.le_refl _)) (by rw [hcs]; exact Nat.le_refl _) (fun i m q => by
      obtain ⟨q1, q2⟩ := hfl _ i m q
      refine ⟨rz.2.1 _ m q2, _, hcells i (Nat.lt_of_lt_of_le q1 (Nat.mul_le_mul_right _ (by omega))), rz.2.2 _ m q2⟩)
  refine wp_value (v := _) (w' := _) ?_ (hK _ _ _ _ _ r1 i1 s1 (hk l' hsl))
  unfold execOp
  simp only [ho, Sem.run_bind, hrun, Result.andThen_ok, Sem.run_pure]

/-- The bytes that a row of numbers is. -/
def bytesOf (ys : List (List MV)) : ByteArray := ⟨(ys.map fun y => match y with | [.int .u8 n] => UInt8.ofNat n.toNat | _ => 0).toArray⟩
def isByte : List MV → Bool
  | [.int .u8 _] => true
  | _ => false

theorem sop_toStr {o : Oper} {f : FR} {σ : St} {k : MV → St → Prop} {s d el : TypeId} {x : Operand} (ho : o.op = .convert s d x) (hs : (td P s).k = .slice el) (he : (td P el).k = .int .u8) (hd : (td P d).k = .str) {ys : List (List MV)}
    (hx : msrc σ 1 (mval f x) = some ys) (hsl : ∀ b, mval f x ≠ .str b) (hb : ys.all isByte = true) (hk : k (.str (bytesOf ys)) σ) : sop P o f σ k := by
  intro Φ w a K Q' hi hr hK
  obtain ⟨arr, harr, hrel, hyl⟩ := msrc_sound (P := P) hx hi (rel_mval hr x)
  obtain ⟨ns, hns⟩ : ∃ ns : List Int, ys = ns.map fun n => [.int .u8 n] := by
    clear hx harr hrel hyl hk
    induction ys with
    | nil => exact ⟨[], rfl⟩
    | cons y ys ih =>
      simp only [List.all_cons, Bool.and_eq_true] at hb
      obtain ⟨ns, h⟩ := ih hb.2
      match y, hb.1 with
      | [.int .u8 n], _ => exact ⟨n :: ns, by rw [h]; rfl⟩
  subst hns
  rw [flatten_single] at hrel
  have harr2 : arr = (ns.map (Value.int .u8)).toArray := by
    apply Array.ext_getElem?
    intro i
    by_cases hi' : i < ns.length
    · have h1 := hrel.2.2 i (.int .u8 ns[i]) (by simp [hi'])
      have h2 : i < arr.size := by have := hrel.1; rw [List.length_map] at this; omega
      have h3 := h1.inv_int
      rw [Array.getD_eq_getD_getElem?, Array.getElem?_eq_getElem h2] at h3
      rw [Array.getElem?_eq_getElem h2]
      simp at h3 ⊢
      simp [hi', h3]
    · have h2 : arr.size ≤ i := by have := hrel.1; rw [List.length_map] at this; omega
      rw [Array.getElem?_eq_none h2, Array.getElem?_eq_none (by rw [List.size_toArray, List.length_map]; omega)]
  have hbytes : bytesOf (ns.map fun n => [.int .u8 n]) = ns.foldl (fun r n => r.push (UInt8.ofNat n.toNat)) ByteArray.empty := by
    rw [foldl_push_bytes]
    simp [bytesOf, ByteArray.empty, ByteArray.emptyWithCapacity, List.map_map]
    rfl
  obtain ⟨ad, len, cap, hv⟩ : ∃ ad len cap, a.eval x = .slice ad len cap := by
    have rx := rel_mval hr x
    cases hm : mval f x <;> rw [hm] at rx hx <;> simp [msrc] at hx
    · exact absurd hm (hsl _)
    · exact ⟨_, _, _, rx.inv_nils⟩
    · obtain ⟨ad, cap, h, _⟩ := rx.inv_lst; exact ⟨_, _, _, h⟩
    · obtain ⟨ad, cap, p, h, _⟩ := rx.inv_vec; exact ⟨_, _, _, h⟩
  have hw := harr w rfl
  rw [hv] at hw
  have hlen : len = ns.length := by
    have := hw.1
    simp [Builtin.lenOf] at this
    exact this
  have hrun : (execOp a.eval o).run P w = .ok (.value (.string (bytesOf (ns.map fun n => [.int .u8 n])))) w := by
    unfold execOp
    simp only [ho, hv, Sem.run_bind]
    rw [run_convert_bytes_string w s d el ad len cap (und_slice hs) (und_int he) (und_str hd)]
    cases ad with
    | none =>
      have hz : arr = #[] := by simpa [Builtin.firstCells, eq_comm] using hw.2
      rw [hz] at harr2
      have hns0 : ns = [] := by
        have := congrArg Array.size harr2
        simp at this
        exact List.eq_nil_of_length_eq_zero this.symm
      subst hns0
      rfl
    | some ad =>
      have hld := hw.2
      simp only [Builtin.firstCells, List.length_map, Nat.mul_one] at hld
      rw [run_bytesToString w ad len cap ns (by rw [hlen, hld, harr2]), hbytes]
      rfl
  exact wp_value hrun (hK _ _ _ _ _ (.str _) hi (.refl _ _ _) hk)

theorem sop_ofStr {o : Oper} {f : FR} {σ : St} {k : MV → St → Prop} {s d el : TypeId} {x : Operand} (ho : o.op = .convert s d x) (hs : (td P s).k = .str) (hd : (td P d).k = .slice el) (he : (td P el).k = .int .u8) {b : ByteArray}
    (hx : mval f x = .str b) (hmax : b.size ≤ maxLen) (hk : ∀ l, σ l = none → k (.vec 1 l 0 b.size) (σ.set l (.row el 1 (b.toList.map fun c => [.int .u8 (c.toNat : Int)])))) : sop P o f σ k := by
  intro Φ w a K Q' hi hr hK
  obtain ⟨l', hl', hsl⟩ := inv_eq hi
  have e1 : a.eval x = .string b := by have := rel_mval hr x; rw [hx] at this; exact this.inv_str
  have hbl : b.toList.length = b.size := by rw [ByteArray.toList_eq, Array.length_toList]; rfl
  have hrun := run_bytes_of_string (P := P) w s d el b (und_str hs) (und_slice hd) (und_int he)
  have hcap := grownCap_ge w b.size 0 el
  have hcm := grownCap_le_maxLen w b.size 0 el hmax
  obtain ⟨i1, s1, r1⟩ := new_row (w' := w.drew.alloc (.cells (bytesRow b (grownCap w b.size 0 el)) el ((bytesRow b (grownCap w b.size 0 el)).size, (bytesRow b (grownCap w b.size 0 el)).size + 1))) (el := el) (e := 1) (n := b.size) (C := grownCap w b.size 0 el)
    (xs := b.toList.map fun c => [.int .u8 (c.toNat : Int)]) hi hl' (fun i x hx => by rw [List.getElem?_map, Option.map_eq_some_iff] at hx; obtain ⟨c, _, rfl⟩ := hx; rfl) (by rw [List.length_map, hbl]) hcap hcm rfl rfl rfl rfl (by first | exact Nat.le_refl _ | exact Nat.le_succ _) (.inr (Nat.le_refl _))
    (by
      simp only [bytesRow, Array.size_append, Array.size_map, Array.size_replicate]
      have : b.data.size = b.size := rfl
      omega)
    (fun i m q => by
      rw [flatten_single, List.getElem?_map, Option.map_eq_some_iff] at q
      obtain ⟨c, hc, rfl⟩ := q
      refine ⟨rfl, .int .u8 c.toNat, ?_, .int _ _⟩
      rw [ByteArray.toList_eq, Array.getElem?_toList] at hc
      have hlt := (Array.getElem?_eq_some_iff.1 hc).1
      simp only [bytesRow]
      rw [Array.getElem?_append_left (by simpa using hlt), Array.getElem?_map, hc]
      rfl)
  refine wp_value (v := _) (w' := _) ?_ (hK _ _ _ _ _ r1 i1 s1 (hk l' hsl))
  unfold execOp
  simp only [ho, e1, Sem.run_bind, hrun, Result.andThen_ok, Sem.run_pure]

/-! ### Slices beyond their length; clear -/

theorem sop_vslice {o : Oper} {f : FR} {σ : St} {k : MV → St → Prop} {t el : TypeId} {x y z : Operand} (ho : o.op = .slice t x (some y) (some z) none) (ht : (td P t).k = .slice el) (hok : (td P el).ok = true) {l l0 n : Nat} {tt : TypeId} {xs : List (List MV)}
    (hx : mval f x = .vec (td P el).size l l0 n) (hsl : σ l = some (.row tt (td P el).size xs)) {k1 k2 : IntKind} {a h : Int} (hy : mval f y = .int k1 a) (hz : mval f z = .int k2 h) (h0 : 0 ≤ a) (h1 : a ≤ h) (h2 : l0 + h.toNat ≤ xs.length)
    (hk : k (.vec (td P el).size l (l0 + a.toNat) (h.toNat - a.toNat)) σ) : sop P o f σ k := by
  intro Φ w ac K Q' hi hr hK
  have rx := rel_mval hr x
  have ry := rel_mval hr y
  have rz := rel_mval hr z
  rw [hx] at rx
  rw [hy] at ry
  rw [hz] at rz
  obtain ⟨p0, hp0, hpe0, q1, q2, q3, q4⟩ := hi.own l _ hsl
  have rx' := rx
  generalize hv : ac.eval x = vx at rx rx'
  obtain ⟨ad, cap, p, rfl, hp, hpe, hcap, hncap, hR⟩ := rx'.inv_vec
  rw [hp0] at hp; cases hp
  have e1 := ry.inv_int
  have e2 := rz.inv_int
  refine wp_value (v := _) (w' := w) ?_ (hK _ _ _ Φ w (vec_sliced rx a.toNat h.toNat (by omega) (by omega)) hi (.refl _ _ _) hk)
  unfold execOp
  simp only [ho, hv, Option.map_some, Option.map_none, e1, e2, Sem.run_bind, Instr.sliceAt, run_und' (und_slice ht), Result.andThen_ok, Instr.slice, Instr.sliceBounds, Sem.run_pure]
  rw [run_sliceBound ⟨by omega, by omega⟩]
  simp only [Result.andThen_ok, Option.isSome_none, Bool.false_eq_true, if_false]
  rw [run_sliceBound ⟨by omega, by omega⟩]
  simp only [Result.andThen_ok, run_sizeOf' hok, Sem.run_pure]

/-- Elements laid over a row's. -/
def rowLaid (xs : List (List MV)) (i0 : Nat) (ys : List (List MV)) : List (List MV) := (xs.take i0 ++ ys) ++ xs.drop (i0 + ys.length)

theorem rowLaid_get {xs ys : List (List MV)} {i0 : Nat} (h : i0 + ys.length ≤ xs.length) (i : Nat) : (rowLaid xs i0 ys)[i]? = if i0 ≤ i ∧ i < i0 + ys.length then ys[i - i0]? else xs[i]? := by
  unfold rowLaid
  have hl1 : (xs.take i0).length = i0 := by simp; omega
  have hl2 : (xs.take i0 ++ ys).length = i0 + ys.length := by rw [List.length_append, hl1]
  by_cases h1 : i < i0
  · rw [List.getElem?_append_left (by omega), List.getElem?_append_left (by omega), List.getElem?_take, if_pos h1, if_neg (by omega)]
  · by_cases h2 : i < i0 + ys.length
    · rw [List.getElem?_append_left (by omega), List.getElem?_append_right (by omega), hl1, if_pos ⟨by omega, h2⟩]
    · rw [List.getElem?_append_right (by omega), hl2, List.getElem?_drop, show i0 + ys.length + (i - (i0 + ys.length)) = i from by omega, if_neg (by omega)]

theorem rowLaid_length {xs ys : List (List MV)} {i0 : Nat} (h : i0 + ys.length ≤ xs.length) : (rowLaid xs i0 ys).length = xs.length := by
  simp [rowLaid]; omega

theorem row_laid {Φ : Phi} {w : World} {σ : St} (hi : Inv Φ w σ) {l : Nat} {t : TypeId} {e : Nat} {xs ys : List (List MV)} (hsl : σ l = some (.row t e xs)) {i0 : Nat} (hfit : i0 + ys.length ≤ xs.length)
    (hyl : ∀ (i : Nat) (y : List MV), ys[i]? = some y → y.length = e) {arr : Array Value} (hrel : RelC Φ arr ys.flatten) {p : Place} (hp : Φ.obj l = some p) {R : Nat} (hR : p.blk = some R) {c : Array Value} {fz : Nat × Nat} (hc : w.heap[R]? = some (.cells c t fz)) :
    FzOk c fz ∧ p.bo + i0 * e + arr.toList.length ≤ c.size ∧ Inv Φ (wset w R (.cells (setAll c (p.bo + i0 * e) arr.toList) t fz)) (σ.set l (.row t e (rowLaid xs i0 ys))) ∧
      Step Φ σ w Φ (σ.set l (.row t e (rowLaid xs i0 ys))) (wset w R (.cells (setAll c (p.bo + i0 * e) arr.toList) t fz)) := by
  obtain ⟨p', hp', hpe, q1, q2, q3, q4⟩ := hi.own l _ hsl
  rw [hp] at hp'; cases hp'
  rw [hR] at q4
  obtain ⟨c', fz', k1, k2, k3, k4⟩ := q4
  rw [hc] at k1; cases k1
  have hlt : R < w.heap.size := (Array.getElem?_eq_some_iff.1 hc).1
  have harrl : arr.toList.length = ys.length * e := by
    have := hrel.1
    rw [flatten_length ys hyl] at this
    simpa using this
  have hfit2 : p.bo + i0 * e + arr.toList.length ≤ c.size := by
    rw [harrl]
    have : (i0 + ys.length) * e ≤ p.C * e := Nat.mul_le_mul_right _ (by omega)
    rw [Nat.add_mul] at this
    omega
  refine ⟨k2, hfit2, hi.turn (w' := wset w R (.cells (setAll c (p.bo + i0 * e) arr.toList) t fz)) l hsl _ hp hR wset_size (fun k hk => wset_other hk) rfl rfl rfl (Nat.le_refl _) ?_⟩
  refine ⟨p, hp, hpe, by rw [rowLaid_length hfit]; exact q1, q2, fun i y q => ?_, ?_⟩
  · rw [rowLaid_get hfit] at q
    split at q
    · exact hyl _ y q
    · exact q3 i y q
  · rw [hR]
    refine ⟨_, fz, wset_same hlt, by simpa [FzOk, setAll_size] using k2, by rw [setAll_size]; exact k3, fun i y j m q hm => ?_⟩
    rw [setAll_get? _ _ _ _ hfit2, harrl]
    rw [rowLaid_get hfit] at q
    split at q
    · rename_i hin
      have hjl : j < e := by have := (List.getElem?_eq_some_iff.1 hm).1; have := hyl _ y q; omega
      have hil := (List.getElem?_eq_some_iff.1 q).1
      have hfl := flatten_get ys (i - i0) j y m hyl q hm
      have hlt2 := (List.getElem?_eq_some_iff.1 hfl).1
      have harr1 := hrel.1
      have e3 : (i - i0) * e + j + i0 * e = i * e + j := by
        have : i * e = (i - i0 + i0) * e := by congr 1; omega
        rw [this, Nat.add_mul]
        omega
      have e4 : (i - i0) * e + j < ys.length * e := by
        have : (i - i0 + 1) * e ≤ ys.length * e := Nat.mul_le_mul_right _ (by omega)
        rw [Nat.add_mul, Nat.one_mul] at this
        omega
      rw [if_pos (by omega), show p.bo + (i * e + j) - (p.bo + i0 * e) = (i - i0) * e + j from by omega, Array.getElem?_toList]
      refine ⟨hrel.2.1 _ m hfl, arr.getD ((i - i0) * e + j) undef, ?_, hrel.2.2 _ m hfl⟩
      simp [Array.getD_eq_getD_getElem?, Array.getElem?_eq_getElem (show (i - i0) * e + j < arr.size by omega)]
    · rename_i hout
      have hjl : j < e := by have := (List.getElem?_eq_some_iff.1 hm).1; have := q3 i y q; omega
      rw [if_neg (by
        intro hcon
        rcases Nat.lt_or_ge i i0 with h | h
        · have : (i + 1) * e ≤ i0 * e := Nat.mul_le_mul_right _ h
          rw [Nat.add_mul, Nat.one_mul] at this
          omega
        · have : (i0 + ys.length) * e ≤ i * e := Nat.mul_le_mul_right _ (by omega)
          rw [Nat.add_mul] at this
          omega)]
      exact k4 i y j m q hm

theorem zero_cells {Φ : Phi} {el : TypeId} {z : Value} (hz1 : z.cells.toList.map ofV = (td P el).zero) (hz2 : z.cells.size = (td P el).size) (hz3 : ∀ v, v ∈ z.cells.toList → (ofV v).isCell = true) (h0 : 0 < (td P el).size) : ∀ n, RelC Φ (Builtin.zeroCells z.cells n) (List.replicate n (td P el).zero).flatten := by
  have rz := zero_relC (P := P) (Φ := Φ) hz1 hz3
  have hzlen : (td P el).zero.length = (td P el).size := by rw [← hz1, ← hz2]; simp
  intro n
  have hget : ∀ i : Nat, i < n * (td P el).size → (Builtin.zeroCells z.cells n)[i]? = some (z.cells.getD (i % (td P el).size) undef) := by
    intro i hi
    have : i % (td P el).size < z.cells.size := by rw [hz2]; exact Nat.mod_lt _ h0
    simp only [Builtin.zeroCells]
    simp [hi, hz2, Array.getD_eq_getD_getElem?, getElem!_def]
    rw [Array.getElem?_eq_getElem this]
    simp
  have hfl : ∀ (m i : Nat) (q : MV), (List.replicate m (td P el).zero).flatten[i]? = some q → i < m * (td P el).size ∧ (td P el).zero[i % (td P el).size]? = some q := by
    intro m
    induction m with
    | zero => intro i q h; simp at h
    | succ m ih =>
      intro i q h
      rw [List.replicate_succ, List.flatten_cons] at h
      by_cases hi : i < (td P el).zero.length
      · rw [List.getElem?_append_left hi] at h
        rw [Nat.mod_eq_of_lt (by omega), Nat.add_mul, Nat.one_mul]
        exact ⟨by omega, h⟩
      · rw [List.getElem?_append_right (by omega)] at h
        obtain ⟨q1, q2⟩ := ih _ q h
        rw [hzlen] at q1 q2
        rw [Nat.add_mul, Nat.one_mul]
        refine ⟨by omega, ?_⟩
        rw [← q2]
        congr 1
        rw [Nat.mod_eq_sub_mod (by omega)]
  refine ⟨?_, fun i m h => ?_, fun i m h => ?_⟩
  · simp [Builtin.zeroCells, hz2, hzlen, List.length_flatten]
  · exact rz.2.1 _ m (hfl n i m h).2
  · obtain ⟨q1, q2⟩ := hfl n i m h
    have := hget i q1
    rw [Array.getD_eq_getD_getElem?, this]
    exact rz.2.2 _ m q2

def TK.isInt : TK → Bool
  | .int _ => true
  | _ => false

theorem und_isInt {t : TypeId} (h : (td P t).k.isInt = true) : ∃ k, P.underlying t = some (.int k) := by
  cases hk : (td P t).k <;> rw [hk] at h <;> simp [TK.isInt] at h
  exact ⟨_, und_int hk⟩

/-- append of elements that are made, onto nil. -/
theorem sop_append_zeros {o : Oper} {f : FR} {σ : St} {k : MV → St → Prop} {s x : Operand} {t xt el : TypeId} (ho : o.op = .call { callee := .builtin .append, args := #[s, x], argTypes := #[t, xt] })
    (ht : (td P t).k = .slice el) (hxt : (td P xt).k.isInt = true) (hz : (td P el).zok = true) (h0 : 0 < (td P el).size) {n : Int} (hs : mval f s = .nils) (hx : mval f x = .int .i64 n) (hn : 0 < n)
    (hm : n.toNat ≤ 140737488355328) (hb : n.toNat * (td P el).bytes ≤ 140737488355328)
    (hk : ∀ l, σ l = none → k (.vec (td P el).size l 0 n.toNat) (σ.set l (.row el (td P el).size (List.replicate n.toNat (td P el).zero)))) : sop P o f σ k := by
  intro Φ w a K Q' hi hr hK
  obtain ⟨l', hl', hsl⟩ := inv_eq hi
  have e1 : a.eval s = .slice none 0 0 := by have := rel_mval hr s; rw [hs] at this; exact this.inv_nils
  have e2 : a.eval x = .int .i64 n := by have := rel_mval hr x; rw [hx] at this; exact this.inv_int
  obtain ⟨z, hz0, hz1, hz2, hok, hz3, _⟩ := run_zero' hz w.drew
  have hzlen : (td P el).zero.length = (td P el).size := by rw [← hz1, ← hz2]; simp
  obtain ⟨i, d, hinf, hd, hsz, hby, _⟩ := td_info hok
  obtain ⟨ik, hxu⟩ := und_isInt hxt
  have w1 : IntKind.i64.wrap n = n := IntWalk.i64_in n (by omega)
  have hrun : (Builtin.append_ #[t, xt] o.type #[.slice none 0 0, .int .i64 n]).run P w = .ok (.slice (some ⟨w.heap.size, 0, none⟩) (0 + n.toNat) (grownCap w (0 + n.toNat) 0 el)) (w.drew.alloc (.cells (#[] ++ Builtin.zeroCells z.cells n.toNat ++ Builtin.zeroCells z.cells (grownCap w (0 + n.toNat) 0 el - (0 + n.toNat))) el)) := by
    have hroom : ¬ (0 + n.toNat ≤ 0) := by omega
    have h48' : ¬ (Builtin.nextslicecap (0 + n.toNat) 0 * i.bytes > 2 ^ 48) := by
      rw [← hby]
      have := growslice_fits (show 0 < 0 + n.toNat by omega) (show (0 + n.toNat) * (td P el).bytes ≤ 140737488355328 by rw [Nat.zero_add]; exact hb)
      omega
    have h63 : ¬ (((0 + n.toNat : Nat) : Int) > IntKind.i64.max) := by
      simp only [IntKind.max, IntKind.signed, IntKind.bits]
      simp
      omega
    have hneg : ¬ (n < 0) := by omega
    have hbig : ¬ (n * i.bytes > 2 ^ 48) := by
      rw [← hby]
      have : n * ((td P el).bytes : Int) = ((n.toNat * (td P el).bytes : Nat) : Int) := by
        rw [Int.natCast_mul, Int.toNat_of_nonneg (by omega)]
      omega
    have hns : ¬ (n.toNat * (td P el).size = 0) := by
      have : 0 < n.toNat * (td P el).size := Nat.mul_pos (by omega) h0
      omega
    unfold Builtin.append_
    simp only [World.drew] at hz0
    simp only [List.getElem?_toArray, List.getElem?_cons_zero, List.getElem?_cons_succ, Sem.run_bind, run_und' (und_slice ht), Result.andThen_ok, run_sizeOf' hok, run_und' hxu, Sem.run_pure, if_true, run_asInt', w1, if_neg hneg, typeInfo, run_program, hinf, if_neg hbig,
      if_neg hroom, Bool.not_true, Bool.false_eq_true, if_false, h63, false_and, if_neg h48', run_choose, Question.forced, run_askRoom, if_neg hns]
    simp only [hz0, Builtin.firstCells, Result.andThen_ok, newRow, Sem.run_bind, run_newObj, Sem.run_pure]
    rfl
  obtain ⟨i1, s1, r1⟩ := grown_row (σ1 := σ) (el := el) (n := 0) (m := n.toNat) (cap' := grownCap w (0 + n.toNat) 0 el) (xs := []) (ys := List.replicate n.toNat (td P el).zero) (old := #[]) (arr := Builtin.zeroCells z.cells n.toNat)
    (rest := Builtin.zeroCells z.cells (grownCap w (0 + n.toNat) 0 el - (0 + n.toNat))) hi (fun _ _ q => q) hl' (fun i x hx => by simp at hx) (fun i x hx => by rw [List.getElem?_replicate] at hx; split at hx <;> simp at hx; rw [← hx, hzlen]) rfl (by simp)
    ⟨rfl, fun i m h => by simp at h, fun i m h => by simp at h⟩ (zero_cells (P := P) (Φ := Φ) hz1 hz2 hz3 h0 n.toNat) (by rw [size_zeroCells, hz2]) (grownCap_ge w _ _ el) (grownCap_le_maxLen w _ _ el (by simp only [maxLen]; omega))
  simp only [Nat.zero_add, List.nil_append] at i1 s1 r1 hrun
  refine wp_value (v := _) (w' := _) ?_ (hK _ _ _ _ _ r1 i1 s1 (hk l' hsl))
  rw [run_append_op ho, e1, e2, hrun]
  rfl

theorem sop_clear {o : Oper} {f : FR} {σ : St} {k : MV → St → Prop} {t el : TypeId} {x : Operand} (ho : o.op = .call { callee := .builtin .clear, args := #[x], argTypes := #[t] }) (ht : (td P t).k = .slice el) (hz : (td P el).zok = true) (h0 : 0 < (td P el).size)
    {l l0 n : Nat} {tt : TypeId} {xs : List (List MV)} (hx : mval f x = .vec (td P el).size l l0 n) (hsl : σ l = some (.row tt (td P el).size xs)) (hfit : l0 + n ≤ xs.length)
    (hk : k .junk (σ.set l (.row tt (td P el).size (rowLaid xs l0 (List.replicate n (td P el).zero))))) : sop P o f σ k := by
  intro Φ w ac K Q' hi hr hK
  obtain ⟨z, hz0, hz1, hz2, hok, hz3, _⟩ := run_zero' hz w
  have hzlen : (td P el).zero.length = (td P el).size := by rw [← hz1, ← hz2]; simp
  have rx := rel_mval hr x
  rw [hx] at rx
  generalize hv : ac.eval x = vx at rx
  obtain ⟨ad, cap, p, rfl, hp, hpe, hcap, hncap, hR⟩ := rx.inv_vec
  have hop : ∀ r w', (Builtin.clear_ #[t] o.type #[.slice ad n cap]).run P w = .ok r w' → (execOp ac.eval o).run P w = .ok (.value r) w' := fun r w' h => by
    unfold execOp
    simp only [ho, resolve, List.map_toArray, List.map_cons, List.map_nil, hv, Sem.run_bind, Sem.run_pure, Result.andThen_ok, invoke]
    show Sem.run P (do pure (Next.value (← Builtin.clear_ #[t] o.type #[.slice ad n cap]))) w = _
    simp only [Sem.run_bind, h, Result.andThen_ok, Sem.run_pure]
  by_cases hn : n = 0
  · subst hn
    have hrow : rowLaid xs l0 (List.replicate 0 (td P el).zero) = xs := by simp [rowLaid]
    have hst : σ.set l (.row tt (td P el).size xs) = σ := by
      funext j
      simp only [St.set]
      split
      · rename_i e; rw [e, hsl]
      · rfl
    rw [hrow, hst] at hk
    refine wp_value (hop (.tuple #[]) w ?_) (hK _ _ _ Φ w (.junk _) hi (.refl _ _ _) hk)
    unfold Builtin.clear_
    cases ad <;> simp [run_und' (und_slice ht)]
  · rcases hR with ⟨R, hb, rfl⟩ | hcap0
    · obtain ⟨p', hp', hpe', q1, q2, q3, q4⟩ := hi.own l _ hsl
      rw [hp] at hp'; cases hp'
      rw [hb] at q4
      obtain ⟨c, fz, k1, -⟩ := q4
      have hzc := zero_cells (P := P) (Φ := Φ) hz1 hz2 hz3 h0 n
      obtain ⟨r1, r2, i1, s1⟩ := row_laid hi hsl (i0 := l0) (ys := List.replicate n (td P el).zero) (by simpa using hfit) (fun i y h => by
        rw [List.getElem?_replicate] at h
        split at h <;> simp at h
        rw [← h, hzlen]) hzc hp hb k1
      refine wp_value (hop (.tuple #[]) _ ?_) (hK _ _ _ Φ _ (.junk _) i1 s1 hk)
      unfold Builtin.clear_
      have hn' : ¬ n = 0 := hn
      simp only [List.getElem?_toArray, List.getElem?_cons_zero, Sem.run_bind, run_und' (und_slice ht), Result.andThen_ok]
      cases n with
      | zero => exact absurd rfl hn
      | succ n =>
        simp only [Sem.run_bind, hz0, Result.andThen_ok]
        rw [hpe]
        rw [run_storeCells' (P := P) _ 0 c w k1 r1 (by simpa using r2) (RelC.oneCells hzc)]
        rfl
    · omega

end
end Go.Proofs.Ytielcgplbnlgbaa
