/- Slicing, building, and all operations without memory at once. -/
import Derived.Test.YtielcgplbnlgbaaMl4
set_option linter.unusedVariables false
set_option linter.unusedSimpArgs false
namespace Go.Proofs.Ytielcgplbnlgbaa
section
variable {P : Program} {Φ : Phi}

/-- Cells of the model and of the logic. -/
def RelC (Φ : Phi) (cs : Array Value) (ms : List MV) : Prop :=
  cs.size = ms.length ∧ (∀ (i : Nat) m, ms[i]? = some m → m.isCell = true) ∧ ∀ (i : Nat) m, ms[i]? = some m → Rel Φ (cs.getD i undef) m

theorem RelC.agg {cs : Array Value} {ms : List MV} (h : RelC Φ cs ms) : Rel Φ (.agg cs) (.agg ms) := .agg h.1 h.2.1 h.2.2

theorem oneCell_cells {v : Value} (h : v.oneCell' = true) : v.cells = #[v] := by cases v <;> first | rfl | simp [Value.oneCell'] at h

theorem cell_cells {m : MV} (h : m.isCell = true) : m.cells = [m] := by cases m <;> first | rfl | simp [MV.isCell] at h

theorem rel_cells {v : Value} {m : MV} (r : Rel Φ v m) (hc : ∀ c, c ∈ m.cells → c.isCell = true) : RelC Φ v.cells m.cells := by
  by_cases hm : m.isCell = true
  · rw [oneCell_cells (r.oneCell hm), cell_cells hm]
    exact ⟨rfl, fun i x hx => by cases i <;> simp at hx; exact hx ▸ hm, fun i x hx => by cases i <;> simp at hx; subst hx; exact r⟩
  · cases m <;> simp [MV.isCell] at hm
    · have := hc .junk (by simp [MV.cells]); simp [MV.isCell] at this
    · obtain ⟨cs, rfl, h1, h2, h3⟩ := r.inv_agg
      exact ⟨h1, h2, h3⟩
    · rename_i vs; have := hc (.tup vs) (by simp [MV.cells]); simp [MV.isCell] at this

theorem mem_of_getElem? {α : Type} {l : List α} {i : Nat} {a : α} (h : l[i]? = some a) : a ∈ l := List.mem_of_getElem? h

def setAll (cs : Array Value) (off : Nat) : List Value → Array Value
  | [] => cs
  | c :: r => setAll (cs.setIfInBounds off c) (off + 1) r

theorem setAll_size (l : List Value) : ∀ (cs : Array Value) (off : Nat), (setAll cs off l).size = cs.size := by
  induction l with
  | nil => intro cs off; rfl
  | cons c r ih => intro cs off; simp [setAll, ih]

theorem setAll_getD (l : List Value) : ∀ (cs : Array Value) (off i : Nat) (d : Value), off + l.length ≤ cs.size →
    (setAll cs off l).getD i d = if off ≤ i ∧ i < off + l.length then l.getD (i - off) d else cs.getD i d := by
  induction l with
  | nil => intro cs off i d _; simp [setAll]; omega
  | cons c r ih =>
    intro cs off i d h
    simp only [List.length_cons] at h
    rw [setAll, ih _ _ _ _ (by simp; omega)]
    by_cases h1 : off + 1 ≤ i ∧ i < off + 1 + r.length
    · rw [if_pos h1, if_pos (by simp; omega)]
      obtain ⟨k, rfl⟩ : ∃ k, i = off + 1 + k := ⟨i - (off + 1), by omega⟩
      rw [show off + 1 + k - (off + 1) = k from by omega, show off + 1 + k - off = k + 1 from by omega]
      rfl
    · rw [if_neg h1]
      by_cases h2 : i = off
      · subst h2
        rw [if_pos (by simp)]
        simp [Array.getD_eq_getD_getElem?, Array.getElem?_setIfInBounds, show i < cs.size by omega]
      · rw [if_neg (by simp; omega)]
        simp [Array.getD_eq_getD_getElem?, Array.getElem?_setIfInBounds, Ne.symm h2]

theorem foldl_setAll (l : List Value) : ∀ (k : Nat) (cs : Array Value) (off : Nat),
    (l.zipIdx k).foldl (fun cs (p : Value × Nat) => cs.setIfInBounds (off + p.2) p.1) cs = setAll cs (off + k) l := by
  induction l with
  | nil => intro k cs off; rfl
  | cons c r ih => intro k cs off; simp only [List.zipIdx_cons, List.foldl_cons, setAll]; rw [ih]; rfl

theorem RelC.setAll {cs new : Array Value} {ms nms : List MV} {off : Nat} (h : RelC Φ cs ms) (hn : RelC Φ new nms) (hfit : off + nms.length ≤ ms.length) :
    RelC Φ (setAll cs off new.toList) (laid ms off nms) := by
  have hlen : (laid ms off nms).length = ms.length := by simp [laid]; omega
  have hnl : new.toList.length = nms.length := by simpa using hn.1
  have hget : ∀ i, (laid ms off nms)[i]? = if off ≤ i ∧ i < off + nms.length then nms[i - off]? else ms[i]? := by
    intro i
    unfold laid
    by_cases h1 : i < off
    · rw [if_neg (by omega), List.append_assoc, List.getElem?_append_left (by simp; omega), List.getElem?_take, if_pos h1]
    · by_cases h2 : i < off + nms.length
      · rw [if_pos (by omega), List.append_assoc, List.getElem?_append_right (by simp; omega), List.getElem?_append_left (by simp; omega)]
        simp [show min off ms.length = off by omega]
      · rw [if_neg (by omega), List.getElem?_append_right (by simp; omega), List.getElem?_drop]
        congr 1
        simp
        omega
  refine ⟨by rw [setAll_size, h.1, hlen], fun i m hm => ?_, fun i m hm => ?_⟩
  · rw [hget] at hm
    split at hm
    · exact hn.2.1 _ m hm
    · exact h.2.1 _ m hm
  · rw [hget] at hm
    rw [setAll_getD _ _ _ _ _ (by rw [hnl, h.1]; exact hfit), hnl]
    split at hm
    · rename_i hc
      rw [if_pos hc]
      have := hn.2.2 _ m hm
      simpa [Array.getD_eq_getD_getElem?, List.getD] using this
    · rename_i hc
      rw [if_neg hc]
      exact h.2.2 _ m hm

theorem fill_sound {f : FR} {a : Act} (hr : FRel Φ a.tmps f) (place : Nat → Option (Nat × TypeId)) (pl : Nat → Option (Nat × Nat))
    (hpl : ∀ i off t, place i = some (off, t) → (td P t).ok = true → pl i = some (off, (td P t).size)) :
    ∀ (parts : List (Nat × Operand)) (cs : Array Value) (ms : List MV) (C : Prop) (r : List MV), RelC Φ cs ms → buildFrom P f place parts ms = some (C, r) → C →
      ∃ cs', Instr.fill pl cs (parts.map fun p => (p.1, a.eval p.2)) = some cs' ∧ RelC Φ cs' r := by
  intro parts
  induction parts with
  | nil =>
    intro cs ms C r h hb hC
    simp only [buildFrom, Option.some.injEq, Prod.mk.injEq] at hb
    obtain ⟨_, rfl⟩ := hb
    exact ⟨cs, rfl, h⟩
  | cons p rest ih =>
    obtain ⟨i, x⟩ := p
    intro cs ms C r h hb hC
    simp only [buildFrom] at hb
    cases hp : place i with
    | none => simp [hp] at hb
    | some q =>
      obtain ⟨off, ft⟩ := q
      simp only [hp] at hb
      cases hb2 : buildFrom P f place rest (laid ms off (mval f x).cells) with
      | none => simp [hb2] at hb
      | some q =>
        obtain ⟨C2, r2⟩ := q
        simp only [hb2, Option.some.injEq, Prod.mk.injEq] at hb
        obtain ⟨rfl, rfl⟩ := hb
        obtain ⟨⟨hok, hlen, hcell, hfit⟩, hC2⟩ := hC
        have rc := rel_cells (rel_mval hr x) hcell
        obtain ⟨cs', h1, h2⟩ := ih _ _ C2 r2 (h.setAll rc hfit) hb2 hC2
        refine ⟨cs', ?_, h2⟩
        simp only [List.map_cons, Instr.fill, hpl i off ft hp hok]
        have e1 : (a.eval x).cells.size = (td P ft).size := rc.1.trans hlen
        rw [if_neg (by
          have e2 := rc.1
          have e3 := h.1
          simp only [e1, ne_eq, not_true_eq_false, decide_false, Bool.false_or, decide_eq_true_eq]
          omega)]
        rw [← h1]
        congr 1
        rw [← Array.foldl_toList, Array.toList_zipIdx]
        exact foldl_setAll _ 0 _ _

theorem zero_relC {t : TypeId} {z : Value} (h1 : z.cells.toList.map ofV = (td P t).zero) (h2 : ∀ v, v ∈ z.cells.toList → (ofV v).isCell = true) : RelC Φ z.cells (td P t).zero := by
  refine ⟨by rw [← h1]; simp, fun i m hm => ?_, fun i m hm => ?_⟩
  · rw [← h1, List.getElem?_map] at hm
    simp only [Option.map_eq_some_iff] at hm
    obtain ⟨v, hv, rfl⟩ := hm
    exact h2 v (List.mem_of_getElem? hv)
  · rw [← h1, List.getElem?_map] at hm
    simp only [Option.map_eq_some_iff] at hm
    obtain ⟨v, hv, rfl⟩ := hm
    have : z.cells.getD i undef = v := by
      rw [Array.getElem?_toList] at hv
      simp [Array.getD_eq_getD_getElem?, hv]
    rw [this]
    exact rel_ofV Φ v

theorem run_places (fs : List Field) (h : (fs.all fun x => (td P x.type).ok) = true) (w : World) :
    (fs.mapM (m := Sem) fun f => do pure (f.offset, ← sizeOf f.type)).run P w = .ok (fs.map fun f => (f.offset, (td P f.type).size)) w := by
  induction fs with
  | nil => simp
  | cons f fs ih =>
    simp only [List.all_cons, Bool.and_eq_true] at h
    simp only [List.mapM_cons, Sem.run_bind, run_sizeOf' h.1, Result.andThen_ok, Sem.run_pure, ih h.2, List.map_cons]

theorem mbuild_sound {f : FR} {a : Act} (hr : FRel Φ a.tmps f) {t : TypeId} {parts : Array (Nat × Operand)} {C : Prop} {mv : MV} (h : mbuild P f t parts = some (C, mv)) (hC : C) :
    ∃ v, (∀ w, (Instr.build t (parts.map fun p => (p.1, a.eval p.2))).run P w = .ok v w) ∧ Rel Φ v mv := by
  unfold mbuild at h
  split at h
  · rename_i fs hk
    obtain ⟨fa, hu, rfl⟩ := und_struct hk
    split at h
    · rename_i C2 cs hb
      simp only [Option.some.injEq, Prod.mk.injEq] at h; obtain ⟨rfl, rfl⟩ := h
      obtain ⟨hz, hall, hC2⟩ := hC
      obtain ⟨z, hzr, hz1, hz2, hok, hz3, _⟩ := run_zero' (P := P) hz default
      have hz' : ∀ w, (zeroValue t).run P w = .ok z w := fun w => by
        obtain ⟨z', h', _⟩ := run_zero' (P := P) hz w
        have : z' = z := by
          simp only [zeroValue, typeInfo, Sem.run_bind, run_program, Result.andThen_ok] at hzr h'
          obtain ⟨i, d, hi, _⟩ := td_info hok
          simp only [hi, Sem.run_pure, Result.andThen_ok] at hzr h'
          cases hzz : i.zero with
          | none => simp [hzz] at hzr
          | some y => simp [hzz] at hzr h'; rw [← hzr, ← h']
        rw [h', this]
      obtain ⟨cs', hf, hrel⟩ := fill_sound (P := P) hr _ (fun i => (fa.toList.map fun f => (f.offset, (td P f.type).size))[i]?) (fun i off ft hp hokf => by
        simp only [List.getElem?_map, Array.getElem?_toList, Option.map_eq_some_iff] at hp ⊢
        obtain ⟨fd, hfd, he⟩ := hp
        obtain ⟨rfl, rfl⟩ := Prod.mk.injEq .. ▸ he
        exact ⟨fd, hfd, rfl⟩) parts.toList z.cells _ _ _ (zero_relC hz1 hz3) hb hC2
      refine ⟨.agg cs', fun w => ?_, hrel.agg⟩
      simp only [Instr.build, Sem.run_bind, hz', Result.andThen_ok, run_und' hu]
      have hm := run_places (P := P) fa.toList (by simpa using hall) w
      rw [← Array.toList_mapM] at hm
      simp only [Sem.run_map] at hm
      generalize hg : (Array.mapM (m := Sem) (fun f => do pure (f.offset, ← sizeOf f.type)) fa).run P w = res at hm ⊢
      cases res with
      | halt x w' => simp at hm
      | ok places w' =>
        simp only [Result.andThen_ok, Result.ok.injEq] at hm ⊢
        obtain ⟨hm, rfl⟩ := hm
        have e : (fun (x : Nat) => places[x]?) = fun (i : Nat) => (fa.toList.map fun f => (f.offset, (td P f.type).size))[i]? := by
          funext i
          rw [← hm, Array.getElem?_toList]
        rw [Array.toList_map, e, hf]
        rfl
    · cases h
  · rename_i n el hk
    split at h
    · rename_i C2 cs hb
      simp only [Option.some.injEq, Prod.mk.injEq] at h; obtain ⟨rfl, rfl⟩ := h
      obtain ⟨hz, hokel, hC2⟩ := hC
      obtain ⟨z, hzr, hz1, hz2, hok, hz3, _⟩ := run_zero' (P := P) hz default
      have hz' : ∀ w, (zeroValue t).run P w = .ok z w := fun w => by
        obtain ⟨z', h', _⟩ := run_zero' (P := P) hz w
        have : z' = z := by
          simp only [zeroValue, typeInfo, Sem.run_bind, run_program, Result.andThen_ok] at hzr h'
          obtain ⟨i, d, hi, _⟩ := td_info hok
          simp only [hi, Sem.run_pure, Result.andThen_ok] at hzr h'
          cases hzz : i.zero with
          | none => simp [hzz] at hzr
          | some y => simp [hzz] at hzr h'; rw [← hzr, ← h']
        rw [h', this]
      obtain ⟨cs', hf, hrel⟩ := fill_sound (P := P) hr _ (fun i => some (i * (td P el).size, (td P el).size)) (fun i off ft hp hokf => by
        simp only [Option.some.injEq, Prod.mk.injEq] at hp
        obtain ⟨rfl, rfl⟩ := hp
        rfl) parts.toList z.cells _ _ _ (zero_relC hz1 hz3) hb hC2
      refine ⟨.agg cs', fun w => ?_, hrel.agg⟩
      simp only [Instr.build, Sem.run_bind, hz', Result.andThen_ok, run_und' (und_array hk), run_sizeOf' hokel]
      rw [Array.toList_map, hf]
      rfl
    · cases h
  · cases h

theorem lst_sliced {a : Option Addr} {len cap e : Nat} {xs : List (List MV)} {t : Bool} (r : Rel Φ (.slice a len cap) (.lst e xs t)) (l h m : Nat) (t' : Bool) (hl : l ≤ h) (hh : h ≤ xs.length) (hm : h ≤ m) (hmc : m ≤ cap) (ht : t' = true → m = h) :
    Rel Φ (.slice (if m = l then a else a.map (·.add (l * e))) (h - l) (m - l)) (.lst e ((xs.take h).drop l) t') := by
  obtain ⟨a', cap', he, h1, h2, h3, h4, h5⟩ := r.inv_lst
  simp only [Value.slice.injEq] at he
  obtain ⟨rfl, rfl, rfl⟩ := he
  refine Rel.mk_lst (by simp; omega) (by omega) (by omega) (fun q => by rw [ht q]) (fun q => ?_) (fun q => ?_)
  · have : a = none := by
      split at q
      · exact q
      · cases a <;> simp at q ⊢
    have := h4 this
    omega
  · obtain ⟨b, off, rfl, hat⟩ := h5 (by omega)
    rw [if_neg (by omega)]
    exact ⟨b, off + l * e, by simp [add_none], hat.take.drop⟩

theorem vec_sliced {a : Option Addr} {n cap e lo l0 : Nat} (r : Rel Φ (.slice a n cap) (.vec e l0 lo n)) (l h : Nat) (hl : l ≤ h) (hh : h ≤ cap) :
    Rel Φ (.slice (if cap = l then a else a.map (·.add (l * e))) (h - l) (cap - l)) (.vec e l0 (lo + l) (h - l)) := by
  obtain ⟨a', cap', p, he, ho, rfl, hcap, hn, hR⟩ := r.inv_vec
  simp only [Value.slice.injEq] at he
  obtain ⟨rfl, _, rfl⟩ := he
  by_cases hc : cap = l
  · rw [if_pos hc]
    have e1 : h - l = 0 := by omega
    have e2 : cap - l = 0 := by omega
    rw [e1, e2]
    cases a with
    | none =>
      have hcap0 : cap = 0 := by
        rcases hR with ⟨R, _, q⟩ | q
        · cases q
        · exact q
      subst hcap0
      subst hc
      obtain rfl : n = 0 := by omega
      simpa using r
    | some a => exact .vec0 a ho (by omega)
  · rw [if_neg hc]
    rcases hR with ⟨R, hb, rfl⟩ | q
    · have := Rel.vec (Φ := Φ) (l := l0) (lo := lo + l) (n := h - l) (cap := cap - l) ho hb (by omega) (by omega)
      simpa [add_none, Nat.add_mul, Nat.add_assoc] using this
    · omega

theorem run_sliceBound {i : Int} {k : IntKind} {y : Nat} {code : BoundsCode} (h : 0 ≤ i ∧ i ≤ y) (w : World) : (Instr.sliceBound (.int k i) y code).run P w = .ok i.toNat w := by
  simp only [Instr.sliceBound, Sem.run_bind, run_asIntOf, Result.andThen_ok, Sem.run_ite, if_pos h, Sem.run_pure]

theorem chunks_get (e : Nat) : ∀ (n : Nat) (cs : List MV) (i : Nat) (x : List MV), (chunks e n cs)[i]? = some x → i < n ∧ x = (cs.drop (i * e)).take e := by
  intro n
  induction n with
  | zero => intro cs i x h; simp [chunks] at h
  | succ n ih =>
    intro cs i x h
    cases i with
    | zero => simp [chunks] at h; exact ⟨by omega, by simp [h]⟩
    | succ i =>
      simp only [chunks, List.getElem?_cons_succ] at h
      obtain ⟨h1, h2⟩ := ih _ _ _ h
      refine ⟨by omega, ?_⟩
      rw [h2, List.drop_drop, Nat.add_mul, Nat.one_mul, Nat.add_comm]

theorem chunks_length (e : Nat) : ∀ (n : Nat) (cs : List MV), (chunks e n cs).length = n := by
  intro n
  induction n with
  | zero => intro cs; rfl
  | succ n ih => intro cs; simp [chunks, ih]

theorem mslice_sound {t : TypeId} {x : MV} {lo hi mx : Option MV} {C : Prop} {mv : MV} (h : mslice P t x lo hi mx = some (C, mv)) (hC : C) {v1 : Value} {lo' hi' mx' : Option Value} (r1 : Rel Φ v1 x)
    (rl : ∀ m, lo = some m → ∃ v, lo' = some v ∧ Rel Φ v m) (rl0 : lo = none → lo' = none) (rh : ∀ m, hi = some m → ∃ v, hi' = some v ∧ Rel Φ v m) (rh0 : hi = none → hi' = none)
    (rm : ∀ m, mx = some m → ∃ v, mx' = some v ∧ Rel Φ v m) (rm0 : mx = none → mx' = none) :
    ∃ v, (∀ w, (Instr.sliceAt t v1 lo' hi' mx').run P w = .ok v w) ∧ Rel Φ v mv := by
  unfold mslice at h
  split at h
  · -- string, both
    rename_i s k1 l k2 hh
    simp only [Option.some.injEq, Prod.mk.injEq] at h; obtain ⟨rfl, rfl⟩ := h
    obtain ⟨hk, h0, h1, h2⟩ := hC
    obtain ⟨_, rfl, q1⟩ := rl _ rfl; obtain ⟨_, rfl, q2⟩ := rh _ rfl; cases rm0 rfl
    cases q1.inv_int; cases q2.inv_int; cases r1.inv_str
    refine ⟨_, fun w => ?_, .str _⟩
    simp only [Instr.sliceAt, Sem.run_bind, run_und' (und_str hk), Result.andThen_ok, Instr.slice, Option.isSome_none, Bool.false_eq_true, if_false, Instr.sliceBounds, Sem.run_pure]
    rw [run_sliceBound ⟨by omega, by omega⟩]
    simp only [Result.andThen_ok]
    rw [run_sliceBound ⟨by omega, by omega⟩]
    rfl
  · rename_i s k2 hh
    simp only [Option.some.injEq, Prod.mk.injEq] at h; obtain ⟨rfl, rfl⟩ := h
    obtain ⟨hk, h0, h1⟩ := hC
    cases rl0 rfl; obtain ⟨_, rfl, q2⟩ := rh _ rfl; cases rm0 rfl
    cases q2.inv_int; cases r1.inv_str
    refine ⟨_, fun w => ?_, .str _⟩
    simp only [Instr.sliceAt, Sem.run_bind, run_und' (und_str hk), Result.andThen_ok, Instr.slice, Option.isSome_none, Bool.false_eq_true, if_false, Instr.sliceBounds, Sem.run_pure]
    rw [run_sliceBound ⟨by omega, by omega⟩]
    rfl
  · rename_i s k1 l
    simp only [Option.some.injEq, Prod.mk.injEq] at h; obtain ⟨rfl, rfl⟩ := h
    obtain ⟨hk, h0, h1⟩ := hC
    obtain ⟨_, rfl, q1⟩ := rl _ rfl; cases rh0 rfl; cases rm0 rfl
    cases q1.inv_int; cases r1.inv_str
    refine ⟨_, fun w => ?_, .str _⟩
    simp only [Instr.sliceAt, Sem.run_bind, run_und' (und_str hk), Result.andThen_ok, Instr.slice, Option.isSome_none, Bool.false_eq_true, if_false, Instr.sliceBounds, Sem.run_pure]
    rw [run_sliceBound ⟨by omega, by omega⟩]
    rfl
  · rename_i lo hi mx e xs tt
    split at h
    · rename_i el hk
      obtain ⟨a, cap, rfl, c1, c2, c3, c4, _⟩ := r1.inv_lst
      split at h
      · rename_i k1 l k2 hh
        simp only [Option.some.injEq, Prod.mk.injEq] at h; obtain ⟨rfl, rfl⟩ := h
        obtain ⟨hok, hsz, h0, h1, h2⟩ := hC
        obtain ⟨_, rfl, q1⟩ := rl _ rfl; obtain ⟨_, rfl, q2⟩ := rh _ rfl; cases rm0 rfl
        cases q1.inv_int; cases q2.inv_int
        refine ⟨_, fun w => ?_, lst_sliced r1 l.toNat hh.toNat cap _ (by omega) (by omega) (by omega) (Nat.le_refl _) (fun q => by simp at q; rw [c3 q.1, q.2])⟩
        simp only [Instr.sliceAt, Sem.run_bind, run_und' (und_slice hk), Result.andThen_ok, Instr.slice, Instr.sliceBounds, Sem.run_pure]
        rw [run_sliceBound ⟨by omega, by omega⟩]
        simp only [Result.andThen_ok, Option.isSome_none, Bool.false_eq_true, if_false]
        rw [run_sliceBound ⟨by omega, by omega⟩]
        simp only [Result.andThen_ok, run_sizeOf' hok, hsz, Sem.run_pure]
      · rename_i k2 hh
        simp only [Option.some.injEq, Prod.mk.injEq] at h; obtain ⟨rfl, rfl⟩ := h
        obtain ⟨hok, hsz, h0, h1⟩ := hC
        cases rl0 rfl; obtain ⟨_, rfl, q2⟩ := rh _ rfl; cases rm0 rfl
        cases q2.inv_int
        have := lst_sliced r1 0 hh.toNat cap (tt && decide (hh.toNat = xs.length)) (by omega) (by omega) (by omega) (Nat.le_refl _) (fun q => by simp at q; rw [c3 q.1, q.2])
        refine ⟨_, fun w => ?_, by simpa only [List.drop_zero, Nat.sub_zero, Nat.zero_mul, List.take_length, Nat.add_zero] using this⟩
        simp only [Instr.sliceAt, Sem.run_bind, run_und' (und_slice hk), Result.andThen_ok, Instr.slice, Instr.sliceBounds, Sem.run_pure]
        rw [run_sliceBound ⟨by omega, by omega⟩]
        simp only [Result.andThen_ok, run_sizeOf' hok, hsz, Sem.run_pure, Nat.zero_mul, Nat.sub_zero]
      · rename_i k1 l
        simp only [Option.some.injEq, Prod.mk.injEq] at h; obtain ⟨rfl, rfl⟩ := h
        obtain ⟨hok, hsz, h0, h1⟩ := hC
        obtain ⟨_, rfl, q1⟩ := rl _ rfl; cases rh0 rfl; cases rm0 rfl
        cases q1.inv_int
        have := lst_sliced r1 l.toNat xs.length cap tt (by omega) (by omega) (by omega) (Nat.le_refl _) (fun q => c3 q)
        refine ⟨_, fun w => ?_, by simpa only [List.drop_zero, Nat.sub_zero, Nat.zero_mul, List.take_length, Nat.add_zero] using this⟩
        simp only [Instr.sliceAt, Sem.run_bind, run_und' (und_slice hk), Result.andThen_ok, Instr.slice, Instr.sliceBounds, Sem.run_pure, Option.isSome_none, Bool.false_eq_true, if_false]
        rw [run_sliceBound ⟨by omega, by omega⟩]
        simp only [Result.andThen_ok, run_sizeOf' hok, hsz, Sem.run_pure]
      · rename_i k2 hh k3 m
        simp only [Option.some.injEq, Prod.mk.injEq] at h; obtain ⟨rfl, rfl⟩ := h
        obtain ⟨hok, hsz, h0, h1, h2⟩ := hC
        cases rl0 rfl; obtain ⟨_, rfl, q2⟩ := rh _ rfl; obtain ⟨_, rfl, q3⟩ := rm _ rfl
        cases q2.inv_int; cases q3.inv_int
        have := lst_sliced r1 0 hh.toNat m.toNat (decide (hh = m)) (by omega) (by omega) (by omega) (by omega) (fun q => by simp at q; rw [q])
        refine ⟨_, fun w => ?_, by simpa only [List.drop_zero, Nat.sub_zero, Nat.zero_mul, List.take_length, Nat.add_zero] using this⟩
        simp only [Instr.sliceAt, Sem.run_bind, run_und' (und_slice hk), Result.andThen_ok, Instr.slice, Instr.sliceBounds, Sem.run_pure, if_true]
        rw [run_sliceBound ⟨by omega, by omega⟩]
        simp only [Result.andThen_ok]
        rw [run_sliceBound ⟨by omega, by omega⟩]
        simp only [Result.andThen_ok, run_sizeOf' hok, hsz, Sem.run_pure, Nat.zero_mul, Nat.sub_zero]
      · rename_i k1 l k2 hh k3 m
        simp only [Option.some.injEq, Prod.mk.injEq] at h; obtain ⟨rfl, rfl⟩ := h
        obtain ⟨hok, hsz, h0, h1, h2, h3⟩ := hC
        obtain ⟨_, rfl, q1⟩ := rl _ rfl; obtain ⟨_, rfl, q2⟩ := rh _ rfl; obtain ⟨_, rfl, q3⟩ := rm _ rfl
        cases q1.inv_int; cases q2.inv_int; cases q3.inv_int
        refine ⟨_, fun w => ?_, lst_sliced r1 l.toNat hh.toNat m.toNat (decide (hh = m)) (by omega) (by omega) (by omega) (by omega) (fun q => by simp at q; rw [q])⟩
        simp only [Instr.sliceAt, Sem.run_bind, run_und' (und_slice hk), Result.andThen_ok, Instr.slice, Instr.sliceBounds, Sem.run_pure, if_true, Option.isSome_some]
        rw [run_sliceBound ⟨by omega, by omega⟩]
        simp only [Result.andThen_ok]
        rw [run_sliceBound ⟨by omega, by omega⟩]
        simp only [Result.andThen_ok]
        rw [run_sliceBound ⟨by omega, by omega⟩]
        simp only [Result.andThen_ok, run_sizeOf' hok, hsz, Sem.run_pure]
      · cases h
    · cases h
  · rename_i lo hi mx e l0 lo0 n
    split at h
    · rename_i el hk
      obtain ⟨a, cap, p, rfl, ho, hpe, c1, c2, _⟩ := r1.inv_vec
      split at h
      · rename_i k1 l k2 hh
        simp only [Option.some.injEq, Prod.mk.injEq] at h; obtain ⟨rfl, rfl⟩ := h
        obtain ⟨hok, hsz, h0, h1, h2⟩ := hC
        obtain ⟨_, rfl, q1⟩ := rl _ rfl; obtain ⟨_, rfl, q2⟩ := rh _ rfl; cases rm0 rfl
        cases q1.inv_int; cases q2.inv_int
        refine ⟨_, fun w => ?_, vec_sliced r1 l.toNat hh.toNat (by omega) (by omega)⟩
        simp only [Instr.sliceAt, Sem.run_bind, run_und' (und_slice hk), Result.andThen_ok, Instr.slice, Instr.sliceBounds, Sem.run_pure]
        rw [run_sliceBound ⟨by omega, by omega⟩]
        simp only [Result.andThen_ok, Option.isSome_none, Bool.false_eq_true, if_false]
        rw [run_sliceBound ⟨by omega, by omega⟩]
        simp only [Result.andThen_ok, run_sizeOf' hok, hsz, Sem.run_pure]
      · rename_i k2 hh
        simp only [Option.some.injEq, Prod.mk.injEq] at h; obtain ⟨rfl, rfl⟩ := h
        obtain ⟨hok, hsz, h0, h1⟩ := hC
        cases rl0 rfl; obtain ⟨_, rfl, q2⟩ := rh _ rfl; cases rm0 rfl
        cases q2.inv_int
        have := vec_sliced r1 0 hh.toNat (by omega) (by omega)
        refine ⟨_, fun w => ?_, by simpa only [List.drop_zero, Nat.sub_zero, Nat.zero_mul, List.take_length, Nat.add_zero] using this⟩
        simp only [Instr.sliceAt, Sem.run_bind, run_und' (und_slice hk), Result.andThen_ok, Instr.slice, Instr.sliceBounds, Sem.run_pure]
        rw [run_sliceBound ⟨by omega, by omega⟩]
        simp only [Result.andThen_ok, run_sizeOf' hok, hsz, Sem.run_pure, Nat.zero_mul, Nat.sub_zero]
      · rename_i k1 l
        simp only [Option.some.injEq, Prod.mk.injEq] at h; obtain ⟨rfl, rfl⟩ := h
        obtain ⟨hok, hsz, h0, h1⟩ := hC
        obtain ⟨_, rfl, q1⟩ := rl _ rfl; cases rh0 rfl; cases rm0 rfl
        cases q1.inv_int
        refine ⟨_, fun w => ?_, vec_sliced r1 l.toNat n (by omega) (by omega)⟩
        simp only [Instr.sliceAt, Sem.run_bind, run_und' (und_slice hk), Result.andThen_ok, Instr.slice, Instr.sliceBounds, Sem.run_pure, Option.isSome_none, Bool.false_eq_true, if_false]
        rw [run_sliceBound ⟨by omega, by omega⟩]
        simp only [Result.andThen_ok, run_sizeOf' hok, hsz, Sem.run_pure]
      · rename_i k1 l k2 hh k3 m
        simp only [Option.some.injEq, Prod.mk.injEq] at h; obtain ⟨rfl, rfl⟩ := h
        obtain ⟨hok, hsz, h0, h1, h2, h3⟩ := hC
        obtain ⟨_, rfl, q1⟩ := rl _ rfl; obtain ⟨_, rfl, q2⟩ := rh _ rfl; obtain ⟨_, rfl, q3⟩ := rm _ rfl
        cases q1.inv_int; cases q2.inv_int; cases q3.inv_int
        refine ⟨.slice (if m.toNat = l.toNat then a else a.map (·.add (l.toNat * e))) (hh.toNat - l.toNat) (m.toNat - l.toNat), fun w => ?_, .junk _⟩
        simp only [Instr.sliceAt, Sem.run_bind, run_und' (und_slice hk), Result.andThen_ok, Instr.slice, Instr.sliceBounds, Sem.run_pure, if_true, Option.isSome_some]
        rw [run_sliceBound ⟨by omega, by omega⟩]
        simp only [Result.andThen_ok]
        rw [run_sliceBound ⟨by omega, by omega⟩]
        simp only [Result.andThen_ok]
        rw [run_sliceBound ⟨by omega, by omega⟩]
        simp only [Result.andThen_ok, run_sizeOf' hok, hsz, Sem.run_pure]
      · cases h
    · cases h
  · rename_i cs
    split at h
    · rename_i n el hk
      simp only [Option.some.injEq, Prod.mk.injEq] at h; obtain ⟨rfl, rfl⟩ := h
      obtain ⟨hok, h0, h1, h2⟩ := hC
      cases rl0 rfl; cases rh0 rfl; cases rm0 rfl
      obtain ⟨b, off, vs, rfl, hc, hr⟩ := r1.inv_cptr
      refine ⟨.slice (some ⟨b, off, none⟩) n n, fun w => ?_, Rel.mk_lst (chunks_length _ _ _) (Nat.le_refl _) (by simpa [maxLen] using h2) (fun _ => rfl) (by simp) (fun _ => ⟨b, off, rfl, fun i x hx => ?_, fun i j => vs (i * (td P el).size + j), fun i x j m hx hm => ?_⟩)⟩
      · simp only [Instr.sliceAt, Sem.run_bind, run_und' (und_array hk), Result.andThen_ok, run_sureAddr, Instr.sliceBounds, Sem.run_pure, run_sizeOf' hok, Nat.zero_mul, add_none, Nat.sub_zero, Nat.add_zero, if_neg (show ¬ n = 0 by omega)]
      · obtain ⟨hi, rfl⟩ := chunks_get _ _ _ _ _ hx
        have : (i + 1) * (td P el).size ≤ n * (td P el).size := Nat.mul_le_mul_right _ hi
        rw [Nat.add_mul, Nat.one_mul, Nat.mul_comm n] at this
        simp
        omega
      · obtain ⟨hi, rfl⟩ := chunks_get _ _ _ _ _ hx
        rw [List.getElem?_take] at hm
        split at hm
        · rw [List.getElem?_drop] at hm
          have := hc _ m hm
          exact ⟨this.1, this.2, hr _ m hm⟩
        · cases hm
    · cases h
  · split at h
    · rename_i el hk
      simp only [Option.some.injEq, Prod.mk.injEq] at h; obtain ⟨rfl, rfl⟩ := h
      obtain ⟨hok, h0⟩ := hC
      subst h0
      cases rl0 rfl; obtain ⟨_, rfl, q2⟩ := rh _ rfl; cases rm0 rfl
      cases q2.inv_int
      cases r1.inv_nils
      refine ⟨_, fun w => ?_, .nils⟩
      simp only [Instr.sliceAt, Sem.run_bind, run_und' (und_slice hk), Result.andThen_ok, Instr.slice, Instr.sliceBounds, Sem.run_pure, Option.isSome_none, Bool.false_eq_true, if_false]
      rw [run_sliceBound ⟨by omega, by omega⟩]
      simp only [Result.andThen_ok, run_sizeOf' hok, Sem.run_pure, Int.toNat_zero, Nat.sub_zero, if_true]
    · cases h
  · cases h

end
end Go.Proofs.Ytielcgplbnlgbaa
