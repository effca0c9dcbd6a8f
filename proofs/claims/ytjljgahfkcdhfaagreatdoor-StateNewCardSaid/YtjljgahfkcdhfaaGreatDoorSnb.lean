/- Parts of the proof, joined. Each part says what it proves, and under which conditions it does: those that its theorems name. -/
import Derived.Test.YtjljgahfkcdhfaaGreatDoorSna
set_option linter.unusedVariables false
set_option linter.unusedSimpArgs false
set_option maxHeartbeats 4000000
section
namespace Go.Proofs.YtjljgahfkcdhfaaGreatDoor
section
variable {P : Program} {Φ : Phi}
def RelC (Φ : Phi) (cs : Array Value) (ms : List MV) : Prop :=
 cs.size = ms.length ∧ (∀ (i : Nat) m, ms[i]? = some m → m.isCell = true) ∧ ∀ (i : Nat) m, ms[i]? = some m → Rel Φ (cs.getD i undef) m
theorem RelC.agg {cs : Array Value} {ms : List MV} (h : RelC Φ cs ms) : Rel Φ (.agg cs) (.agg ms) := .agg h.1 h.2.1 h.2.2
theorem oneCell_cells {v : Value} (h : v.oneCell' = true) : v.cells = #[v] := by cases v <;> first | rfl | simp [Value.oneCell'] at h
theorem cell_cells {m : MV} (h : m.isCell = true) : m.cells = [m] := by cases m <;> first | rfl | simp [MV.isCell] at h
theorem rel_cells {v : Value} {m : MV} (r : Rel Φ v m) (hc : ∀ c, c ∈ m.cells → c.isCell = true) : RelC Φ v.cells m.cells := by
 by_cases hm : m.isCell = true
 ·rw [oneCell_cells (r.oneCell hm), cell_cells hm]
  exact ⟨rfl, fun i x hx => by cases i <;> simp at hx; exact hx ▸ hm, fun i x hx => by cases i <;> simp at hx; subst hx; exact r⟩
 ·cases m <;> simp [MV.isCell] at hm
  ·have := hc .junk (by simp [MV.cells]); simp [MV.isCell] at this
  ·obtain ⟨cs, rfl, h1, h2, h3⟩ := r.inv_agg
   exact ⟨h1, h2, h3⟩
  ·rename_i vs; have := hc (.tup vs) (by simp [MV.cells]); simp [MV.isCell] at this
theorem mem_of_getElem? {α : Type} {l : List α} {i : Nat} {a : α} (h : l[i]? = some a) : a ∈ l := List.mem_of_getElem? h
def setAll (cs : Array Value) (off : Nat) : List Value → Array Value
 | [] => cs
 | c :: r => setAll (cs.setIfInBounds off c) (off + 1) r
theorem setAll_size (l : List Value) : ∀ (cs : Array Value) (off : Nat), (setAll cs off l).size = cs.size := by
 induction l with
 | nil => intro cs off; rfl
 | cons c r ih => intro cs off; simp [setAll, ih]
theorem setAll_getD (l : List Value) : ∀ (cs : Array Value) (off i : Nat) (d : Value), off + l.length ≤ cs.size →
  (setAll cs off l).getD i d = if off ≤ i ∧ i < off + l.length then l.getD (i - off) d else cs.getD i d := by
 induction l with
 | nil => intro cs off i d _; simp [setAll]; omega
 | cons c r ih =>
  intro cs off i d h
  simp only [List.length_cons] at h
  rw [setAll, ih _ _ _ _ (by simp; omega)]
  by_cases h1 : off + 1 ≤ i ∧ i < off + 1 + r.length
  ·rw [if_pos h1, if_pos (by simp; omega)]
   obtain ⟨k, rfl⟩ : ∃ k, i = off + 1 + k := ⟨i - (off + 1), by omega⟩
   rw [show off + 1 + k - (off + 1) = k from by omega, show off + 1 + k - off = k + 1 from by omega]
   rfl
  ·rw [if_neg h1]
   by_cases h2 : i = off
   ·subst h2
    rw [if_pos (by simp)]
    simp [Array.getD_eq_getD_getElem?, Array.getElem?_setIfInBounds, show i < cs.size by omega]
   ·rw [if_neg (by simp; omega)]
    simp [Array.getD_eq_getD_getElem?, Array.getElem?_setIfInBounds, Ne.symm h2]
theorem foldl_setAll (l : List Value) : ∀ (k : Nat) (cs : Array Value) (off : Nat),
  (l.zipIdx k).foldl (fun cs (p : Value × Nat) => cs.setIfInBounds (off + p.2) p.1) cs = setAll cs (off + k) l := by
 induction l with
 | nil => intro k cs off; rfl
 | cons c r ih => intro k cs off; simp only [List.zipIdx_cons, List.foldl_cons, setAll]; rw [ih]; rfl
theorem RelC.setAll {cs new : Array Value} {ms nms : List MV} {off : Nat} (h : RelC Φ cs ms) (hn : RelC Φ new nms) (hfit : off + nms.length ≤ ms.length) :
  RelC Φ (setAll cs off new.toList) (laid ms off nms) := by
 have hlen : (laid ms off nms).length = ms.length := by simp [laid]; omega
 have hnl : new.toList.length = nms.length := by simpa using hn.1
 have hget : ∀ i, (laid ms off nms)[i]? = if off ≤ i ∧ i < off + nms.length then nms[i - off]? else ms[i]? := by
  intro i
  unfold laid
  by_cases h1 : i < off
  ·rw [if_neg (by omega), List.append_assoc, List.getElem?_append_left (by simp; omega), List.getElem?_take, if_pos h1]
  ·by_cases h2 : i < off + nms.length
   ·rw [if_pos (by omega), List.append_assoc, List.getElem?_append_right (by simp; omega), List.getElem?_append_left (by simp; omega)]
    simp [show min off ms.length = off by omega]
   ·rw [if_neg (by omega), List.getElem?_append_right (by simp; omega), List.getElem?_drop]
    congr 1
    simp
    omega
 refine ⟨by rw [setAll_size, h.1, hlen], fun i m hm => ?_, fun i m hm => ?_⟩
 ·rw [hget] at hm
  split at hm
  ·exact hn.2.1 _ m hm
  ·exact h.2.1 _ m hm
 ·rw [hget] at hm
  rw [setAll_getD _ _ _ _ _ (by rw [hnl, h.1]; exact hfit), hnl]
  split at hm
  ·rename_i hc
   rw [if_pos hc]
   have := hn.2.2 _ m hm
   simpa [Array.getD_eq_getD_getElem?, List.getD] using this
  ·rename_i hc
   rw [if_neg hc]
   exact h.2.2 _ m hm
theorem fill_sound {f : FR} {a : Act} (hr : FRel Φ a.tmps f) (place : Nat → Option (Nat × TypeId)) (pl : Nat → Option (Nat × Nat))
  (hpl : ∀ i off t, place i = some (off, t) → (td P t).ok = true → pl i = some (off, (td P t).size)) :
  ∀ (parts : List (Nat × Operand)) (cs : Array Value) (ms : List MV) (C : Prop) (r : List MV), RelC Φ cs ms → buildFrom P f place parts ms = some (C, r) → C →
   ∃ cs', Instr.fill pl cs (parts.map fun p => (p.1, a.eval p.2)) = some cs' ∧ RelC Φ cs' r := by
 intro parts
 induction parts with
 | nil =>
  intro cs ms C r h hb hC
  simp only [buildFrom, Option.some.injEq, Prod.mk.injEq] at hb
  obtain ⟨_, rfl⟩ := hb
  exact ⟨cs, rfl, h⟩
 | cons p rest ih =>
  obtain ⟨i, x⟩ := p
  intro cs ms C r h hb hC
  simp only [buildFrom] at hb
  cases hp : place i with
  | none => simp [hp] at hb
  | some q =>
   obtain ⟨off, ft⟩ := q
   simp only [hp] at hb
   cases hb2 : buildFrom P f place rest (laid ms off (mval f x).cells) with
   | none => simp [hb2] at hb
   | some q =>
    obtain ⟨C2, r2⟩ := q
    simp only [hb2, Option.some.injEq, Prod.mk.injEq] at hb
    obtain ⟨rfl, rfl⟩ := hb
    obtain ⟨⟨hok, hlen, hcell, hfit⟩, hC2⟩ := hC
    have rc := rel_cells (rel_mval hr x) hcell
    obtain ⟨cs', h1, h2⟩ := ih _ _ C2 r2 (h.setAll rc hfit) hb2 hC2
    refine ⟨cs', ?_, h2⟩
    simp only [List.map_cons, Instr.fill, hpl i off ft hp hok]
    have e1 : (a.eval x).cells.size = (td P ft).size := rc.1.trans hlen
    rw [if_neg (by
     have e2 := rc.1
     have e3 := h.1
     simp only [e1, ne_eq, not_true_eq_false, decide_false, Bool.false_or, decide_eq_true_eq]
     omega)]
    rw [← h1]
    congr 1
    rw [← Array.foldl_toList, Array.toList_zipIdx]
    exact foldl_setAll _ 0 _ _
theorem zero_relC {t : TypeId} {z : Value} (h1 : z.cells.toList.map ofV = (td P t).zero) (h2 : ∀ v, v ∈ z.cells.toList → (ofV v).isCell = true) : RelC Φ z.cells (td P t).zero := by
 refine ⟨by rw [← h1]; simp, fun i m hm => ?_, fun i m hm => ?_⟩
 ·rw [← h1, List.getElem?_map] at hm
  simp only [Option.map_eq_some_iff] at hm
  obtain ⟨v, hv, rfl⟩ := hm
  exact h2 v (List.mem_of_getElem? hv)
 ·rw [← h1, List.getElem?_map] at hm
  simp only [Option.map_eq_some_iff] at hm
  obtain ⟨v, hv, rfl⟩ := hm
  have : z.cells.getD i undef = v := by
   rw [Array.getElem?_toList] at hv
   simp [Array.getD_eq_getD_getElem?, hv]
  rw [this]
  exact rel_ofV Φ v
theorem run_places (fs : List Field) (h : (fs.all fun x => (td P x.type).ok) = true) (w : World) :
  (fs.mapM (m := Sem) fun f => do pure (f.offset, ← sizeOf f.type)).run P w = .ok (fs.map fun f => (f.offset, (td P f.type).size)) w := by
 induction fs with
 | nil => simp
 | cons f fs ih =>
  simp only [List.all_cons, Bool.and_eq_true] at h
  simp only [List.mapM_cons, Sem.run_bind, run_sizeOf' h.1, Result.andThen_ok, Sem.run_pure, ih h.2, List.map_cons]
theorem mbuild_sound {f : FR} {a : Act} (hr : FRel Φ a.tmps f) {t : TypeId} {parts : Array (Nat × Operand)} {C : Prop} {mv : MV} (h : mbuild P f t parts = some (C, mv)) (hC : C) :
  ∃ v, (∀ w, (Instr.build t (parts.map fun p => (p.1, a.eval p.2))).run P w = .ok v w) ∧ Rel Φ v mv := by
 unfold mbuild at h
 split at h
 ·rename_i fs hk
  obtain ⟨fa, hu, rfl⟩ := und_struct hk
  split at h
  ·rename_i C2 cs hb
   simp only [Option.some.injEq, Prod.mk.injEq] at h; obtain ⟨rfl, rfl⟩ := h
   obtain ⟨hz, hall, hC2⟩ := hC
   obtain ⟨z, hzr, hz1, hz2, hok, hz3, _⟩ := run_zero' (P := P) hz default
   have hz' : ∀ w, (zeroValue t).run P w = .ok z w := fun w => by
    obtain ⟨z', h', _⟩ := run_zero' (P := P) hz w
    have : z' = z := by
     simp only [zeroValue, typeInfo, Sem.run_bind, run_program, Result.andThen_ok] at hzr h'
     obtain ⟨i, d, hi, _⟩ := td_info hok
     simp only [hi, Sem.run_pure, Result.andThen_ok] at hzr h'
     cases hzz : i.zero with
     | none => simp [hzz] at hzr
     | some y => simp [hzz] at hzr h'; rw [← hzr, ← h']
    rw [h', this]
   obtain ⟨cs', hf, hrel⟩ := fill_sound (P := P) hr _ (fun i => (fa.toList.map fun f => (f.offset, (td P f.type).size))[i]?) (fun i off ft hp hokf => by
    simp only [List.getElem?_map, Array.getElem?_toList, Option.map_eq_some_iff] at hp ⊢
    obtain ⟨fd, hfd, he⟩ := hp
    obtain ⟨rfl, rfl⟩ := Prod.mk.injEq .. ▸ he
    exact ⟨fd, hfd, rfl⟩) parts.toList z.cells _ _ _ (zero_relC hz1 hz3) hb hC2
   refine ⟨.agg cs', fun w => ?_, hrel.agg⟩
   simp only [Instr.build, Sem.run_bind, hz', Result.andThen_ok, run_und' hu]
   have hm := run_places (P := P) fa.toList (by simpa using hall) w
   rw [← Array.toList_mapM] at hm
   simp only [Sem.run_map] at hm
   generalize hg : (Array.mapM (m := Sem) (fun f => do pure (f.offset, ← sizeOf f.type)) fa).run P w = res at hm ⊢
   cases res with
   | halt x w' => simp at hm
   | ok places w' =>
    simp only [Result.andThen_ok, Result.ok.injEq] at hm ⊢
    obtain ⟨hm, rfl⟩ := hm
    have e : (fun (x : Nat) => places[x]?) = fun (i : Nat) => (fa.toList.map fun f => (f.offset, (td P f.type).size))[i]? := by
     funext i
     rw [← hm, Array.getElem?_toList]
    rw [Array.toList_map, e, hf]
    rfl
  ·cases h
 ·rename_i n el hk
  split at h
  ·rename_i C2 cs hb
   simp only [Option.some.injEq, Prod.mk.injEq] at h; obtain ⟨rfl, rfl⟩ := h
   obtain ⟨hz, hokel, hC2⟩ := hC
   obtain ⟨z, hzr, hz1, hz2, hok, hz3, _⟩ := run_zero' (P := P) hz default
   have hz' : ∀ w, (zeroValue t).run P w = .ok z w := fun w => by
    obtain ⟨z', h', _⟩ := run_zero' (P := P) hz w
    have : z' = z := by
     simp only [zeroValue, typeInfo, Sem.run_bind, run_program, Result.andThen_ok] at hzr h'
     obtain ⟨i, d, hi, _⟩ := td_info hok
     simp only [hi, Sem.run_pure, Result.andThen_ok] at hzr h'
     cases hzz : i.zero with
     | none => simp [hzz] at hzr
     | some y => simp [hzz] at hzr h'; rw [← hzr, ← h']
    rw [h', this]
   obtain ⟨cs', hf, hrel⟩ := fill_sound (P := P) hr _ (fun i => some (i * (td P el).size, (td P el).size)) (fun i off ft hp hokf => by
    simp only [Option.some.injEq, Prod.mk.injEq] at hp
    obtain ⟨rfl, rfl⟩ := hp
    rfl) parts.toList z.cells _ _ _ (zero_relC hz1 hz3) hb hC2
   refine ⟨.agg cs', fun w => ?_, hrel.agg⟩
   simp only [Instr.build, Sem.run_bind, hz', Result.andThen_ok, run_und' (und_array hk), run_sizeOf' hokel]
   rw [Array.toList_map, hf]
   rfl
  ·cases h
 ·cases h
theorem lst_sliced {a : Option Addr} {len cap e : Nat} {xs : List (List MV)} {t : Bool} (r : Rel Φ (.slice a len cap) (.lst e xs t)) (l h m : Nat) (t' : Bool) (hl : l ≤ h) (hh : h ≤ xs.length) (hm : h ≤ m) (hmc : m ≤ cap) (ht : t' = true → m = h) :
  Rel Φ (.slice (if m = l then a else a.map (·.add (l * e))) (h - l) (m - l)) (.lst e ((xs.take h).drop l) t') := by
 obtain ⟨a', cap', he, h1, h2, h3, h4, h5⟩ := r.inv_lst
 simp only [Value.slice.injEq] at he
 obtain ⟨rfl, rfl, rfl⟩ := he
 refine Rel.mk_lst (by simp; omega) (by omega) (by omega) (fun q => by rw [ht q]) (fun q => ?_) (fun q => ?_)
 ·have : a = none := by
   split at q
   ·exact q
   ·cases a <;> simp at q ⊢
  have := h4 this
  omega
 ·obtain ⟨b, off, rfl, hat⟩ := h5 (by omega)
  rw [if_neg (by omega)]
  exact ⟨b, off + l * e, by simp [add_none], hat.take.drop⟩
theorem vec_sliced {a : Option Addr} {n cap e lo l0 : Nat} (r : Rel Φ (.slice a n cap) (.vec e l0 lo n)) (l h : Nat) (hl : l ≤ h) (hh : h ≤ cap) :
  Rel Φ (.slice (if cap = l then a else a.map (·.add (l * e))) (h - l) (cap - l)) (.vec e l0 (lo + l) (h - l)) := by
 obtain ⟨a', cap', p, he, ho, rfl, hcap, hn, hR⟩ := r.inv_vec
 simp only [Value.slice.injEq] at he
 obtain ⟨rfl, _, rfl⟩ := he
 by_cases hc : cap = l
 ·rw [if_pos hc]
  have e1 : h - l = 0 := by omega
  have e2 : cap - l = 0 := by omega
  rw [e1, e2]
  cases a with
  | none =>
   have hcap0 : cap = 0 := by
    rcases hR with ⟨R, _, q⟩ | q
    ·cases q
    ·exact q
   subst hcap0
   subst hc
   obtain rfl : n = 0 := by omega
   simpa using r
  | some a => exact .vec0 a ho (by omega)
 ·rw [if_neg hc]
  rcases hR with ⟨R, hb, rfl⟩ | q
  ·have := Rel.vec (Φ := Φ) (l := l0) (lo := lo + l) (n := h - l) (cap := cap - l) ho hb (by omega) (by omega)
   simpa [add_none, Nat.add_mul, Nat.add_assoc] using this
  ·omega
theorem run_sliceBound {i : Int} {k : IntKind} {y : Nat} {code : BoundsCode} (h : 0 ≤ i ∧ i ≤ y) (w : World) : (Instr.sliceBound (.int k i) y code).run P w = .ok i.toNat w := by
 simp only [Instr.sliceBound, Sem.run_bind, run_asIntOf, Result.andThen_ok, Sem.run_ite, if_pos h, Sem.run_pure]
theorem chunks_get (e : Nat) : ∀ (n : Nat) (cs : List MV) (i : Nat) (x : List MV), (chunks e n cs)[i]? = some x → i < n ∧ x = (cs.drop (i * e)).take e := by
 intro n
 induction n with
 | zero => intro cs i x h; simp [chunks] at h
 | succ n ih =>
  intro cs i x h
  cases i with
  | zero => simp [chunks] at h; exact ⟨by omega, by simp [h]⟩
  | succ i =>
   simp only [chunks, List.getElem?_cons_succ] at h
   obtain ⟨h1, h2⟩ := ih _ _ _ h
   refine ⟨by omega, ?_⟩
   rw [h2, List.drop_drop, Nat.add_mul, Nat.one_mul, Nat.add_comm]
theorem chunks_length (e : Nat) : ∀ (n : Nat) (cs : List MV), (chunks e n cs).length = n := by
 intro n
 induction n with
 | zero => intro cs; rfl
 | succ n ih => intro cs; simp [chunks, ih]
theorem mslice_sound {t : TypeId} {x : MV} {lo hi mx : Option MV} {C : Prop} {mv : MV} (h : mslice P t x lo hi mx = some (C, mv)) (hC : C) {v1 : Value} {lo' hi' mx' : Option Value} (r1 : Rel Φ v1 x)
  (rl : ∀ m, lo = some m → ∃ v, lo' = some v ∧ Rel Φ v m) (rl0 : lo = none → lo' = none) (rh : ∀ m, hi = some m → ∃ v, hi' = some v ∧ Rel Φ v m) (rh0 : hi = none → hi' = none)
  (rm : ∀ m, mx = some m → ∃ v, mx' = some v ∧ Rel Φ v m) (rm0 : mx = none → mx' = none) :
  ∃ v, (∀ w, (Instr.sliceAt t v1 lo' hi' mx').run P w = .ok v w) ∧ Rel Φ v mv := by
 unfold mslice at h
 split at h
 ·-- string, both
  rename_i s k1 l k2 hh
  simp only [Option.some.injEq, Prod.mk.injEq] at h; obtain ⟨rfl, rfl⟩ := h
  obtain ⟨hk, h0, h1, h2⟩ := hC
  obtain ⟨_, rfl, q1⟩ := rl _ rfl; obtain ⟨_, rfl, q2⟩ := rh _ rfl; cases rm0 rfl
  cases q1.inv_int; cases q2.inv_int; cases r1.inv_str
  refine ⟨_, fun w => ?_, .str _⟩
  simp only [Instr.sliceAt, Sem.run_bind, run_und' (und_str hk), Result.andThen_ok, Instr.slice, Option.isSome_none, Bool.false_eq_true, if_false, Instr.sliceBounds, Sem.run_pure]
  rw [run_sliceBound ⟨by omega, by omega⟩]
  simp only [Result.andThen_ok]
  rw [run_sliceBound ⟨by omega, by omega⟩]
  rfl
 ·rename_i s k2 hh
  simp only [Option.some.injEq, Prod.mk.injEq] at h; obtain ⟨rfl, rfl⟩ := h
  obtain ⟨hk, h0, h1⟩ := hC
  cases rl0 rfl; obtain ⟨_, rfl, q2⟩ := rh _ rfl; cases rm0 rfl
  cases q2.inv_int; cases r1.inv_str
  refine ⟨_, fun w => ?_, .str _⟩
  simp only [Instr.sliceAt, Sem.run_bind, run_und' (und_str hk), Result.andThen_ok, Instr.slice, Option.isSome_none, Bool.false_eq_true, if_false, Instr.sliceBounds, Sem.run_pure]
  rw [run_sliceBound ⟨by omega, by omega⟩]
  rfl
 ·rename_i s k1 l
  simp only [Option.some.injEq, Prod.mk.injEq] at h; obtain ⟨rfl, rfl⟩ := h
  obtain ⟨hk, h0, h1⟩ := hC
  obtain ⟨_, rfl, q1⟩ := rl _ rfl; cases rh0 rfl; cases rm0 rfl
  cases q1.inv_int; cases r1.inv_str
  refine ⟨_, fun w => ?_, .str _⟩
  simp only [Instr.sliceAt, Sem.run_bind, run_und' (und_str hk), Result.andThen_ok, Instr.slice, Option.isSome_none, Bool.false_eq_true, if_false, Instr.sliceBounds, Sem.run_pure]
  rw [run_sliceBound ⟨by omega, by omega⟩]
  rfl
 ·rename_i lo hi mx e xs tt
  split at h
  ·rename_i el hk
   obtain ⟨a, cap, rfl, c1, c2, c3, c4, _⟩ := r1.inv_lst
   split at h
   ·rename_i k1 l k2 hh
    simp only [Option.some.injEq, Prod.mk.injEq] at h; obtain ⟨rfl, rfl⟩ := h
    obtain ⟨hok, hsz, h0, h1, h2⟩ := hC
    obtain ⟨_, rfl, q1⟩ := rl _ rfl; obtain ⟨_, rfl, q2⟩ := rh _ rfl; cases rm0 rfl
    cases q1.inv_int; cases q2.inv_int
    refine ⟨_, fun w => ?_, lst_sliced r1 l.toNat hh.toNat cap _ (by omega) (by omega) (by omega) (Nat.le_refl _) (fun q => by simp at q; rw [c3 q.1, q.2])⟩
    simp only [Instr.sliceAt, Sem.run_bind, run_und' (und_slice hk), Result.andThen_ok, Instr.slice, Instr.sliceBounds, Sem.run_pure]
    rw [run_sliceBound ⟨by omega, by omega⟩]
    simp only [Result.andThen_ok, Option.isSome_none, Bool.false_eq_true, if_false]
    rw [run_sliceBound ⟨by omega, by omega⟩]
    simp only [Result.andThen_ok, run_sizeOf' hok, hsz, Sem.run_pure]
   ·rename_i k2 hh
    simp only [Option.some.injEq, Prod.mk.injEq] at h; obtain ⟨rfl, rfl⟩ := h
    obtain ⟨hok, hsz, h0, h1⟩ := hC
    cases rl0 rfl; obtain ⟨_, rfl, q2⟩ := rh _ rfl; cases rm0 rfl
    cases q2.inv_int
    have := lst_sliced r1 0 hh.toNat cap (tt && decide (hh.toNat = xs.length)) (by omega) (by omega) (by omega) (Nat.le_refl _) (fun q => by simp at q; rw [c3 q.1, q.2])
    refine ⟨_, fun w => ?_, by simpa only [List.drop_zero, Nat.sub_zero, Nat.zero_mul, List.take_length, Nat.add_zero] using this⟩
    simp only [Instr.sliceAt, Sem.run_bind, run_und' (und_slice hk), Result.andThen_ok, Instr.slice, Instr.sliceBounds, Sem.run_pure]
    rw [run_sliceBound ⟨by omega, by omega⟩]
    simp only [Result.andThen_ok, run_sizeOf' hok, hsz, Sem.run_pure, Nat.zero_mul, Nat.sub_zero]
   ·rename_i k1 l
    simp only [Option.some.injEq, Prod.mk.injEq] at h; obtain ⟨rfl, rfl⟩ := h
    obtain ⟨hok, hsz, h0, h1⟩ := hC
    obtain ⟨_, rfl, q1⟩ := rl _ rfl; cases rh0 rfl; cases rm0 rfl
    cases q1.inv_int
    have := lst_sliced r1 l.toNat xs.length cap tt (by omega) (by omega) (by omega) (Nat.le_refl _) (fun q => c3 q)
    refine ⟨_, fun w => ?_, by simpa only [List.drop_zero, Nat.sub_zero, Nat.zero_mul, List.take_length, Nat.add_zero] using this⟩
    simp only [Instr.sliceAt, Sem.run_bind, run_und' (und_slice hk), Result.andThen_ok, Instr.slice, Instr.sliceBounds, Sem.run_pure, Option.isSome_none, Bool.false_eq_true, if_false]
    rw [run_sliceBound ⟨by omega, by omega⟩]
    simp only [Result.andThen_ok, run_sizeOf' hok, hsz, Sem.run_pure]
   ·rename_i k2 hh k3 m
    simp only [Option.some.injEq, Prod.mk.injEq] at h; obtain ⟨rfl, rfl⟩ := h
    obtain ⟨hok, hsz, h0, h1, h2⟩ := hC
    cases rl0 rfl; obtain ⟨_, rfl, q2⟩ := rh _ rfl; obtain ⟨_, rfl, q3⟩ := rm _ rfl
    cases q2.inv_int; cases q3.inv_int
    have := lst_sliced r1 0 hh.toNat m.toNat (decide (hh = m)) (by omega) (by omega) (by omega) (by omega) (fun q => by simp at q; rw [q])
    refine ⟨_, fun w => ?_, by simpa only [List.drop_zero, Nat.sub_zero, Nat.zero_mul, List.take_length, Nat.add_zero] using this⟩
    simp only [Instr.sliceAt, Sem.run_bind, run_und' (und_slice hk), Result.andThen_ok, Instr.slice, Instr.sliceBounds, Sem.run_pure, if_true]
    rw [run_sliceBound ⟨by omega, by omega⟩]
    simp only [Result.andThen_ok]
    rw [run_sliceBound ⟨by omega, by omega⟩]
    simp only [Result.andThen_ok, run_sizeOf' hok, hsz, Sem.run_pure, Nat.zero_mul, Nat.sub_zero]
   ·rename_i k1 l k2 hh k3 m
    simp only [Option.some.injEq, Prod.mk.injEq] at h; obtain ⟨rfl, rfl⟩ := h
    obtain ⟨hok, hsz, h0, h1, h2, h3⟩ := hC
    obtain ⟨_, rfl, q1⟩ := rl _ rfl; obtain ⟨_, rfl, q2⟩ := rh _ rfl; obtain ⟨_, rfl, q3⟩ := rm _ rfl
    cases q1.inv_int; cases q2.inv_int; cases q3.inv_int
    refine ⟨_, fun w => ?_, lst_sliced r1 l.toNat hh.toNat m.toNat (decide (hh = m)) (by omega) (by omega) (by omega) (by omega) (fun q => by simp at q; rw [q])⟩
    simp only [Instr.sliceAt, Sem.run_bind, run_und' (und_slice hk), Result.andThen_ok, Instr.slice, Instr.sliceBounds, Sem.run_pure, if_true, Option.isSome_some]
    rw [run_sliceBound ⟨by omega, by omega⟩]
    simp only [Result.andThen_ok]
    rw [run_sliceBound ⟨by omega, by omega⟩]
    simp only [Result.andThen_ok]
    rw [run_sliceBound ⟨by omega, by omega⟩]
    simp only [Result.andThen_ok, run_sizeOf' hok, hsz, Sem.run_pure]
   ·cases h
  ·cases h
 ·rename_i lo hi mx e l0 lo0 n
  split at h
  ·rename_i el hk
   obtain ⟨a, cap, p, rfl, ho, hpe, c1, c2, _⟩ := r1.inv_vec
   split at h
   ·rename_i k1 l k2 hh
    simp only [Option.some.injEq, Prod.mk.injEq] at h; obtain ⟨rfl, rfl⟩ := h
    obtain ⟨hok, hsz, h0, h1, h2⟩ := hC
    obtain ⟨_, rfl, q1⟩ := rl _ rfl; obtain ⟨_, rfl, q2⟩ := rh _ rfl; cases rm0 rfl
    cases q1.inv_int; cases q2.inv_int
    refine ⟨_, fun w => ?_, vec_sliced r1 l.toNat hh.toNat (by omega) (by omega)⟩
    simp only [Instr.sliceAt, Sem.run_bind, run_und' (und_slice hk), Result.andThen_ok, Instr.slice, Instr.sliceBounds, Sem.run_pure]
    rw [run_sliceBound ⟨by omega, by omega⟩]
    simp only [Result.andThen_ok, Option.isSome_none, Bool.false_eq_true, if_false]
    rw [run_sliceBound ⟨by omega, by omega⟩]
    simp only [Result.andThen_ok, run_sizeOf' hok, hsz, Sem.run_pure]
   ·rename_i k2 hh
    simp only [Option.some.injEq, Prod.mk.injEq] at h; obtain ⟨rfl, rfl⟩ := h
    obtain ⟨hok, hsz, h0, h1⟩ := hC
    cases rl0 rfl; obtain ⟨_, rfl, q2⟩ := rh _ rfl; cases rm0 rfl
    cases q2.inv_int
    have := vec_sliced r1 0 hh.toNat (by omega) (by omega)
    refine ⟨_, fun w => ?_, by simpa only [List.drop_zero, Nat.sub_zero, Nat.zero_mul, List.take_length, Nat.add_zero] using this⟩
    simp only [Instr.sliceAt, Sem.run_bind, run_und' (und_slice hk), Result.andThen_ok, Instr.slice, Instr.sliceBounds, Sem.run_pure]
    rw [run_sliceBound ⟨by omega, by omega⟩]
    simp only [Result.andThen_ok, run_sizeOf' hok, hsz, Sem.run_pure, Nat.zero_mul, Nat.sub_zero]
   ·rename_i k1 l
    simp only [Option.some.injEq, Prod.mk.injEq] at h; obtain ⟨rfl, rfl⟩ := h
    obtain ⟨hok, hsz, h0, h1⟩ := hC
    obtain ⟨_, rfl, q1⟩ := rl _ rfl; cases rh0 rfl; cases rm0 rfl
    cases q1.inv_int
    refine ⟨_, fun w => ?_, vec_sliced r1 l.toNat n (by omega) (by omega)⟩
    simp only [Instr.sliceAt, Sem.run_bind, run_und' (und_slice hk), Result.andThen_ok, Instr.slice, Instr.sliceBounds, Sem.run_pure, Option.isSome_none, Bool.false_eq_true, if_false]
    rw [run_sliceBound ⟨by omega, by omega⟩]
    simp only [Result.andThen_ok, run_sizeOf' hok, hsz, Sem.run_pure]
   ·rename_i k1 l k2 hh k3 m
    simp only [Option.some.injEq, Prod.mk.injEq] at h; obtain ⟨rfl, rfl⟩ := h
    obtain ⟨hok, hsz, h0, h1, h2, h3⟩ := hC
    obtain ⟨_, rfl, q1⟩ := rl _ rfl; obtain ⟨_, rfl, q2⟩ := rh _ rfl; obtain ⟨_, rfl, q3⟩ := rm _ rfl
    cases q1.inv_int; cases q2.inv_int; cases q3.inv_int
    refine ⟨.slice (if m.toNat = l.toNat then a else a.map (·.add (l.toNat * e))) (hh.toNat - l.toNat) (m.toNat - l.toNat), fun w => ?_, .junk _⟩
    simp only [Instr.sliceAt, Sem.run_bind, run_und' (und_slice hk), Result.andThen_ok, Instr.slice, Instr.sliceBounds, Sem.run_pure, if_true, Option.isSome_some]
    rw [run_sliceBound ⟨by omega, by omega⟩]
    simp only [Result.andThen_ok]
    rw [run_sliceBound ⟨by omega, by omega⟩]
    simp only [Result.andThen_ok]
    rw [run_sliceBound ⟨by omega, by omega⟩]
    simp only [Result.andThen_ok, run_sizeOf' hok, hsz, Sem.run_pure]
   ·cases h
  ·cases h
 ·rename_i cs
  split at h
  ·rename_i n el hk
   simp only [Option.some.injEq, Prod.mk.injEq] at h; obtain ⟨rfl, rfl⟩ := h
   obtain ⟨hok, h0, h1, h2⟩ := hC
   cases rl0 rfl; cases rh0 rfl; cases rm0 rfl
   obtain ⟨b, off, vs, rfl, hc, hr⟩ := r1.inv_cptr
   refine ⟨.slice (some ⟨b, off, none⟩) n n, fun w => ?_, Rel.mk_lst (chunks_length _ _ _) (Nat.le_refl _) (by simpa [maxLen] using h2) (fun _ => rfl) (by simp) (fun _ => ⟨b, off, rfl, fun i x hx => ?_, fun i j => vs (i * (td P el).size + j), fun i x j m hx hm => ?_⟩)⟩
   ·simp only [Instr.sliceAt, Sem.run_bind, run_und' (und_array hk), Result.andThen_ok, run_sureAddr, Instr.sliceBounds, Sem.run_pure, run_sizeOf' hok, Nat.zero_mul, add_none, Nat.sub_zero, Nat.add_zero, if_neg (show ¬ n = 0 by omega)]
   ·obtain ⟨hi, rfl⟩ := chunks_get _ _ _ _ _ hx
    have : (i + 1) * (td P el).size ≤ n * (td P el).size := Nat.mul_le_mul_right _ hi
    rw [Nat.add_mul, Nat.one_mul, Nat.mul_comm n] at this
    simp
    omega
   ·obtain ⟨hi, rfl⟩ := chunks_get _ _ _ _ _ hx
    rw [List.getElem?_take] at hm
    split at hm
    ·rw [List.getElem?_drop] at hm
     have := hc _ m hm
     exact ⟨this.1, this.2, hr _ m hm⟩
    ·cases hm
  ·cases h
 ·split at h
  ·rename_i el hk
   simp only [Option.some.injEq, Prod.mk.injEq] at h; obtain ⟨rfl, rfl⟩ := h
   obtain ⟨hok, h0⟩ := hC
   subst h0
   cases rl0 rfl; obtain ⟨_, rfl, q2⟩ := rh _ rfl; cases rm0 rfl
   cases q2.inv_int
   cases r1.inv_nils
   refine ⟨_, fun w => ?_, .nils⟩
   simp only [Instr.sliceAt, Sem.run_bind, run_und' (und_slice hk), Result.andThen_ok, Instr.slice, Instr.sliceBounds, Sem.run_pure, Option.isSome_none, Bool.false_eq_true, if_false]
   rw [run_sliceBound ⟨by omega, by omega⟩]
   simp only [Result.andThen_ok, run_sizeOf' hok, Sem.run_pure, Int.toNat_zero, Nat.sub_zero, if_true]
  ·cases h
 ·cases h
end
end Go.Proofs.YtjljgahfkcdhfaaGreatDoor
end

section
namespace Go.Proofs.YtjljgahfkcdhfaaGreatDoor
section
variable {P : Program} {Φ : Phi}
theorem mbuiltin_sound {b : Builtin} {ts : Array TypeId} {xs : List MV} {C : Prop} {mv : MV} (h : mbuiltin P b ts xs = some (C, mv)) (hC : C) (vs : Array Value) (hr : Rels Φ vs xs) (hts : ts.size = xs.length) (ty : TypeId) (cs : Array Bool) :
  ∃ v, (∀ w, (builtin b ts ty cs vs).run P w = .ok (.value v) w) ∧ Rel Φ v mv := by
 obtain ⟨vl⟩ := vs
 have hlen : vl.length = xs.length := hr.1
 unfold mbuiltin at h
 split at h
 ·rename_i x
  match vl, hlen with
  | [v1], _ =>
  have r1 : Rel Φ v1 x := hr.2 0 x rfl
  obtain ⟨v, hv, hrel⟩ := mlen_sound h hC r1 ts hts rfl ty
  exact ⟨v, fun w => by simp [builtin, hv], hrel⟩
 ·rename_i x y
  match vl, hlen with
  | [v1, v2], _ =>
  have r1 : Rel Φ v1 x := hr.2 0 x rfl
  have r2 : Rel Φ v2 y := hr.2 1 y rfl
  unfold mmin2 at h
  split at h
  ·simp only [Option.some.injEq, Prod.mk.injEq] at h; obtain ⟨rfl, rfl⟩ := h
   cases r1.inv_int; cases r2.inv_int
   exact ⟨_, fun w => by simp [builtin, Builtin.min_, Builtin.min2], .int _ _⟩
  ·cases h
 ·rename_i x y
  match vl, hlen with
  | [v1, v2], _ =>
  have r1 : Rel Φ v1 x := hr.2 0 x rfl
  have r2 : Rel Φ v2 y := hr.2 1 y rfl
  unfold mmax2 at h
  split at h
  ·simp only [Option.some.injEq, Prod.mk.injEq] at h; obtain ⟨rfl, rfl⟩ := h
   cases r1.inv_int; cases r2.inv_int
   exact ⟨_, fun w => by simp [builtin, Builtin.max_, Builtin.max2], .int _ _⟩
  ·cases h
 ·rename_i x
  match vl, hlen with
  | [v1], _ =>
  have r1 : Rel Φ v1 x := hr.2 0 x rfl
  obtain ⟨v, hv, hrel⟩ := mcap_sound h r1 ts hts rfl ty
  exact ⟨v, fun w => by simp [builtin, hv], hrel⟩
 ·cases h
theorem rels_map {f : FR} {a : Act} (hr : FRel Φ a.tmps f) (xs : Array Operand) : Rels Φ (xs.map a.eval) (xs.toList.map (mval f)) := by
 refine ⟨by simp, fun i m hm => ?_⟩
 rw [List.getElem?_map, Array.getElem?_toList] at hm
 simp only [Option.map_eq_some_iff] at hm
 obtain ⟨x, hx, rfl⟩ := hm
 have : (xs.map a.eval).getD i undef = a.eval x := by simp [Array.getD_eq_getD_getElem?, hx]
 rw [this]
 exact rel_mval hr x
def opTypes : Op → Bool
 | .call { callee := .builtin _, args, argTypes } => argTypes.size == args.size
 | _ => true
theorem gidx_sound {t : TypeId} {g : Nat} {i : MV} {C : Prop} {mv : MV} (hG : ∀ g i v, GT g i = some v → Φ.snap ⟨g, i, none⟩ = some v) (h : gidx P t g i = some (C, mv)) (hC : C) {v2 : Value} (r2 : Rel Φ v2 i) :
  ∃ v, (∀ w, (Instr.indexAt t (.pointer (some ⟨g, 0, none⟩)) v2).run P w = .ok v w) ∧ Rel Φ v mv := by
 unfold gidx at h
 split at h
 ·rename_i len el k n hk
  obtain ⟨v, hv, h⟩ := Option.bind_eq_some_iff.1 h
  simp only [Option.some.injEq, Prod.mk.injEq] at h; obtain ⟨rfl, rfl⟩ := h
  obtain ⟨hok, hsz, h0, h1, hc⟩ := hC
  cases r2.inv_int
  refine ⟨.pointer (some ⟨g, 0 + n.toNat * (td P el).size, none⟩), fun w => ?_, .cptr (fun _ => v) (fun q m hm => ?_) (fun q m hm => ?_)⟩
  ·simp only [Instr.indexAt, Sem.run_bind, run_asIntOf, Result.andThen_ok, run_und' (und_array hk), run_sureAddr, Sem.run_pure, Sem.run_ite, if_pos (show 0 ≤ n ∧ n < (len : Int) from ⟨h0, h1⟩), run_sizeOf' hok, add_none]
  ·rw [hsz, Nat.mul_one, Nat.zero_add]
   cases q with
   | zero =>
    simp only [List.getElem?_cons_zero, Option.some.injEq] at hm
    subst hm
    exact ⟨hc, hG _ _ _ hv⟩
   | succ q => simp at hm
  ·cases q with
   | zero =>
    simp only [List.getElem?_cons_zero, Option.some.injEq] at hm
    subst hm
    exact rel_ofV Φ v
   | succ q => simp at hm
 ·cases h
theorem qop_sound {o : Oper} {f : FR} {a : Act} (hG : ∀ g i v, GT g i = some v → Φ.snap ⟨g, i, none⟩ = some v) (hr : FRel Φ a.tmps f) {C : Prop} {mv : MV} (h : qop P f o.op = some (C, mv)) (hC : C) (hot : opTypes o.op = true) :
  ∃ v, (∀ w, (execOp a.eval o).run P w = .ok (.value v) w) ∧ Rel Φ v mv := by
 unfold execOp
 generalize o.op = op at h hot
 unfold qop at h
 split at h
 ·simp only [Option.some.injEq, Prod.mk.injEq] at h; obtain ⟨rfl, rfl⟩ := h
  exact ⟨_, fun w => rfl, rel_mval hr _⟩
 ·simp only [Option.some.injEq, Prod.mk.injEq] at h; obtain ⟨rfl, rfl⟩ := h
  exact ⟨_, fun w => rfl, rel_mval hr _⟩
 ·rename_i c x y
  split at h
  ·rename_i t hc
   simp only [Option.some.injEq, Prod.mk.injEq] at h; obtain ⟨rfl, rfl⟩ := h
   have rc := rel_mval hr c
   rw [hc] at rc
   refine ⟨if t = true then a.eval x else a.eval y, fun w => ?_, ?_⟩
   ·simp only [rc.inv_bool, asBool, Sem.run_bind, Sem.run_pure, Result.andThen_ok]
   ·split
    ·exact rel_mval hr x
    ·exact rel_mval hr y
  ·cases h
 ·rename_i x
  split at h
  ·rename_i l i o' hx
   simp only [Option.some.injEq, Prod.mk.injEq] at h; obtain ⟨rfl, rfl⟩ := h
   have rc := rel_mval hr x
   rw [hx] at rc
   obtain ⟨ad, he⟩ := rc.ptr_shape
   rw [he] at rc
   exact ⟨_, fun w => by simp only [he]; rfl, rc⟩
  ·rename_i cs hx
   simp only [Option.some.injEq, Prod.mk.injEq] at h; obtain ⟨rfl, rfl⟩ := h
   have rc := rel_mval hr x
   rw [hx] at rc
   obtain ⟨ad, he⟩ := rc.cptr_shape
   rw [he] at rc
   exact ⟨_, fun w => by simp only [he]; rfl, rc⟩
  ·cases h
 ·rename_i op t x y yt
  obtain ⟨v, hv, hrel⟩ := mbin_sound h hC (rel_mval hr x) (rel_mval hr y) x y
  exact ⟨v, fun w => by simp only [Sem.run_bind, (hv w).1, (hv w).2, Result.andThen_ok, Sem.run_pure], hrel⟩
 ·rename_i op t x
  obtain ⟨v, hv, hrel⟩ := mun_sound (P := P) h (rel_mval hr x)
  exact ⟨v, fun w => by simp only [Sem.run_bind, hv w, Result.andThen_ok, Sem.run_pure], hrel⟩
 ·rename_i s d x
  obtain ⟨v, hv, hrel⟩ := mconv_sound h (rel_mval hr x)
  exact ⟨v, fun w => by simp only [Sem.run_bind, hv w, Result.andThen_ok, Sem.run_pure], hrel⟩
 ·rename_i t x
  split at h
  ·cases h
  ·rename_i hok hni
   simp only [Option.some.injEq, Prod.mk.injEq] at h; obtain ⟨rfl, rfl⟩ := h
   obtain ⟨i, d, hi, hd, _, _, hk⟩ := td_info hok
   refine ⟨.iface t (a.eval x), fun w => ?_, .iface t (rel_mval hr x)⟩
   simp only [Instr.makeInterface, Sem.run_bind, run_und' hd, Result.andThen_ok]
   cases d <;> first | rfl | (exact absurd hk (by simpa [tkOf] using hni))
  ·cases h
 ·rename_i fn first cap
  simp only [Option.some.injEq, Prod.mk.injEq] at h; obtain ⟨rfl, rfl⟩ := h
  have h1 := rels_map hr first
  have h2 := rels_map hr cap
  exact ⟨_, fun w => rfl, .fn fn h1.1 h2.1 h1.2 h2.2⟩
 ·rename_i t x lo hi mx
  obtain ⟨v, hv, hrel⟩ := mslice_sound (P := P) (lo' := lo.map a.eval) (hi' := hi.map a.eval) (mx' := mx.map a.eval) h hC (rel_mval hr x)
   (fun m hm => by cases lo <;> simp at hm ⊢; subst hm; exact rel_mval hr _) (fun hn => by cases lo <;> simp at hn ⊢)
   (fun m hm => by cases hi <;> simp at hm ⊢; subst hm; exact rel_mval hr _) (fun hn => by cases hi <;> simp at hn ⊢)
   (fun m hm => by cases mx <;> simp at hm ⊢; subst hm; exact rel_mval hr _) (fun hn => by cases mx <;> simp at hn ⊢)
  exact ⟨v, fun w => by simp only [Sem.run_bind, hv w, Result.andThen_ok, Sem.run_pure], hrel⟩
 ·rename_i t x i
  obtain ⟨v, hv, hrel⟩ := mfieldAddr_sound h hC (rel_mval hr x)
  exact ⟨v, fun w => by simp only [Sem.run_bind, hv w, Result.andThen_ok, Sem.run_pure], hrel⟩
 ·rename_i t x i
  obtain ⟨v, hv, hrel⟩ := mfield_sound h hC (rel_mval hr x)
  exact ⟨v, fun w => by simp only [Sem.run_bind, hv w, Result.andThen_ok, Sem.run_pure], hrel⟩
 ·rename_i t g i
  obtain ⟨v, hv, hrel⟩ := gidx_sound hG h hC (rel_mval hr i)
  have he : a.eval (.global g) = .pointer (some ⟨g, 0, none⟩) := rfl
  exact ⟨v, fun w => by simp only [he, Sem.run_bind, hv w, Result.andThen_ok, Sem.run_pure], hrel⟩
 ·rename_i t x i hng
  obtain ⟨v, hv, hrel⟩ := mindexAddr_sound h hC (rel_mval hr x) (rel_mval hr i)
  exact ⟨v, fun w => by simp only [Sem.run_bind, hv w, Result.andThen_ok, Sem.run_pure], hrel⟩
 ·rename_i t x i
  obtain ⟨v, hv, hrel⟩ := mindex_sound h hC (rel_mval hr x) (rel_mval hr i)
  exact ⟨v, fun w => by simp only [Sem.run_bind, hv w, Result.andThen_ok, Sem.run_pure], hrel⟩
 ·rename_i x i
  split at h
  ·rename_i vs hx
   split at h
   ·rename_i v hv
    simp only [Option.some.injEq, Prod.mk.injEq] at h; obtain ⟨rfl, rfl⟩ := h
    have rc := rel_mval hr x
    rw [hx] at rc
    obtain ⟨cs, he, hs, hrr⟩ := rc.inv_tup
    have hlt : i < cs.size := by have := (List.getElem?_eq_some_iff.1 hv).1; omega
    refine ⟨cs.getD i undef, fun w => ?_, hrr i v hv⟩
    have : cs[i]? = some (cs.getD i undef) := by simp [Array.getD_eq_getD_getElem?, Array.getElem?_eq_getElem hlt]
    simp only [he, Instr.extract, Sem.run_bind, this, Sem.run_pure, Result.andThen_ok]
   ·cases h
  ·cases h
 ·rename_i t parts
  obtain ⟨v, hv, hrel⟩ := mbuild_sound hr h hC
  exact ⟨v, fun w => by simp only [Sem.run_bind, hv w, Result.andThen_ok, Sem.run_pure], hrel⟩
 ·rename_i b args ts
  have hs : ts.size = (args.toList.map (mval f)).length := by simpa [opTypes] using hot
  obtain ⟨v, hv, hrel⟩ := mbuiltin_sound h hC (args.map a.eval) (rels_map hr args) hs o.type (args.map fun | .const _ => true | _ => false)
  refine ⟨v, fun w => ?_, hrel⟩
  simp only [resolve, Sem.run_bind, Sem.run_pure, Result.andThen_ok, invoke]
  exact hv w
 ·cases h
end
theorem Inv.obj_none {Φ : Phi} {w : World} {σ : St} (hi : Inv Φ w σ) {l : Nat} (h : Φ.obj l = none) : σ l = none := by
 cases hs : σ l with
 | none => rfl
 | some o =>
  have := hi.own l o hs
  cases o with
  | row t e xs => obtain ⟨p, hp, _⟩ := this; rw [h] at hp; cases hp
  | mp es => obtain ⟨p, R, hp, _⟩ := this; rw [h] at hp; cases hp
theorem OwnOk.mono {Φ Φ' : Phi} {w w' : World} {l : Nat} {o : MObj} (h : OwnOk Φ w l o) (hle : Φ.le Φ') (hb : ∀ p R, Φ.obj l = some p → p.blk = some R → w'.heap[R]? = w.heap[R]?) : OwnOk Φ' w' l o := by
 cases o with
 | row t e xs =>
  obtain ⟨p, hp, he, h1, h2, h3, h4⟩ := h
  refine ⟨p, hle.obj _ _ hp, he, h1, h2, h3, ?_⟩
  cases hbk : p.blk with
  | none => rw [hbk] at h4; exact h4
  | some R =>
   rw [hbk] at h4
   obtain ⟨c, fz, k1, k2, k3, k4⟩ := h4
   exact ⟨c, fz, (hb p R hp hbk).trans k1, k2, k3, fun i x j m a b => let ⟨q1, v, q2, q3⟩ := k4 i x j m a b; ⟨q1, v, q2, q3.mono hle⟩⟩
 | mp es =>
  obtain ⟨p, R, hp, hbk, c, clock, h1, h2, h3⟩ := h
  exact ⟨p, R, hle.obj _ _ hp, hbk, c, clock, (hb p R hp hbk).trans h1, h2, fun i x q => ⟨(h3 i x q).1.mono hle, (h3 i x q).2.mono hle⟩⟩
theorem OwnOk.place {Φ : Phi} {w : World} {l : Nat} {o : MObj} (h : OwnOk Φ w l o) : ∃ p, Φ.obj l = some p ∧ ∀ R, p.blk = some R → R < w.heap.size := by
 cases o with
 | row t e xs =>
  obtain ⟨p, hp, he, h1, h2, h3, h4⟩ := h
  refine ⟨p, hp, fun R hR => ?_⟩
  rw [hR] at h4
  obtain ⟨c, fz, k1, _⟩ := h4
  exact (Array.getElem?_eq_some_iff.1 k1).1
 | mp es =>
  obtain ⟨p, R, hp, hbk, c, clock, h1, _⟩ := h
  exact ⟨p, hp, fun R' hR' => by rw [hbk] at hR'; cases hR'; exact (Array.getElem?_eq_some_iff.1 h1).1⟩
theorem World.cell?_heap {w w' : World} {a : Addr} (h : w'.heap[a.block]? = w.heap[a.block]?) : w'.cell? a = w.cell? a := by simp [World.cell?, h]
theorem Inv.upd {Φ Φ' : Phi} {w w' : World} {σ σ' : St} (hi : Inv Φ w σ) (hle : Φ.le Φ') (hsnap : ∀ a, Φ'.snap a = Φ.snap a) (l' : Nat) (o' : MObj) (p' : Place) (hp' : Φ'.obj l' = some p')
  (hσ : ∀ m o, σ' m = some o → (m ≠ l' ∧ σ m = some o) ∨ (m = l' ∧ o = o'))
  (hblk : ∀ m o p R, m ≠ l' → σ' m = some o → Φ.obj m = some p → p.blk = some R → w'.heap[R]? = w.heap[R]? ∧ p'.blk ≠ some R)
  (hsn : ∀ a v, Φ.snap a = some v → w'.heap[a.block]? = w.heap[a.block]? ∧ p'.blk ≠ some a.block)
  (hown : OwnOk Φ' w' l' o') (hfresh : Φ'.fin) : Inv Φ' w' σ' := by
 have hobj : ∀ m o, m ≠ l' → σ' m = some o → ∃ p, Φ.obj m = some p ∧ Φ'.obj m = some p := fun m o hm hs => by
  rcases hσ m o hs with ⟨_, q⟩ | ⟨q, _⟩
  ·obtain ⟨p, hp, _⟩ := (hi.own m o q).place
   exact ⟨p, hp, hle.obj _ _ hp⟩
  ·exact absurd q hm
 constructor
 ·intro m o hs
  rcases hσ m o hs with ⟨hm, q⟩ | ⟨rfl, rfl⟩
  ·exact (hi.own m o q).mono hle fun p R hp hR => (hblk m o p R hm hs hp hR).1
  ·exact hown
 ·intro m m' o o' p p1 R hs hs' hp hp1 hR hR1
  by_cases h1 : m = l'
  ·subst h1
   by_cases h2 : m' = m
   ·exact h2.symm
   ·obtain ⟨q, hq, hq'⟩ := hobj m' o' h2 hs'
    obtain rfl : q = p1 := Option.some.inj (hq'.symm.trans hp1)
    rw [hp'] at hp; cases hp
    exact absurd hR (hblk m' o' q R h2 hs' hq hR1).2
  ·obtain ⟨q, hq, hq'⟩ := hobj m o h1 hs
   obtain rfl : q = p := Option.some.inj (hq'.symm.trans hp)
   by_cases h2 : m' = l'
   ·subst h2
    rw [hp'] at hp1; cases hp1
    exact absurd hR1 (hblk m o q R h1 hs hq hR).2
   ·obtain ⟨q1, hq1, hq1'⟩ := hobj m' o' h2 hs'
    obtain rfl : q1 = p1 := Option.some.inj (hq1'.symm.trans hp1)
    rcases hσ m o hs with ⟨_, s1⟩ | ⟨s1, _⟩
    ·rcases hσ m' o' hs' with ⟨_, s2⟩ | ⟨s2, _⟩
     ·exact hi.inj m m' o o' q q1 R s1 s2 hq hq1 hR hR1
     ·exact absurd s2 h2
    ·exact absurd s1 h1
 ·intro a v h
  rw [hsnap] at h
  exact (World.cell?_heap (hsn a v h).1).trans (hi.snap a v h)
 ·intro m o p R a v hs hp hR h he
  rw [hsnap] at h
  by_cases h1 : m = l'
  ·subst h1
   rw [hp'] at hp; cases hp
   exact (hsn a v h).2 (he ▸ hR)
  ·obtain ⟨q, hq, hq'⟩ := hobj m o h1 hs
   obtain rfl : q = p := Option.some.inj (hq'.symm.trans hp)
   rcases hσ m o hs with ⟨_, s1⟩ | ⟨s1, _⟩
   ·exact hi.apart m o q R a v s1 hq hR h he
   ·exact absurd s1 h1
 ·exact ⟨hfresh, fun g i v q => by rw [hsnap]; exact hi.fresh.2 g i v q⟩
def Phi.put (Φ : Phi) (l : Nat) (p : Place) : Phi := { Φ with obj := fun k => if k = l then some p else Φ.obj k }
theorem Phi.put_le {Φ : Phi} {l : Nat} (p : Place) (h : Φ.obj l = none) : Φ.le (Φ.put l p) :=
 ⟨fun _ _ q => q, fun k q hq => by
  simp only [Phi.put]
  split
  ·rename_i hk; subst hk; rw [h] at hq; cases hq
  ·exact hq, rfl⟩
theorem Phi.put_obj (Φ : Phi) (l : Nat) (p : Place) : (Φ.put l p).obj l = some p := by simp [Phi.put]
theorem Inv.fresh_put {Φ : Phi} {w : World} {σ : St} (hi : Inv Φ w σ) (l : Nat) (p : Place) (hbo : p.bo = 0 := by rfl) : (Φ.put l p).fin := by
 obtain ⟨n, hn⟩ := hi.fresh.1.1
 refine ⟨⟨max n (l + 1), fun k hk => ?_⟩, fun k q hk => ?_⟩
 ·simp only [Phi.put]
  rw [if_neg (by omega)]
  exact hn k (by omega)
 ·simp only [Phi.put] at hk
  split at hk
  ·cases hk; exact hbo
  ·exact hi.fresh.1.2 k q hk
theorem St.set_cases {σ : St} {l m : Nat} {o o' : MObj} (h : (σ.set l o') m = some o) : (m ≠ l ∧ σ m = some o) ∨ (m = l ∧ o = o') := by
 simp only [St.set] at h
 split at h
 ·rename_i hm; exact .inr ⟨hm, by cases h; rfl⟩
 ·rename_i hm; exact .inl ⟨hm, h⟩
theorem Inv.alloc {Φ : Phi} {w w' : World} {σ : St} (hi : Inv Φ w σ) (l : Nat) (hl : Φ.obj l = none) (o : MObj) (ob : Obj) (p : Place) (hp : p.blk = some w.heap.size) (hh : w'.heap = w.heap.push ob)
  (h1 : w'.os = w.os) (h2 : w'.tape = w.tape) (h3 : w'.output = w.output) (h4 : drw w ≤ drw w') (hown : OwnOk (Φ.put l p) w' l o) (hbo : p.bo = 0 := by rfl) : Inv (Φ.put l p) w' (σ.set l o) ∧ Step Φ σ w (Φ.put l p) (σ.set l o) w' := by
 have hold : ∀ k, k < w.heap.size → w'.heap[k]? = w.heap[k]? := fun k hk => by rw [hh, Array.getElem?_push, if_neg (by omega)]
 have hle := Phi.put_le p hl
 refine ⟨hi.upd hle (fun _ => rfl) l o p (Phi.put_obj _ _ _) (fun m o q => St.set_cases q) (fun m o' q R hm hs hq hR => ?_) (fun a v h => ?_) hown (hi.fresh_put l p hbo), hle, h1, h2, h3, h4, by rw [hh]; simp, fun k hk _ => hold k hk, fun a v h => .inl h, fun m o q => ?_, fun R hR => ?_⟩
 ·rcases St.set_cases hs with ⟨_, q1⟩ | ⟨q1, _⟩
  ·obtain ⟨p1, hp1, hlt⟩ := (hi.own m o' q1).place
   rw [hp1] at hq; cases hq
   have := hlt R hR
   exact ⟨hold R this, by rw [hp]; simp; omega⟩
  ·exact absurd q1 hm
 ·have := World.block_lt_of_cell? w a (hi.snap a v h)
  exact ⟨hold _ this, by rw [hp]; simp; omega⟩
 ·rcases St.set_cases q with ⟨_, q1⟩ | ⟨rfl, _⟩
  ·exact .inl ⟨_, q1⟩
  ·exact .inr hl
 ·obtain ⟨m, o1, p1, s1, s2, s3⟩ := hR
  rcases St.set_cases s1 with ⟨hm, q1⟩ | ⟨rfl, _⟩
  ·have : (Φ.put l p).obj m = Φ.obj m := by simp [Phi.put, hm]
   rw [this] at s2
   exact .inl ⟨m, o1, p1, q1, s2, s3⟩
  ·rw [Phi.put_obj] at s2; cases s2
   rw [hp] at s3; cases s3
   exact .inr (Nat.le_refl _)
theorem Inv.turn {Φ : Phi} {w w' : World} {σ : St} (hi : Inv Φ w σ) (l : Nat) {o0 : MObj} (hs : σ l = some o0) (o : MObj) {p : Place} {R : Nat} (hp : Φ.obj l = some p) (hR : p.blk = some R)
  (hsz : w'.heap.size = w.heap.size) (hh : ∀ k, k ≠ R → w'.heap[k]? = w.heap[k]?) (h1 : w'.os = w.os) (h2 : w'.tape = w.tape) (h3 : w'.output = w.output) (h4 : drw w ≤ drw w') (hown : OwnOk Φ w' l o) :
  Inv Φ w' (σ.set l o) ∧ Step Φ σ w Φ (σ.set l o) w' := by
 refine ⟨hi.upd (.refl Φ) (fun _ => rfl) l o p hp (fun m o q => St.set_cases q) (fun m o' q R' hm hs' hq hR' => ?_) (fun a v h => ?_) hown hi.fresh.1, .refl Φ, h1, h2, h3, h4, Nat.le_of_eq hsz.symm, fun k hk hn => hh k ?_, fun a v h => .inl h, fun m o q => ?_, fun R' hR' => ?_⟩
 ·rcases St.set_cases hs' with ⟨_, q1⟩ | ⟨q1, _⟩
  ·have hne : R' ≠ R := fun e => hm (hi.inj m l o' o0 q p R' q1 hs hq hp hR' (e ▸ hR))
   exact ⟨hh R' hne, by rw [hR]; simpa using Ne.symm hne⟩
  ·exact absurd q1 hm
 ·have hne := hi.apart l o0 p R a v hs hp hR h
  exact ⟨hh _ hne, by rw [hR]; simpa using Ne.symm hne⟩
 ·intro e
  subst e
  exact hn ⟨l, o0, p, hs, hp, hR⟩
 ·rcases St.set_cases q with ⟨_, q1⟩ | ⟨rfl, _⟩
  ·exact .inl ⟨_, q1⟩
  ·exact .inl ⟨_, hs⟩
 ·obtain ⟨m, o1, p1, s1, s2, s3⟩ := hR'
  rcases St.set_cases s1 with ⟨hm, q1⟩ | ⟨rfl, _⟩
  ·exact .inl ⟨m, o1, p1, q1, s2, s3⟩
  ·exact .inl ⟨m, o0, p1, hs, s2, s3⟩
def sop (P : Program) (o : Oper) (f : FR) (σ : St) (k : MV → St → Prop) : Prop :=
 ∀ Φ w a K Q', Inv Φ w σ → FRel Φ a.tmps f → (∀ v mv σ' Φ' w', Rel Φ' v mv → Inv Φ' w' σ' → Step Φ σ w Φ' σ' w' → k mv σ' → K (a.put o.dst v) w') → o.wp P a w K Q'
theorem wp_value {P : Program} {o : Oper} {a : Act} {w w' : World} {K : Act → World → Prop} {Q : Exit → Act → World → Prop} {v : Value} (h : (execOp a.eval o).run P w = .ok (.value v) w') (hK : K (a.put o.dst v) w') : o.wp P a w K Q := by
 unfold Oper.wp Oper.upon
 rw [h]
 exact hK
theorem wp_unit {P : Program} {o : Oper} {a : Act} {w w' : World} {K : Act → World → Prop} {Q : Exit → Act → World → Prop} (h : (execOp a.eval o).run P w = .ok .skip w') (hK : K (a.put o.dst undef) w') : o.wp P a w K Q := by
 unfold Oper.wp Oper.upon
 rw [h]
 exact hK
theorem sop_pure {P : Program} {o : Oper} {f : FR} {σ : St} {k : MV → St → Prop} {C : Prop} {mv : MV} (h : qop P f o.op = some (C, mv)) (hot : opTypes o.op = true) (hC : C) (hk : k mv σ) : sop P o f σ k := by
 intro Φ w a K Q' hi hr hK
 obtain ⟨v, hv, hrel⟩ := qop_sound hi.fresh.2 hr h hC hot
 exact wp_value (hv w) (hK v mv σ Φ w hrel hi (.refl _ _ _) hk)
theorem own_one {Φ : Phi} {w : World} {l : Nat} {t : TypeId} {cs : Array Value} {ms : List MV} {R : Nat} (hp : Φ.obj l = some ⟨some R, 0, ms.length, 1⟩) (hh : w.heap[R]? = some (.cells cs t (0, 0))) (hc : RelC Φ cs ms) : OwnOk Φ w l (.row t ms.length [ms]) := by
 refine ⟨_, hp, rfl, by simp, by simp [maxLen], fun i x hx => ?_, cs, (0, 0), hh, .inl (Nat.le_refl _), by have := hc.1; simp; omega, fun i x j m hx hm => ?_⟩
 ·cases i <;> simp at hx
  subst hx
  rfl
 ·cases i <;> simp at hx
  subst hx
  refine ⟨hc.2.1 j m hm, cs.getD j undef, ?_, hc.2.2 j m hm⟩
  have hlt : j < cs.size := by have := (List.getElem?_eq_some_iff.1 hm).1; rw [hc.1]; exact this
  simp [Array.getD_eq_getD_getElem?, Array.getElem?_eq_getElem hlt]
theorem RelC.mono {Φ Φ' : Phi} (hle : Φ.le Φ') {cs : Array Value} {ms : List MV} (h : RelC Φ cs ms) : RelC Φ' cs ms := ⟨h.1, h.2.1, fun i m hm => (h.2.2 i m hm).mono hle⟩
theorem sop_alloc {P : Program} {o : Oper} {f : FR} {σ : St} {k : MV → St → Prop} {t : TypeId} (ho : o.op = .alloc t) (hz : (td P t).zok = true)
  (hk : ∀ l, σ l = none → k (.ptr l 0 0) (σ.set l (.row t (td P t).size [(td P t).zero]))) : sop P o f σ k := by
 intro Φ w a K Q' hi hr hK
 obtain ⟨n, hn⟩ := hi.fresh.1.1
 have hl := hn n (Nat.le_refl _)
 obtain ⟨z, hz0, hz1, hz2, hok, hz3, _⟩ := run_zero' hz w
 have hlen : (td P t).zero.length = (td P t).size := by rw [← hz1, ← hz2]; simp
 have hrun : (execOp a.eval o).run P w = .ok (.value (.pointer (some ⟨w.heap.size, 0, none⟩))) (w.alloc (.cells z.cells t)) := by
  unfold execOp
  simp only [ho, Instr.alloc, Sem.run_bind, hz0, Result.andThen_ok, newVar, newRow, run_newObj, Sem.run_pure]
  rfl
 obtain ⟨i1, s1⟩ := hi.alloc (w' := w.alloc (.cells z.cells t)) n hl (.row t (td P t).zero.length [(td P t).zero]) (.cells z.cells t) ⟨some w.heap.size, 0, (td P t).zero.length, 1⟩ rfl rfl rfl rfl rfl (by first | exact Nat.le_refl _ | exact drw_le (Nat.le_succ _))
  (own_one (R := w.heap.size) (Phi.put_obj _ _ _) (heap_alloc_new w _) (zero_relC hz1 hz3))
 rw [hlen] at i1 s1
 refine wp_value hrun (hK _ (.ptr n 0 0) _ _ _ ?_ i1 s1 (hk n (hi.obj_none hl)))
 have := Rel.ptr (Φ := Φ.put n ⟨some w.heap.size, 0, (td P t).size, 1⟩) (l := n) (i := 0) (o := 0) (R := w.heap.size) (Phi.put_obj _ _ _) rfl
 simpa using this
theorem sop_box {P : Program} {o : Oper} {f : FR} {σ : St} {k : MV → St → Prop} {t : TypeId} {x : Operand} (ho : o.op = .box t x) (hc : ∀ c, c ∈ (mval f x).cells → c.isCell = true)
  (hk : ∀ l, σ l = none → k (.ptr l 0 0) (σ.set l (.row t (mval f x).cells.length [(mval f x).cells]))) : sop P o f σ k := by
 intro Φ w a K Q' hi hr hK
 obtain ⟨n, hn⟩ := hi.fresh.1.1
 have hl := hn n (Nat.le_refl _)
 have rc := rel_cells (rel_mval hr x) hc
 have hrun : (execOp a.eval o).run P w = .ok (.value (.pointer (some ⟨w.heap.size, 0, none⟩))) (w.alloc (.cells (a.eval x).cells t)) := by
  unfold execOp
  simp only [ho, Instr.box, Sem.run_bind, newVar, newRow, run_newObj, Result.andThen_ok, Sem.run_pure]
  rfl
 obtain ⟨i1, s1⟩ := hi.alloc (w' := w.alloc (.cells (a.eval x).cells t)) n hl (.row t (mval f x).cells.length [(mval f x).cells]) (.cells (a.eval x).cells t) ⟨some w.heap.size, 0, (mval f x).cells.length, 1⟩ rfl rfl rfl rfl rfl (by first | exact Nat.le_refl _ | exact drw_le (Nat.le_succ _))
  (own_one (R := w.heap.size) (Phi.put_obj _ _ _) (heap_alloc_new w _) (rc.mono (Phi.put_le _ hl)))
 refine wp_value hrun (hK _ (.ptr n 0 0) _ _ _ ?_ i1 s1 (hk n (hi.obj_none hl)))
 have := Rel.ptr (Φ := Φ.put n ⟨some w.heap.size, 0, (mval f x).cells.length, 1⟩) (l := n) (i := 0) (o := 0) (R := w.heap.size) (Phi.put_obj _ _ _) rfl
 simpa using this
theorem run_loadVar' {P : Program} {Φ : Phi} {w : World} {t : TypeId} {b off : Nat} {ms : List MV} (hok : (td P t).ok = true) (h1 : (td P t).size ≤ ms.length) (h0 : 0 < (td P t).size)
  (hc : ∀ (j : Nat) m, ms[j]? = some m → m.isCell = true ∧ ∃ v, w.cell? ⟨b, off + j, none⟩ = some v ∧ Rel Φ v m) :
  ∃ v, (loadVar t ⟨b, off, none⟩).run P w = .ok v w ∧ Rel Φ v (mpart (td P t) ms 0) := by
 have hch : ∀ j, j < ms.length → ∃ v, w.cell? ⟨b, off + j, none⟩ = some v ∧ Rel Φ v (ms.getD j .junk) := fun j hj => (hc j _ (getD_of hj)).2
 let g : Nat → Value := fun j => if hj : j < ms.length then (hch j hj).choose else undef
 have hg : ∀ j, j < ms.length → w.cell? ⟨b, off + j, none⟩ = some (g j) ∧ Rel Φ (g j) (ms.getD j .junk) := fun j hj => by
  have := (hch j hj).choose_spec
  simp only [g, dif_pos hj]
  exact this
 unfold mpart
 simp only [loadVar, Sem.run_bind, run_isAgg' hok, Result.andThen_ok]
 cases hk : (td P t).k.isAgg with
 | true =>
  simp only [if_true, run_sizeOf' hok, Sem.run_bind, Result.andThen_ok]
  rw [run_loadCells w ⟨b, off, none⟩ (td P t).size g (fun j hj => by rw [add_none]; exact (hg j (by omega)).1)]
  refine ⟨_, rfl, .agg ?_ (fun i m hm => ?_) (fun i m hm => ?_)⟩
  ·simp; omega
  ·rw [List.getElem?_take] at hm
   split at hm
   ·exact (hc i m (by simpa using hm)).1
   ·cases hm
  ·rw [List.getElem?_take] at hm
   split at hm
   ·rename_i hi
    have hm' : ms[i]? = some m := by simpa using hm
    have e : ms.getD i .junk = m := by simp [List.getD, hm']
    have := (hg i (by omega)).2
    rw [e] at this
    simpa [Array.getD_eq_getD_getElem?, hi] using this
   ·cases hm
 | false =>
  have := hg 0 (by omega)
  rw [Nat.add_zero] at this
  refine ⟨g 0, ?_, this.2⟩
  simp only [Bool.false_eq_true, if_false, run_load, this.1]
theorem OwnOk.elem {Φ : Phi} {w : World} {l : Nat} {t : TypeId} {e : Nat} {xs : List (List MV)} (h : OwnOk Φ w l (.row t e xs)) {i : Nat} {x : List MV} (hx : xs[i]? = some x) :
  ∃ p, Φ.obj l = some p ∧ p.e = e ∧ x.length = e ∧ ((∃ R, p.blk = some R ∧ ∀ (j : Nat) m, x[j]? = some m → m.isCell = true ∧ ∃ v, w.cell? ⟨R, p.bo + i * e + j, none⟩ = some v ∧ Rel Φ v m)) := by
 obtain ⟨p, hp, he, h1, h2, h3, h4⟩ := h
 refine ⟨p, hp, he, h3 i x hx, ?_⟩
 cases hb : p.blk with
 | none =>
  rw [hb] at h4
  have := (List.getElem?_eq_some_iff.1 hx).1
  have h4' : p.C = 0 := h4
  omega
 | some R =>
  rw [hb] at h4
  obtain ⟨c, fz, k1, k2, k3, k4⟩ := h4
  refine ⟨R, rfl, fun j m hm => ?_⟩
  obtain ⟨q1, v, q2, q3⟩ := k4 i x j m hx hm
  refine ⟨q1, v, ?_, q3⟩
  simp only [World.cell?, k1, Option.isSome_none, Bool.false_eq_true, if_false]
  rw [← q2, Nat.add_assoc]
theorem sop_load {P : Program} {o : Oper} {f : FR} {σ : St} {k : MV → St → Prop} {t : TypeId} {x : Operand} (ho : o.op = .load t x) {l i of : Nat} (hx : mval f x = .ptr l i of)
  {tt : TypeId} {e : Nat} {xs : List (List MV)} (hs : σ l = some (.row tt e xs)) (hok : (td P t).ok = true) (hi' : i < xs.length) (h1 : of + (td P t).size ≤ (xs.getD i []).length) (h0 : 0 < (td P t).size)
  (hk : k (mpart (td P t) (xs.getD i []) of) σ) : sop P o f σ k := by
 intro Φ w a K Q' hi hr hK
 have rx := rel_mval hr x
 rw [hx] at rx
 obtain ⟨p, R, hp, hR, he⟩ := rx.inv_ptr
 obtain ⟨p', hp', hpe, hlen, R', hR', hcells⟩ := (hi.own l _ hs).elem (getD_of hi' (d := []))
 rw [hp] at hp'; cases hp'
 rw [hR] at hR'; cases hR'
 obtain ⟨v, hv, hrel⟩ := run_loadVar' (P := P) (Φ := Φ) (w := w) (t := t) (b := R) (off := p.bo + i * p.e + of) (ms := (xs.getD i []).drop of) hok (by rw [List.length_drop]; omega) h0 (fun j m hm => by
  rw [List.getElem?_drop] at hm
  have := hcells _ m hm
  rw [Nat.add_assoc (p.bo + i * p.e), hpe]
  exact this)
 have e2 : mpart (td P t) ((xs.getD i []).drop of) 0 = mpart (td P t) (xs.getD i []) of := by
  unfold mpart
  simp [List.getD, List.getElem?_drop]
 rw [e2] at hrel
 refine wp_value (v := v) (w' := w) ?_ (hK _ _ _ _ _ hrel hi (.refl _ _ _) hk)
 unfold execOp
 simp only [ho, he, Instr.loadAt, Sem.run_bind, run_sureAddr, Result.andThen_ok, hv, Sem.run_pure]
theorem sop_cload {P : Program} {o : Oper} {f : FR} {σ : St} {k : MV → St → Prop} {t : TypeId} {x : Operand} (ho : o.op = .load t x) {cs : List MV} (hx : mval f x = .cptr cs)
  (hok : (td P t).ok = true) (h1 : (td P t).size ≤ cs.length) (h0 : 0 < (td P t).size) (hk : k (mpart (td P t) cs 0) σ) : sop P o f σ k := by
 intro Φ w a K Q' hi hr hK
 have rx := rel_mval hr x
 rw [hx] at rx
 obtain ⟨b, off, vs, he, hc, hrr⟩ := rx.inv_cptr
 obtain ⟨v, hv, hrel⟩ := run_loadVar' (P := P) (Φ := Φ) (w := w) (t := t) (b := b) (off := off) (ms := cs) hok h1 h0 (fun j m hm => ⟨(hc j m hm).1, vs j, hi.snap _ _ (hc j m hm).2, hrr j m hm⟩)
 refine wp_value (v := v) (w' := w) ?_ (hK _ _ _ _ _ hrel hi (.refl _ _ _) hk)
 unfold execOp
 simp only [ho, he, Instr.loadAt, Sem.run_bind, run_sureAddr, Result.andThen_ok, hv, Sem.run_pure]
end Go.Proofs.YtjljgahfkcdhfaaGreatDoor
end

section
namespace Go.Proofs.YtjljgahfkcdhfaaGreatDoor
def wset (w : World) (R : Nat) (o : Obj) : World := { w with heap := w.heap.setIfInBounds R o }
theorem wset_same {w : World} {R : Nat} {o : Obj} (h : R < w.heap.size) : (wset w R o).heap[R]? = some o := by simp [wset, h]
theorem wset_other {w : World} {R k : Nat} {o : Obj} (h : k ≠ R) : (wset w R o).heap[k]? = w.heap[k]? := by simp [wset, Array.getElem?_setIfInBounds, Ne.symm h]
theorem wset_size {w : World} {R : Nat} {o : Obj} : (wset w R o).heap.size = w.heap.size := by simp [wset]
theorem wset_wset {w : World} {R : Nat} {o o' : Obj} : wset (wset w R o) R o' = wset w R o' := by
 simp only [wset, Array.setIfInBounds_setIfInBounds]
theorem wset_self {w : World} {R : Nat} {o : Obj} (h : w.heap[R]? = some o) : wset w R o = w := by
 have : w.heap.setIfInBounds R o = w.heap := by
  apply Array.ext_getElem?
  intro i
  rw [Array.getElem?_setIfInBounds]
  split
  ·rename_i hi
   subst hi
   have := (Array.getElem?_eq_some_iff.1 h).1
   simp [this, ← h]
  ·rfl
 unfold wset
 rw [this]
theorem setCell_wset {w : World} {R k : Nat} {c : Array Value} {t : TypeId} {fz : Nat × Nat} {v : Value} (h : w.heap[R]? = some (.cells c t fz)) :
  w.setCell ⟨R, k, none⟩ v = wset w R (.cells (c.setIfInBounds k v) t fz) := by
 unfold World.setCell wset
 congr 1
 apply Array.ext_getElem?
 intro i
 rw [Array.getElem?_modify, Array.getElem?_setIfInBounds]
 have hlt := (Array.getElem?_eq_some_iff.1 h).1
 split
 ·rename_i hi
  subst hi
  have h2 : w.heap[R] = .cells c t fz := (Array.getElem?_eq_some_iff.1 h).2
  simp [hlt, h2]
 ·rfl
def FzOk (c : Array Value) (fz : Nat × Nat) : Prop := fz.2 ≤ fz.1 ∨ c.size ≤ fz.1
section
variable {P : Program} {Φ : Phi}
theorem run_storeCells' {R : Nat} {t : TypeId} {fz : Nat × Nat} {off : Nat} : ∀ (vs : List Value) (i : Nat) (c : Array Value) (w : World), w.heap[R]? = some (.cells c t fz) → FzOk c fz → off + i + vs.length ≤ c.size → (∀ v, v ∈ vs → v.oneCell' = true) →
  (storeCells ⟨R, off, none⟩ vs i).run P w = .ok () (wset w R (.cells (setAll c (off + i) vs) t fz)) := by
 intro vs
 induction vs with
 | nil => intro i c w h _ _ _; simp only [storeCells, setAll, Sem.run_pure]; rw [wset_self h]
 | cons v vs ih =>
  intro i c w h hf hl h1
  simp only [List.length_cons] at hl
  have hlt : R < w.heap.size := (Array.getElem?_eq_some_iff.1 h).1
  have hc : w.cell? ⟨R, off + i, none⟩ = some (c.getD (off + i) undef) := by
   simp only [World.cell?, h, Option.isSome_none, Bool.false_eq_true, if_false]
   simp [Array.getD_eq_getD_getElem?, Array.getElem?_eq_getElem (show off + i < c.size by omega)]
  have hz : w.frozen? ⟨R, off + i, none⟩ = false := by
   simp only [World.frozen?, h]
   rcases hf with hf | hf
   ·simp; omega
   ·simp; omega
  simp only [storeCells, Sem.run_bind]
  rw [add_none, run_store P w _ v _ (h1 v (by simp)), hc]
  simp only [hz, Bool.false_eq_true, if_false, Result.andThen_ok]
  rw [setCell_wset h, ih (i + 1) (c.setIfInBounds (off + i) v) _ (wset_same hlt) (by simpa [FzOk] using hf) (by simp; omega) (fun x hx => h1 x (by simp [hx])), wset_wset]
  rfl
theorem RelC.oneCells {cs : Array Value} {ms : List MV} (h : RelC Φ cs ms) : ∀ v, v ∈ cs.toList → v.oneCell' = true := by
 intro v hv
 obtain ⟨i, hi⟩ := List.mem_iff_getElem?.1 hv
 have hlt : i < ms.length := by have := (List.getElem?_eq_some_iff.1 hi).1; have := h.1; simp at *; omega
 have hm : ms[i]? = some (ms.getD i .junk) := getD_of hlt
 have := (h.2.2 i _ hm).oneCell (h.2.1 i _ hm)
 rw [Array.getElem?_toList] at hi
 simpa [Array.getD_eq_getD_getElem?, hi] using this
theorem flatten_get {e : Nat} : ∀ (xs : List (List MV)) (i j : Nat) (x : List MV) (m : MV), (∀ (i : Nat) (x : List MV), xs[i]? = some x → x.length = e) → xs[i]? = some x → x[j]? = some m → xs.flatten[i * e + j]? = some m := by
 intro xs
 induction xs with
 | nil => intro i j x m _ hx; simp at hx
 | cons y ys ih =>
  intro i j x m hall hx hm
  have hy : y.length = e := hall 0 y rfl
  cases i with
  | zero =>
   simp at hx
   subst hx
   have := (List.getElem?_eq_some_iff.1 hm).1
   rw [List.flatten_cons, List.getElem?_append_left (by omega)]
   simpa using hm
  | succ i =>
   have := ih i j x m (fun k z hz => hall (k + 1) z (by simpa using hz)) (by simpa using hx) hm
   rw [List.flatten_cons, List.getElem?_append_right (by rw [hy, Nat.add_mul]; omega)]
   rw [← this]
   congr 1
   rw [hy, Nat.add_mul]
   omega
theorem flatten_length {e : Nat} : ∀ (xs : List (List MV)), (∀ (i : Nat) (x : List MV), xs[i]? = some x → x.length = e) → xs.flatten.length = xs.length * e := by
 intro xs
 induction xs with
 | nil => intro _; simp
 | cons y ys ih =>
  intro h
  rw [List.flatten_cons, List.length_append, ih (fun k z hz => h (k + 1) z (by simpa using hz)), h 0 y rfl, List.length_cons, Nat.add_mul]
  omega
theorem own_row {w : World} {l : Nat} {t : TypeId} {e : Nat} {xs : List (List MV)} {p : Place} {R : Nat} {c : Array Value} {fz : Nat × Nat} (hp : Φ.obj l = some p) (hR : p.blk = some R) (he : p.e = e) (hC : xs.length ≤ p.C) (hm : p.C ≤ maxLen)
  (hx : ∀ (i : Nat) (x : List MV), xs[i]? = some x → x.length = e) (hh : w.heap[R]? = some (.cells c t fz)) (hf : FzOk c fz) (hsz : p.bo + p.C * e ≤ c.size)
  (hc : ∀ (i : Nat) m, xs.flatten[i]? = some m → m.isCell = true ∧ ∃ v, c[p.bo + i]? = some v ∧ Rel Φ v m) : OwnOk Φ w l (.row t e xs) := by
 refine ⟨p, hp, he, hC, hm, hx, ?_⟩
 rw [hR]
 exact ⟨c, fz, hh, hf, hsz, fun i x j m a b => hc _ m (flatten_get xs i j x m hx a b)⟩
theorem own_virt {w : World} {l : Nat} {t : TypeId} {e : Nat} {p : Place} (hp : Φ.obj l = some p) (hR : p.blk = none) (he : p.e = e) (hC : p.C = 0) : OwnOk Φ w l (.row t e []) := by
 refine ⟨p, hp, he, Nat.zero_le _, by simp [hC, maxLen], by simp, ?_⟩
 rw [hR]
 exact hC
theorem run_loadCells' {w : World} {b off : Nat} {ms : List MV} (hc : ∀ (j : Nat) m, ms[j]? = some m → m.isCell = true ∧ ∃ v, w.cell? ⟨b, off + j, none⟩ = some v ∧ Rel Φ v m) :
  ∃ arr, (∀ w' : World, w'.heap = w.heap → (loadCells ⟨b, off, none⟩ ms.length).run P w' = .ok arr w') ∧ RelC Φ arr ms := by
 have hch : ∀ j, j < ms.length → ∃ v, w.cell? ⟨b, off + j, none⟩ = some v ∧ Rel Φ v (ms.getD j .junk) := fun j hj => (hc j _ (getD_of hj)).2
 let g : Nat → Value := fun j => if hj : j < ms.length then (hch j hj).choose else undef
 have hg : ∀ j, j < ms.length → w.cell? ⟨b, off + j, none⟩ = some (g j) ∧ Rel Φ (g j) (ms.getD j .junk) := fun j hj => by
  have := (hch j hj).choose_spec
  simp only [g, dif_pos hj]
  exact this
 refine ⟨((List.range ms.length).map g).toArray, fun w' hw' => ?_, by simp, fun i m hm => (hc i m hm).1, fun i m hm => ?_⟩
 ·exact run_loadCells w' ⟨b, off, none⟩ ms.length g (fun j hj => by
   rw [add_none]
   have := (hg j hj).1
   simpa [World.cell?, hw'] using this)
 ·have hlt := (List.getElem?_eq_some_iff.1 hm).1
  have e : ms.getD i .junk = m := by simp [List.getD, hm]
  have := (hg i hlt).2
  rw [e] at this
  simpa [Array.getD_eq_getD_getElem?, hlt] using this
theorem flatten_single {α β : Type} (g : α → β) : ∀ l : List α, (l.map fun b => [g b]).flatten = l.map g
 | [] => rfl
 | a :: l => by simp [flatten_single g l]
def msrc (σ : St) (e : Nat) : MV → Option (List (List MV))
 | .nils => some []
 | .lst e' xs _ => if e' = e then some xs else none
 | .vec e' l lo n => if e' = e then (match σ l with
  | some (.row _ _ ys) => if lo + n ≤ ys.length then some ((ys.drop lo).take n) else none
  | _ => none) else none
 | .str s => if e = 1 then some (s.toList.map fun b => [.int .u8 (b.toNat : Int)]) else none
 | _ => none
theorem OwnOk.e_eq {w : World} {l : Nat} {t : TypeId} {e : Nat} {xs : List (List MV)} (h : OwnOk Φ w l (.row t e xs)) : ∀ (i : Nat) (x : List MV), xs[i]? = some x → x.length = e := h.choose_spec.2.2.2.2.1
theorem cells_flatten {w : World} {b off e : Nat} {xs : List (List MV)} (hx : ∀ (i : Nat) (x : List MV), xs[i]? = some x → x.length = e)
  (h : ∀ (i : Nat) (x : List MV) (j : Nat) (m : MV), xs[i]? = some x → x[j]? = some m → m.isCell = true ∧ ∃ v, w.cell? ⟨b, off + (i * e + j), none⟩ = some v ∧ Rel Φ v m) :
  ∀ (k : Nat) m, xs.flatten[k]? = some m → m.isCell = true ∧ ∃ v, w.cell? ⟨b, off + k, none⟩ = some v ∧ Rel Φ v m := by
 induction xs generalizing off with
 | nil => intro k m hm; simp at hm
 | cons y ys ih =>
  intro k m hm
  have hy : y.length = e := hx 0 y rfl
  rw [List.flatten_cons] at hm
  by_cases hk : k < y.length
  ·rw [List.getElem?_append_left hk] at hm
   have := h 0 y k m rfl hm
   simpa using this
  ·rw [List.getElem?_append_right (by omega)] at hm
   have := ih (off := off + e) (fun i x q => hx (i + 1) x (by simpa using q)) (fun i x j m q r => by
    have := h (i + 1) x j m (by simpa using q) r
    rw [Nat.add_mul, Nat.one_mul] at this
    rw [show off + e + (i * e + j) = off + (i * e + e + j) from by omega]
    exact this) _ m hm
   rw [hy] at this
   rw [show off + e + (k - e) = off + k from by omega] at this
   exact this
theorem msrc_sound {w : World} {σ : St} {e : Nat} {x : MV} {ys : List (List MV)} (h : msrc σ e x = some ys) (hi : Inv Φ w σ) {v : Value} (r : Rel Φ v x) :
  ∃ arr, (∀ w' : World, w'.heap = w.heap → (Builtin.lenOf v).run P w' = .ok ys.length w' ∧ (Builtin.firstCells e ys.length v).run P w' = .ok arr w') ∧ RelC Φ arr ys.flatten ∧ ∀ (i : Nat) (y : List MV), ys[i]? = some y → y.length = e := by
 unfold msrc at h
 split at h
 ·cases h; cases r.inv_nils
  exact ⟨#[], fun w' _ => ⟨rfl, rfl⟩, ⟨rfl, by simp, by simp⟩, by simp⟩
 ·rename_i e' xs t
  split at h <;> simp only [Option.some.injEq, reduceCtorEq] at h
  rename_i he
  subst he; subst h
  obtain ⟨a, cap, rfl, _, _, _, ha, hat⟩ := r.inv_lst
  rcases Nat.eq_zero_or_pos xs.length with h0 | h0
  ·have hx := List.eq_nil_of_length_eq_zero h0
   subst hx
   refine ⟨#[], fun w' _ => ⟨rfl, ?_⟩, ⟨rfl, by simp, by simp⟩, by simp⟩
   cases a with
   | none => rfl
   | some a => simp [Builtin.firstCells, loadCells, loadCellsFrom]
  ·obtain ⟨b, off, rfl, hx, vs, hv⟩ := hat h0
   obtain ⟨arr, h1, h2⟩ := run_loadCells' (P := P) (Φ := Φ) (w := w) (b := b) (off := off) (ms := xs.flatten) (cells_flatten hx (fun i x j m a b => ⟨(hv i x j m a b).1, _, hi.snap _ _ (hv i x j m a b).2.1, (hv i x j m a b).2.2⟩))
   refine ⟨arr, fun w' hw => ⟨rfl, ?_⟩, h2, hx⟩
   have e3 := flatten_length _ hx
   show (loadCells _ (xs.length * e')).run P w' = _
   rw [← e3]
   exact h1 w' hw
 ·rename_i e' l lo n
  split at h
  rotate_left
  ·cases h
  rename_i he
  subst he
  split at h
  ·rename_i t e2 zs hs
   split at h <;> simp only [Option.some.injEq, reduceCtorEq] at h
   rename_i hlen
   subst h
   have hown := hi.own l _ hs
   obtain ⟨a, cap, p, rfl, hp, rfl, hcap, hn, hR⟩ := r.inv_vec
   have hl : ((zs.drop lo).take n).length = n := by simp; omega
   have hxx : ∀ (i : Nat) (y : List MV), ((zs.drop lo).take n)[i]? = some y → zs[lo + i]? = some y := fun i y q => by
    rw [List.getElem?_take] at q
    split at q
    ·simpa using q
    ·cases q
   have hpe : p.e = e2 := by
    obtain ⟨p', hp', he', _⟩ := hown
    rw [hp] at hp'; cases hp'
    exact he'
   have hx : ∀ (i : Nat) (y : List MV), ((zs.drop lo).take n)[i]? = some y → y.length = p.e := fun i y q => by rw [hpe]; exact hown.e_eq (lo + i) y (hxx i y q)
   rcases Nat.eq_zero_or_pos n with h0 | h0
   ·subst h0
    refine ⟨#[], fun w' _ => ⟨by simp [Builtin.lenOf], ?_⟩, ⟨by simp, by simp, by simp⟩, by simp⟩
    cases a with
    | none => simp [Builtin.firstCells]
    | some a => simp [Builtin.firstCells, loadCells, loadCellsFrom]
   ·rcases hR with ⟨R, hb, rfl⟩ | hR
    ·obtain ⟨arr, h1, h2⟩ := run_loadCells' (P := P) (Φ := Φ) (w := w) (b := R) (off := p.bo + lo * p.e) (ms := ((zs.drop lo).take n).flatten) (cells_flatten hx (fun i x j m q1 q2 => by
      obtain ⟨p', hp', he', _, R', hR', hc⟩ := hown.elem (hxx i x q1)
      rw [hp] at hp'; cases hp'
      rw [hb] at hR'; cases hR'
      have := hc j m q2
      rw [← hpe, show p.bo + (lo + i) * p.e + j = p.bo + lo * p.e + (i * p.e + j) from by rw [Nat.add_mul]; omega] at this
      exact this))
     refine ⟨arr, fun w' hw => ⟨by simp only [Builtin.lenOf, hl]; rfl, ?_⟩, h2, hx⟩
     have e3 := flatten_length _ hx
     show (loadCells _ (((zs.drop lo).take n).length * p.e)).run P w' = _
     rw [← e3]
     exact h1 w' hw
    ·omega
  ·cases h
 ·rename_i s
  split at h <;> simp only [Option.some.injEq, reduceCtorEq] at h
  rename_i he
  subst he; subst h
  cases r.inv_str
  have hsl : s.toList.length = s.size := by rw [ByteArray.toList_eq, Array.length_toList]; rfl
  refine ⟨s.data.map fun b => .int .u8 b.toNat, fun w' _ => ⟨by simp only [Builtin.lenOf, List.length_map, hsl]; rfl, ?_⟩, ?_, fun i y hy => ?_⟩
  ·simp only [Builtin.firstCells, List.length_map, hsl, Sem.run_pure, ByteArray.extract_zero_size]
  ·rw [flatten_single]
   refine ⟨by rw [List.length_map, hsl, Array.size_map]; rfl, fun i m hm => ?_, fun i m hm => ?_⟩
   ·rw [List.getElem?_map, Option.map_eq_some_iff] at hm
    obtain ⟨b, _, rfl⟩ := hm
    rfl
   ·rw [List.getElem?_map, Option.map_eq_some_iff] at hm
    obtain ⟨b, hb, rfl⟩ := hm
    rw [ByteArray.toList_eq, Array.getElem?_toList] at hb
    have : (s.data.map fun b => Value.int .u8 (b.toNat : Int)).getD i undef = .int .u8 b.toNat := by
     rw [Array.getD_eq_getD_getElem?, Array.getElem?_map, hb]; rfl
    rw [this]
    exact .int _ _
  ·simp at hy
   obtain ⟨b, _, rfl⟩ := hy
   rfl
 ·cases h
end
end Go.Proofs.YtjljgahfkcdhfaaGreatDoor
end
