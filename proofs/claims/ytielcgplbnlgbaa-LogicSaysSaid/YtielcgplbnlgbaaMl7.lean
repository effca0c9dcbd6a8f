/- Writes, rows that are made, and append. -/
import Derived.Test.YtielcgplbnlgbaaMl6
set_option linter.unusedVariables false
set_option linter.unusedSimpArgs false
namespace Go.Proofs.Ytielcgplbnlgbaa

def wset (w : World) (R : Nat) (o : Obj) : World := { w with heap := w.heap.setIfInBounds R o }

theorem wset_same {w : World} {R : Nat} {o : Obj} (h : R < w.heap.size) : (wset w R o).heap[R]? = some o := by simp [wset, h]
theorem wset_other {w : World} {R k : Nat} {o : Obj} (h : k ≠ R) : (wset w R o).heap[k]? = w.heap[k]? := by simp [wset, Array.getElem?_setIfInBounds, Ne.symm h]
theorem wset_size {w : World} {R : Nat} {o : Obj} : (wset w R o).heap.size = w.heap.size := by simp [wset]
theorem wset_wset {w : World} {R : Nat} {o o' : Obj} : wset (wset w R o) R o' = wset w R o' := by
  simp only [wset, Array.setIfInBounds_setIfInBounds]
theorem wset_self {w : World} {R : Nat} {o : Obj} (h : w.heap[R]? = some o) : wset w R o = w := by
  have : w.heap.setIfInBounds R o = w.heap := by
    apply Array.ext_getElem?
    intro i
    rw [Array.getElem?_setIfInBounds]
    split
    · rename_i hi
      subst hi
      have := (Array.getElem?_eq_some_iff.1 h).1
      simp [this, ← h]
    · rfl
  unfold wset
  rw [this]

theorem setCell_wset {w : World} {R k : Nat} {c : Array Value} {t : TypeId} {fz : Nat × Nat} {v : Value} (h : w.heap[R]? = some (.cells c t fz)) :
    w.setCell ⟨R, k, none⟩ v = wset w R (.cells (c.setIfInBounds k v) t fz) := by
  unfold World.setCell wset
  congr 1
  apply Array.ext_getElem?
  intro i
  rw [Array.getElem?_modify, Array.getElem?_setIfInBounds]
  have hlt := (Array.getElem?_eq_some_iff.1 h).1
  split
  · rename_i hi
    subst hi
    have h2 : w.heap[R] = .cells c t fz := (Array.getElem?_eq_some_iff.1 h).2
    simp [hlt, h2]
  · rfl

/-- Cells that are written are not frozen. -/
def FzOk (c : Array Value) (fz : Nat × Nat) : Prop := fz.2 ≤ fz.1 ∨ c.size ≤ fz.1

section
variable {P : Program} {Φ : Phi}

theorem run_storeCells' {R : Nat} {t : TypeId} {fz : Nat × Nat} {off : Nat} : ∀ (vs : List Value) (i : Nat) (c : Array Value) (w : World), w.heap[R]? = some (.cells c t fz) → FzOk c fz → off + i + vs.length ≤ c.size → (∀ v, v ∈ vs → v.oneCell' = true) →
    (storeCells ⟨R, off, none⟩ vs i).run P w = .ok () (wset w R (.cells (setAll c (off + i) vs) t fz)) := by
  intro vs
  induction vs with
  | nil => intro i c w h _ _ _; simp only [storeCells, setAll, Sem.run_pure]; rw [wset_self h]
  | cons v vs ih =>
    intro i c w h hf hl h1
    simp only [List.length_cons] at hl
    have hlt : R < w.heap.size := (Array.getElem?_eq_some_iff.1 h).1
    have hc : w.cell? ⟨R, off + i, none⟩ = some (c.getD (off + i) undef) := by
      simp only [World.cell?, h, Option.isSome_none, Bool.false_eq_true, if_false]
      simp [Array.getD_eq_getD_getElem?, Array.getElem?_eq_getElem (show off + i < c.size by omega)]
    have hz : w.frozen? ⟨R, off + i, none⟩ = false := by
      simp only [World.frozen?, h]
      rcases hf with hf | hf
      · simp; omega
      · simp; omega
    simp only [storeCells, Sem.run_bind]
    rw [add_none, run_store P w _ v _ (h1 v (by simp)), hc]
    simp only [hz, Bool.false_eq_true, if_false, Result.andThen_ok]
    rw [setCell_wset h, ih (i + 1) (c.setIfInBounds (off + i) v) _ (wset_same hlt) (by simpa [FzOk] using hf) (by simp; omega) (fun x hx => h1 x (by simp [hx])), wset_wset]
    rfl

theorem RelC.oneCells {cs : Array Value} {ms : List MV} (h : RelC Φ cs ms) : ∀ v, v ∈ cs.toList → v.oneCell' = true := by
  intro v hv
  obtain ⟨i, hi⟩ := List.mem_iff_getElem?.1 hv
  have hlt : i < ms.length := by have := (List.getElem?_eq_some_iff.1 hi).1; have := h.1; simp at *; omega
  have hm : ms[i]? = some (ms.getD i .junk) := getD_of hlt
  have := (h.2.2 i _ hm).oneCell (h.2.1 i _ hm)
  rw [Array.getElem?_toList] at hi
  simpa [Array.getD_eq_getD_getElem?, hi] using this

theorem flatten_get {e : Nat} : ∀ (xs : List (List MV)) (i j : Nat) (x : List MV) (m : MV), (∀ (i : Nat) (x : List MV), xs[i]? = some x → x.length = e) → xs[i]? = some x → x[j]? = some m → xs.flatten[i * e + j]? = some m := by
  intro xs
  induction xs with
  | nil => intro i j x m _ hx; simp at hx
  | cons y ys ih =>
    intro i j x m hall hx hm
    have hy : y.length = e := hall 0 y rfl
    cases i with
    | zero =>
      simp at hx
      subst hx
      have := (List.getElem?_eq_some_iff.1 hm).1
      rw [List.flatten_cons, List.getElem?_append_left (by omega)]
      simpa using hm
    | succ i =>
      have := ih i j x m (fun k z hz => hall (k + 1) z (by simpa using hz)) (by simpa using hx) hm
      rw [List.flatten_cons, List.getElem?_append_right (by rw [hy, Nat.add_mul]; omega)]
      rw [← this]
      congr 1
      rw [hy, Nat.add_mul]
      omega

theorem flatten_length {e : Nat} : ∀ (xs : List (List MV)), (∀ (i : Nat) (x : List MV), xs[i]? = some x → x.length = e) → xs.flatten.length = xs.length * e := by
  intro xs
  induction xs with
  | nil => intro _; simp
  | cons y ys ih =>
    intro h
    rw [List.flatten_cons, List.length_append, ih (fun k z hz => h (k + 1) z (by simpa using hz)), h 0 y rfl, List.length_cons, Nat.add_mul]
    omega

/-- A row in a block. -/
theorem own_row {w : World} {l : Nat} {t : TypeId} {e : Nat} {xs : List (List MV)} {p : Place} {R : Nat} {c : Array Value} {fz : Nat × Nat} (hp : Φ.obj l = some p) (hR : p.blk = some R) (he : p.e = e) (hC : xs.length ≤ p.C) (hm : p.C ≤ maxLen)
    (hx : ∀ (i : Nat) (x : List MV), xs[i]? = some x → x.length = e) (hh : w.heap[R]? = some (.cells c t fz)) (hf : FzOk c fz) (hsz : p.bo + p.C * e ≤ c.size)
    (hc : ∀ (i : Nat) m, xs.flatten[i]? = some m → m.isCell = true ∧ ∃ v, c[p.bo + i]? = some v ∧ Rel Φ v m) : OwnOk Φ w l (.row t e xs) := by
  refine ⟨p, hp, he, hC, hm, hx, ?_⟩
  rw [hR]
  exact ⟨c, fz, hh, hf, hsz, fun i x j m a b => hc _ m (flatten_get xs i j x m hx a b)⟩

theorem own_virt {w : World} {l : Nat} {t : TypeId} {e : Nat} {p : Place} (hp : Φ.obj l = some p) (hR : p.blk = none) (he : p.e = e) (hC : p.C = 0) : OwnOk Φ w l (.row t e []) := by
  refine ⟨p, hp, he, Nat.zero_le _, by simp [hC, maxLen], by simp, ?_⟩
  rw [hR]
  exact hC

/-- Cells of the model's memory that hold what is known. -/
theorem run_loadCells' {w : World} {b off : Nat} {ms : List MV} (hc : ∀ (j : Nat) m, ms[j]? = some m → m.isCell = true ∧ ∃ v, w.cell? ⟨b, off + j, none⟩ = some v ∧ Rel Φ v m) :
    ∃ arr, (∀ w' : World, w'.heap = w.heap → (loadCells ⟨b, off, none⟩ ms.length).run P w' = .ok arr w') ∧ RelC Φ arr ms := by
  have hch : ∀ j, j < ms.length → ∃ v, w.cell? ⟨b, off + j, none⟩ = some v ∧ Rel Φ v (ms.getD j .junk) := fun j hj => (hc j _ (getD_of hj)).2
  let g : Nat → Value := fun j => if hj : j < ms.length then (hch j hj).choose else undef
  have hg : ∀ j, j < ms.length → w.cell? ⟨b, off + j, none⟩ = some (g j) ∧ Rel Φ (g j) (ms.getD j .junk) := fun j hj => by
    have := (hch j hj).choose_spec
    simp only [g, dif_pos hj]
    exact this
  refine ⟨((List.range ms.length).map g).toArray, fun w' hw' => ?_, by simp, fun i m hm => (hc i m hm).1, fun i m hm => ?_⟩
  · exact run_loadCells w' ⟨b, off, none⟩ ms.length g (fun j hj => by
      rw [add_none]
      have := (hg j hj).1
      simpa [World.cell?, hw'] using this)
  · have hlt := (List.getElem?_eq_some_iff.1 hm).1
    have e : ms.getD i .junk = m := by simp [List.getD, hm]
    have := (hg i hlt).2
    rw [e] at this
    simpa [Array.getD_eq_getD_getElem?, hlt] using this

theorem flatten_single {α β : Type} (g : α → β) : ∀ l : List α, (l.map fun b => [g b]).flatten = l.map g
  | [] => rfl
  | a :: l => by simp [flatten_single g l]

/-- What a source of append or copy holds. -/
def msrc (σ : St) (e : Nat) : MV → Option (List (List MV))
  | .nils => some []
  | .lst e' xs _ => if e' = e then some xs else none
  | .vec e' l lo n => if e' = e then (match σ l with
    | some (.row _ _ ys) => if lo + n ≤ ys.length then some ((ys.drop lo).take n) else none
    | _ => none) else none
  | .str s => if e = 1 then some (s.toList.map fun b => [.int .u8 (b.toNat : Int)]) else none
  | _ => none

theorem OwnOk.e_eq {w : World} {l : Nat} {t : TypeId} {e : Nat} {xs : List (List MV)} (h : OwnOk Φ w l (.row t e xs)) : ∀ (i : Nat) (x : List MV), xs[i]? = some x → x.length = e := h.choose_spec.2.2.2.2.1

theorem cells_flatten {w : World} {b off e : Nat} {xs : List (List MV)} (hx : ∀ (i : Nat) (x : List MV), xs[i]? = some x → x.length = e)
    (h : ∀ (i : Nat) (x : List MV) (j : Nat) (m : MV), xs[i]? = some x → x[j]? = some m → m.isCell = true ∧ ∃ v, w.cell? ⟨b, off + (i * e + j), none⟩ = some v ∧ Rel Φ v m) :
    ∀ (k : Nat) m, xs.flatten[k]? = some m → m.isCell = true ∧ ∃ v, w.cell? ⟨b, off + k, none⟩ = some v ∧ Rel Φ v m := by
  induction xs generalizing off with
  | nil => intro k m hm; simp at hm
  | cons y ys ih =>
    intro k m hm
    have hy : y.length = e := hx 0 y rfl
    rw [List.flatten_cons] at hm
    by_cases hk : k < y.length
    · rw [List.getElem?_append_left hk] at hm
      have := h 0 y k m rfl hm
      simpa using this
    · rw [List.getElem?_append_right (by omega)] at hm
      have := ih (off := off + e) (fun i x q => hx (i + 1) x (by simpa using q)) (fun i x j m q r => by
        have := h (i + 1) x j m (by simpa using q) r
        rw [Nat.add_mul, Nat.one_mul] at this
        rw [show off + e + (i * e + j) = off + (i * e + e + j) from by omega]
        exact this) _ m hm
      rw [hy] at this
      rw [show off + e + (k - e) = off + k from by omega] at this
      exact this

theorem msrc_sound {w : World} {σ : St} {e : Nat} {x : MV} {ys : List (List MV)} (h : msrc σ e x = some ys) (hi : Inv Φ w σ) {v : Value} (r : Rel Φ v x) :
    ∃ arr, (∀ w' : World, w'.heap = w.heap → (Builtin.lenOf v).run P w' = .ok ys.length w' ∧ (Builtin.firstCells e ys.length v).run P w' = .ok arr w') ∧ RelC Φ arr ys.flatten ∧ ∀ (i : Nat) (y : List MV), ys[i]? = some y → y.length = e := by
  unfold msrc at h
  split at h
  · cases h; cases r.inv_nils
    exact ⟨#[], fun w' _ => ⟨rfl, rfl⟩, ⟨rfl, by simp, by simp⟩, by simp⟩
  · rename_i e' xs t
    split at h <;> simp only [Option.some.injEq, reduceCtorEq] at h
    rename_i he
    subst he; subst h
    obtain ⟨a, cap, rfl, _, _, _, ha, hat⟩ := r.inv_lst
    rcases Nat.eq_zero_or_pos xs.length with h0 | h0
    · have hx := List.eq_nil_of_length_eq_zero h0
      subst hx
      refine ⟨#[], fun w' _ => ⟨rfl, ?_⟩, ⟨rfl, by simp, by simp⟩, by simp⟩
      cases a with
      | none => rfl
      | some a => simp [Builtin.firstCells, loadCells, loadCellsFrom]
    · obtain ⟨b, off, rfl, hx, vs, hv⟩ := hat h0
      obtain ⟨arr, h1, h2⟩ := run_loadCells' (P := P) (Φ := Φ) (w := w) (b := b) (off := off) (ms := xs.flatten) (cells_flatten hx (fun i x j m a b => ⟨(hv i x j m a b).1, _, hi.snap _ _ (hv i x j m a b).2.1, (hv i x j m a b).2.2⟩))
      refine ⟨arr, fun w' hw => ⟨rfl, ?_⟩, h2, hx⟩
      have e3 := flatten_length _ hx
      show (loadCells _ (xs.length * e')).run P w' = _
      rw [← e3]
      exact h1 w' hw
  · rename_i e' l lo n
    split at h
    rotate_left
    · cases h
    rename_i he
    subst he
    split at h
    · rename_i t e2 zs hs
      split at h <;> simp only [Option.some.injEq, reduceCtorEq] at h
      rename_i hlen
      subst h
      have hown := hi.own l _ hs
      obtain ⟨a, cap, p, rfl, hp, rfl, hcap, hn, hR⟩ := r.inv_vec
      have hl : ((zs.drop lo).take n).length = n := by simp; omega
      have hxx : ∀ (i : Nat) (y : List MV), ((zs.drop lo).take n)[i]? = some y → zs[lo + i]? = some y := fun i y q => by
        rw [List.getElem?_take] at q
        split at q
        · simpa using q
        · cases q
      have hpe : p.e = e2 := by
        obtain ⟨p', hp', he', _⟩ := hown
        rw [hp] at hp'; cases hp'
        exact he'
      have hx : ∀ (i : Nat) (y : List MV), ((zs.drop lo).take n)[i]? = some y → y.length = p.e := fun i y q => by rw [hpe]; exact hown.e_eq (lo + i) y (hxx i y q)
      rcases Nat.eq_zero_or_pos n with h0 | h0
      · subst h0
        refine ⟨#[], fun w' _ => ⟨by simp [Builtin.lenOf], ?_⟩, ⟨by simp, by simp, by simp⟩, by simp⟩
        cases a with
        | none => simp [Builtin.firstCells]
        | some a => simp [Builtin.firstCells, loadCells, loadCellsFrom]
      · rcases hR with ⟨R, hb, rfl⟩ | hR
        · obtain ⟨arr, h1, h2⟩ := run_loadCells' (P := P) (Φ := Φ) (w := w) (b := R) (off := p.bo + lo * p.e) (ms := ((zs.drop lo).take n).flatten) (cells_flatten hx (fun i x j m q1 q2 => by
            obtain ⟨p', hp', he', _, R', hR', hc⟩ := hown.elem (hxx i x q1)
            rw [hp] at hp'; cases hp'
            rw [hb] at hR'; cases hR'
            have := hc j m q2
            rw [← hpe, show p.bo + (lo + i) * p.e + j = p.bo + lo * p.e + (i * p.e + j) from by rw [Nat.add_mul]; omega] at this
            exact this))
          refine ⟨arr, fun w' hw => ⟨by simp only [Builtin.lenOf, hl]; rfl, ?_⟩, h2, hx⟩
          have e3 := flatten_length _ hx
          show (loadCells _ (((zs.drop lo).take n).length * p.e)).run P w' = _
          rw [← e3]
          exact h1 w' hw
        · omega
    · cases h
  · rename_i s
    split at h <;> simp only [Option.some.injEq, reduceCtorEq] at h
    rename_i he
    subst he; subst h
    cases r.inv_str
    have hsl : s.toList.length = s.size := by rw [ByteArray.toList_eq, Array.length_toList]; rfl
    refine ⟨s.data.map fun b => .int .u8 b.toNat, fun w' _ => ⟨by simp only [Builtin.lenOf, List.length_map, hsl]; rfl, ?_⟩, ?_, fun i y hy => ?_⟩
    · simp only [Builtin.firstCells, List.length_map, hsl, Sem.run_pure, ByteArray.extract_zero_size]
    · rw [flatten_single]
      refine ⟨by rw [List.length_map, hsl, Array.size_map]; rfl, fun i m hm => ?_, fun i m hm => ?_⟩
      · rw [List.getElem?_map, Option.map_eq_some_iff] at hm
        obtain ⟨b, _, rfl⟩ := hm
        rfl
      · rw [List.getElem?_map, Option.map_eq_some_iff] at hm
        obtain ⟨b, hb, rfl⟩ := hm
        rw [ByteArray.toList_eq, Array.getElem?_toList] at hb
        have : (s.data.map fun b => Value.int .u8 (b.toNat : Int)).getD i undef = .int .u8 b.toNat := by
          rw [Array.getD_eq_getD_getElem?, Array.getElem?_map, hb]; rfl
        rw [this]
        exact .int _ _
    · simp at hy
      obtain ⟨b, _, rfl⟩ := hy
      rfl
  · cases h

end
end Go.Proofs.Ytielcgplbnlgbaa
