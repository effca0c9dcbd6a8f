/- slices.SortFunc, as the logic says it: elements of some cells that say nothing of memory. -/
import Derived.Test.YtielcgplbnlgbaaMl14
import Derived.Shelf.SlSortCmp.WholeK
set_option linter.unusedVariables false
set_option linter.unusedSimpArgs false
namespace Go.Proofs.Ytielcgplbnlgbaa
open Go.Shelf Go.Sort

/-- A world that has grown. -/
theorem Inv.grown {Φ : Phi} {w w' : World} {σ : St} (hi : Inv Φ w σ) (h1 : w'.os = w.os) (h2 : w'.tape = w.tape) (h3 : w'.output = w.output) (h4 : w.drawn ≤ w'.drawn) (h5 : w.heap.size ≤ w'.heap.size) (hb : ∀ k, k < w.heap.size → w'.heap[k]? = w.heap[k]?) :
    Inv Φ w' σ ∧ Step Φ σ w Φ σ w' :=
  ⟨⟨fun l o h => (hi.own l o h).mono (.refl Φ) fun p R hp hR => by
      obtain ⟨p', hp', hlt⟩ := (hi.own l o h).place
      rw [hp] at hp'; cases hp'
      exact hb R (hlt R hR), hi.inj, fun a v h => by
      rw [World.cell?_heap (hb _ (World.block_lt_of_cell? w a (hi.snap a v h)))]
      exact hi.snap a v h, hi.apart, hi.fresh⟩,
   ⟨.refl Φ, h1, h2, h3, h4, h5, fun k hk _ => hb k hk, fun _ _ h => .inl h, fun l o h => .inl ⟨o, h⟩, fun _ h => .inl h⟩⟩

theorem step_grow {Φ Φ' : Phi} {σ' : St} {w w' : World} (h : Step Φ St.none w Φ' σ' w') : ∃ q os', w' = Sort.grow (w.drewN q) os' := by
  refine ⟨w'.drawn - w.drawn, w'.heap.extract w.heap.size w'.heap.size, ?_⟩
  have hd := h.drawn
  have hh : w'.heap = w.heap ++ w'.heap.extract w.heap.size w'.heap.size := by
    refine Array.ext (by simp; have := h.size; omega) fun i h1 h2 => ?_
    by_cases hi : i < w.heap.size
    · have e := h.block i hi (by rintro ⟨l, o, p, q, _⟩; simp [St.none] at q)
      rw [Array.getElem?_eq_getElem h1, Array.getElem?_eq_getElem hi] at e
      rw [Array.getElem_append_left hi]
      exact Option.some.inj e
    · rw [Array.getElem_append_right (by omega)]
      simp
      congr 1
      omega
  have e1 := h.os; have e2 := h.tape; have e3 := h.output
  obtain ⟨heap, tape, drawn, os, output⟩ := w
  obtain ⟨heap', tape', drawn', os', output'⟩ := w'
  simp only at e1 e2 e3 hd hh
  subst e1 e2 e3
  simp only [Sort.grow, World.drewN]
  rw [← hh]
  congr 1
  omega

/-- The cells that say nothing of memory. -/
def PlainC {X : Type} (encM : X → List MV) (encV : X → List Value) : Prop := ∀ x, (encV x).length = (encM x).length ∧ ∀ (j : Nat) m, (encM x)[j]? = some m → m.isCell = true ∧ ∀ Φ v, Rel Φ v m ↔ v = (encV x).getD j undef

theorem inv_empty (w : World) : Inv ⟨fun _ => none, fun _ => none⟩ w St.none where
  own := fun l o h => by simp [St.none] at h
  inj := fun l l' o o' p p' R h => by simp [St.none] at h
  snap := fun a v h => by cases h
  apart := fun l o p R a v h => by simp [St.none] at h
  fresh := ⟨0, fun _ _ => rfl⟩

theorem plain_agg {X : Type} {encM : X → List MV} {encV : X → List Value} (hp : PlainC encM encV) (Φ : Phi) (x : X) : Rel Φ (.agg (encV x).toArray) (.agg (encM x)) := by
  obtain ⟨h1, h2⟩ := hp x
  refine .agg (by simpa using h1) (fun i m hm => (h2 i m hm).1) (fun i m hm => ((h2 i m hm).2 Φ _).2 ?_)
  simp [Array.getD_eq_getD_getElem?, List.getD_eq_getElem?_getD]

theorem div_mod_of {i j k t : Nat} (hj : j < k) (ht : t = i * k + j) : t / k = i ∧ t % k = j := by
  subst ht
  have hk : 0 < k := by omega
  constructor
  · rw [Nat.mul_comm, Nat.mul_add_div hk, Nat.div_eq_of_lt hj, Nat.add_zero]
  · rw [Nat.mul_comm, Nat.mul_add_mod, Nat.mod_eq_of_lt hj]

/-- The cells of a row of the sort's. -/
theorem flat_at {X : Type} [Inhabited X] {encV : X → List Value} {k : Nat} (hk : ∀ x, (encV x).length = k) (d : Array X) {i j : Nat} (hi : i < d.size) (hj : j < k) : (flatK encV k d)[i * k + j]! = (encV (d.getD i default)).getD j undef := by
  have ht : i * k + j < d.size * k := by
    have : (i + 1) * k ≤ d.size * k := Nat.mul_le_mul_right _ hi
    rw [Nat.add_mul, Nat.one_mul] at this
    omega
  obtain ⟨e1, e2⟩ := div_mod_of (i := i) (k := k) hj rfl
  rw [get_flatK _ _ _ _ ht, e1, e2]
  have : d[i]! = d.getD i default := by simp [Array.getD, hi]
  rw [this]
  have hl := hk (d.getD i default)
  rw [getElem!_pos _ _ (by omega), List.getD_eq_getElem?_getD, List.getElem?_eq_getElem (by omega)]
  rfl

theorem sort_any {X : Type} [Inhabited X] {P : Program} {ρ : Ren} (L : SlLaysF0.n6 P ρ) (k : Nat) (hk0 : 0 < k) (aE : ∀ w, (isAgg (ρ.t 24)).run P w = .ok true w) (zE : ∀ w, (Go.sizeOf (ρ.t 24)).run P w = .ok k w)
    (encM : X → List MV) (encV : X → List Value) (hk : ∀ x, (encV x).length = k) (hp : PlainC encM encV) (h1 : ∀ x, ∀ v ∈ encV x, v.oneCell' = true) (cf : X → X → Int) (hO : SWO (ltOf cf)) (g : Nat)
    (hg : ∀ x y, MCalls P g [.agg (encM x), .agg (encM y)] St.none fun r _ => r = .int .i64 (cf x y)) (eg : ∀ args w, (callFunc g args).run P w = .ok (.enter g args) w)
    (hent : Enters P (ρ.f 6)) (l : Nat) (t : TypeId) (xs : List X) (ex : List (List MV)) (hn : 0 < xs.length) (hsz : xs.length < 4611686018427387904) :
    MCalls P (ρ.f 6) [.vec k l 0 xs.length, .fn (.func g) [] []] (St.none.set l (.row t k (xs.map encM ++ ex))) fun r σ' =>
      r = .tup [] ∧ ∃ ys : List X, ys.Perm xs ∧ ys.Pairwise (fun a b => ltOf cf b a = false) ∧ σ' = St.none.set l (.row t k (ys.map encM ++ ex)) := by
  refine ⟨hent, fun Φ w vs hi hr => ?_⟩
  have hkM : ∀ x, (encM x).length = k := fun x => by rw [← (hp x).1]; exact hk x
  obtain ⟨a, cap, p, e0, hpo, hpe, hcap, hncap, hblk⟩ := (hr.2 0 _ rfl).inv_vec
  obtain ⟨first, capv, e1, r1, r2⟩ := (hr.2 1 _ rfl).inv_fn
  have hf0 : first = #[] := by have := r1.1; simp at this; exact this
  have hc0 : capv = #[] := by have := r2.1; simp at this; exact this
  subst hf0 hc0
  have hvs : vs = #[.slice a xs.length cap, .func (.func g) #[] #[]] := by
    have h2 := hr.1
    simp at h2
    refine Array.ext (by simpa using h2) fun i q1 q2 => ?_
    match i, q1, q2 with
    | 0, q1, _ => have := e0; simp [Array.getD, q1] at this; exact this
    | 1, q1, _ => have := e1; simp [Array.getD, q1] at this; exact this
  obtain ⟨p', hp', hpe', hlen, hmax, hx, hmatch⟩ := hi.own l _ (set_hit _ _ _)
  rw [hpo] at hp'
  cases hp'
  rcases hblk with ⟨R, hR, ha⟩ | hc0
  · rw [hR] at hmatch
    obtain ⟨c, fz, hheap, hfz, hfit, hcell⟩ := hmatch
    simp only [Nat.zero_mul, Nat.add_zero] at ha
    subst ha
    have hRlt : R < w.heap.size := by
      obtain ⟨q, _⟩ := Array.getElem?_eq_some_iff.1 hheap; exact q
    have hRp : p.blk = some R := hR
    -- the cells of the elements
    have hxs : ∀ (i : Nat) (x : X), xs[i]? = some x → ∀ j, j < k → c[p.bo + (i * k + j)]? = some ((encV x).getD j undef) := fun i x hx j hj => by
      have h1 : (xs.map encM ++ ex)[i]? = some (encM x) := by
        rw [List.getElem?_append_left (by have := (List.getElem?_eq_some_iff.1 hx).1; simpa using this), List.getElem?_map, hx]; rfl
      have h2 : (encM x)[j]? = some ((encM x)[j]'(by rw [hkM]; exact hj)) := by simp
      obtain ⟨_, v, hv, hrel⟩ := hcell i _ j _ h1 h2
      rw [hv, (((hp x).2 j _ h2).2 Φ v).1 hrel]
    let d : Array X := xs.toArray
    have hds : d.size = xs.length := by simp [d]
    have hdi : ∀ i, i < xs.length → xs[i]? = some (d.getD i default) := fun i hi => by simp [d, Array.getD, hi]
    have hnk : p.bo + xs.length * k ≤ c.size := by
      have : xs.length ≤ p.C := by have := hlen; simp at this; omega
      have := Nat.mul_le_mul_right k this
      omega
    have hH : HoldsK encV k w R p.bo d := by
      intro t ht
      have ht' : t < xs.length * k := by simpa [hds] using ht
      have hi : t / k < xs.length := Nat.div_lt_of_lt_mul (by rw [Nat.mul_comm]; exact ht')
      have hj : t % k < k := Nat.mod_lt _ hk0
      have e : t / k * k + t % k = t := by rw [Nat.mul_comm]; exact Nat.div_add_mod t k
      have h1 := hxs _ _ (hdi _ hi) (t % k) hj
      have h2 := flat_at (encV := encV) hk d (i := t / k) (j := t % k) (by omega) hj
      rw [e] at h1 h2
      refine ⟨?_, ?_⟩
      · rw [show (id : Value → Value) ((flatK encV k d)[t]!) = (flatK encV k d)[t]! from rfl, h2, ← h1]
        simp only [World.cell?, hheap]
        rfl
      · simp only [World.frozen?, hheap]
        rcases hfz with h | h
        · simp; omega
        · simp; omega
    have hcmp : CmpLays P g #[] encV k cf R p.bo d.size w := fun m os dk hs x y => by
      refine ((hg x y).2 _ (sortWorldK encV k w R p.bo m dk os) _ (inv_empty _) (?_ : Rels _ (#[.agg (encV x).toArray, .agg (encV y).toArray] ++ #[]) _)).mono ?_
      · refine ⟨by simp, fun i m hm => ?_⟩
        match i, hm with
        | 0, hm => simp at hm; subst hm; exact plain_agg hp _ x
        | 1, hm => simp at hm; subst hm; exact plain_agg hp _ y
      · rintro e w' ⟨v, mv, σ', Φ', he, hv, hi', hst, rfl⟩
        cases hv
        exact ⟨he, step_grow hst⟩
    have key := AnyQ.slices_SortFunc L k aE zE encV hk h1 cf hO g #[] R p.bo cap d w eg hcmp hH hRlt (by rw [hds]; exact hsz)
    subst hvs
    rw [← hds]
    refine key.mono ?_
    rintro e W' ⟨rfl, d', m, os, hperm, hsort, rfl⟩
    obtain ⟨hsz', _, hpm⟩ := hperm
    have hds' : d'.size = xs.length := by rw [hsz', hds]
    have hpm' : d'.toList.Perm xs := by
      have e1 : d'.extract 0 d.size = d' := by rw [← hsz']; simp
      have e2 : d.extract 0 d.size = d := by simp
      rw [e1, e2] at hpm
      simpa [d] using hpm
    have hll : d'.toList.length = xs.length := by simpa using hds'
    let c' : Array Value := putCells id p.bo (flatK encV k d') c
    have hc's : c'.size = c.size := by simp [c', putCells]
    have hfs : (flatK encV k d').size = xs.length * k := by simp [flatK, hds']
    have hc'in : ∀ i j, i < xs.length → j < k → c'[p.bo + (i * k + j)]? = some ((encV (d'.getD i default)).getD j undef) := fun i j hi hj => by
      have hlt : i * k + j < xs.length * k := by
        have : (i + 1) * k ≤ xs.length * k := Nat.mul_le_mul_right _ hi
        rw [Nat.add_mul, Nat.one_mul] at this
        omega
      have hcs : p.bo + (i * k + j) < c.size := by omega
      have := flat_at (encV := encV) hk d' (i := i) (j := j) (by omega) hj
      rw [← this]
      simp only [c', putCells, Array.getElem?_mapIdx, Array.getElem?_eq_getElem hcs, Option.map_some, hfs]
      rw [if_pos (by omega), Nat.add_sub_cancel_left]
      rfl
    have hc'out : ∀ q, p.bo + xs.length * k ≤ q → c'[q]? = c[q]? := fun q hq => by
      simp only [c', putCells, Array.getElem?_mapIdx, hfs]
      cases hcq : c[q]? with
      | none => rfl
      | some v => simp only [Option.map_some]; rw [if_neg (by omega)]
    have hW1 : (putRowK encV k w R p.bo d').heap[R]? = some (.cells c' t fz) := by
      show (w.heap.modify R _)[R]? = _
      rw [Array.getElem?_modify, if_pos rfl, hheap]
      rfl
    have hWo : ∀ q, q ≠ R → (putRowK encV k w R p.bo d').heap[q]? = w.heap[q]? := fun q hq => by
      show (w.heap.modify R _)[q]? = _
      rw [Array.getElem?_modify, if_neg (Ne.symm hq)]
    have hown : OwnOk Φ (putRowK encV k w R p.bo d') l (.row t k (d'.toList.map encM ++ ex)) := by
      refine ⟨p, hpo, hpe', by simpa [hll] using hlen, hmax, fun i x hx' => ?_, ?_⟩
      · by_cases hi : i < xs.length
        · rw [List.getElem?_append_left (by simpa [hds'] using hi), List.getElem?_map, Option.map_eq_some_iff] at hx'
          obtain ⟨y, _, rfl⟩ := hx'
          exact hkM y
        · refine hx i x ?_
          rw [List.getElem?_append_right (by simp; omega)] at hx' ⊢
          simpa [hds'] using hx'
      · rw [hRp]
        refine ⟨c', fz, hW1, by rw [hc's]; exact hfz, by rw [hc's]; exact hfit, fun i x j m' hx' hm' => ?_⟩
        by_cases hi : i < xs.length
        · rw [List.getElem?_append_left (by simpa [hds'] using hi), List.getElem?_map, Option.map_eq_some_iff] at hx'
          obtain ⟨y, hy, rfl⟩ := hx'
          have hj : j < k := by rw [← hkM y]; exact (List.getElem?_eq_some_iff.1 hm').1
          have hyd : d'.getD i default = y := by
            have : d'[i]? = some y := by simpa using hy
            simp [Array.getD_eq_getD_getElem?, this]
          obtain ⟨q1, q2⟩ := (hp y).2 j m' hm'
          refine ⟨q1, _, hc'in i j hi hj, (q2 Φ _).2 (by rw [hyd])⟩
        · have hx2 : (xs.map encM ++ ex)[i]? = some x := by
            rw [List.getElem?_append_right (by simp; omega)] at hx' ⊢
            simpa [hds'] using hx'
          obtain ⟨q1, v, q2, q3⟩ := hcell i x j m' hx2 hm'
          refine ⟨q1, v, ?_, q3⟩
          rw [hc'out _ (by have := Nat.mul_le_mul_right k (Nat.le_of_not_lt hi); omega)]
          exact q2
    obtain ⟨i1, s1⟩ := hi.turn (w' := putRowK encV k w R p.bo d') l (set_hit _ _ _) (.row t k (d'.toList.map encM ++ ex)) hpo hRp (by simp [putRowK]) hWo rfl rfl rfl (Nat.le_refl _) hown
    rw [set_set] at i1 s1
    obtain ⟨i2, s2⟩ := i1.grown (w' := sortWorldK encV k w R p.bo m d' os) rfl rfl rfl (by show w.drawn ≤ w.drawn + m; omega) (by show _ ≤ ((putRowK encV k w R p.bo d').heap ++ os).size; simp) (fun q hq => by
      show ((putRowK encV k w R p.bo d').heap ++ os)[q]? = _
      rw [Array.getElem?_append_left hq])
    refine ⟨.tuple #[], .tup [], _, Φ, rfl, .tup rfl (fun i m h => by simp at h), i2, s1.trans s2, rfl, d'.toList, hpm', ?_, rfl⟩
    refine List.pairwise_iff_getElem.2 fun i j hi hj hij => ?_
    have := hsort i j (Nat.zero_le _) hij (by rw [← hsz']; simpa using hj)
    rw [getElem!_pos _ _ (by simpa using hj), getElem!_pos _ _ (by simpa using hi)] at this
    simpa using this
  · omega
end Go.Proofs.Ytielcgplbnlgbaa
