/- Every operation as the logic computes it; regions whose order is fixed; functions. -/
import Derived.Test.YtfbodefnblpflaaGreatDoorMaa
import Derived.RangeFuncLeaves
import Derived.RangeFuncRecord
set_option linter.unusedVariables false
set_option linter.unusedSimpArgs false
namespace Go.Proofs.YtfbodefnblpflaaGreatDoor
/-- So many elements of so many bytes are no more than a machine has. -/
def Fits (n b : Nat) : Prop := n ≤ 140737488355328 ∧ n * b ≤ 140737488355328
def mpure (σ : St) (k : MV → St → Prop) : PV → Prop
  | some (C, v) => C ∧ k v σ
  | none => False
def mload (P : Program) (t : TypeId) (x : MV) (σ : St) (k : MV → St → Prop) : Prop :=
  match x with
  | .ptr l i o => match σ l with
    | some (.row _ _ xs) => ((td P t).ok = true ∧ i < xs.length ∧ o + (td P t).size ≤ (xs.getD i []).length ∧ 0 < (td P t).size) ∧ k (mpart (td P t) (xs.getD i []) o) σ
    | _ => False
  | .cptr cs => ((td P t).ok = true ∧ (td P t).size ≤ cs.length ∧ 0 < (td P t).size) ∧ k (mpart (td P t) cs 0) σ
  | _ => False
def mstore (P : Program) (t : TypeId) (x y : MV) (σ : St) (k : MV → St → Prop) : Prop :=
  match x with
  | .ptr l i o => match σ l with
    | some (.row tt e xs) => ((td P t).ok = true ∧ i < xs.length ∧ y.cells.all MV.isCell = true ∧ y.cells.length = (td P t).size ∧ o + y.cells.length ≤ (xs.getD i []).length) ∧ k .junk (σ.set l (.row tt e (xs.set i (laid (xs.getD i []) o y.cells))))
    | _ => False
  | _ => False
def mappend (P : Program) (t xt : TypeId) (s x : MV) (σ : St) (k : MV → St → Prop) : Prop :=
  match (td P t).k with
  | .slice el => match msrc σ (td P el).size x with
    | some ys => match s with
      | .nils => ((td P xt).k.isSrc = true ∧ (td P el).zok = true ∧ Fits ys.length (td P el).bytes) ∧ ∀ l, σ l = none → k (.vec (td P el).size l 0 ys.length) (σ.set l (.row el (td P el).size ys))
      | .lst e xs true => ((td P xt).k.isSrc = true ∧ (td P el).zok = true ∧ e = (td P el).size ∧ (xs = [] ∨ 0 < ys.length) ∧ Fits (xs.length + ys.length) (td P el).bytes) ∧
          ∀ l, σ l = none → k (.vec (td P el).size l 0 (xs.length + ys.length)) (σ.set l (.row el (td P el).size (xs ++ ys)))
      | .vec e l lo n => match σ l with
        | some (.row tt e' xs) => ((td P xt).k.isSrc = true ∧ (td P el).zok = true ∧ e = (td P el).size ∧ e' = (td P el).size ∧ tt = el ∧ lo + n ≤ xs.length ∧ Fits (n + ys.length) (td P el).bytes) ∧
            ∀ l', σ l' = none → k (.vec (td P el).size l' 0 (n + ys.length)) ((σ.del l).set l' (.row el (td P el).size (appRow xs lo n ys)))
        | _ => False
      | _ => False
    | none => False
  | _ => False
def mbuildSlice (P : Program) (f : FR) (t : TypeId) (len : Nat) (parts : Array (Nat × Operand)) (σ : St) (k : MV → St → Prop) : Prop :=
  match (td P t).k with
  | .slice el => ((td P el).zok = true ∧ parts.toList.map (·.1) = List.range len ∧ (parts.toList.all fun p => (mval f p.2).cells.all MV.isCell && (mval f p.2).cells.length == (td P el).size) = true ∧ len * (td P el).size ≤ 16777216 ∧ len ≤ 16777216) ∧
      ∀ l, σ l = none → k (.vec (td P el).size l 0 len) (σ.set l (.row el (td P el).size (parts.toList.map fun p => (mval f p.2).cells)))
  | _ => False
def mmakeSlice (P : Program) (t : TypeId) (x y : MV) (σ : St) (k : MV → St → Prop) : Prop :=
  match (td P t).k, x, y with
  | .slice el, .int .i64 n, .int .i64 c => ((td P el).zok = true ∧ 0 ≤ n ∧ n ≤ c ∧ Fits c.toNat (td P el).bytes) ∧ ∀ l, σ l = none → k (.vec (td P el).size l 0 n.toNat) (σ.set l (.row el (td P el).size (List.replicate n.toNat (td P el).zero)))
  | _, _, _ => False
def mconvert (P : Program) (s d : TypeId) (x : MV) (σ : St) (k : MV → St → Prop) : Prop :=
  match (td P s).k, (td P d).k, x with
  | .str, .slice el, .str b => ((td P el).k = .int .u8 ∧ b.size ≤ 140737488355328) ∧ ∀ l, σ l = none → k (.vec 1 l 0 b.size) (σ.set l (.row el 1 (b.toList.map fun c => [.int .u8 (c.toNat : Int)])))
  | .slice el, .str, .str _ => False
  | .slice el, .str, x => match msrc σ 1 x with
    | some ys => ((td P el).k = .int .u8 ∧ ys.all isByte = true) ∧ k (.str (bytesOf ys)) σ
    | none => False
  | _, _, x => mpure σ k (mconv P s d x)
def mbcall (P : Program) (f : FR) (b : Builtin) (args : List Operand) (ts : List TypeId) (σ : St) (k : MV → St → Prop) : Prop :=
  match b with
  | .append => match args, ts with
    | [s, x], [t, xt] => mappend P t xt (mval f s) (mval f x) σ k
    | _, _ => False
  | b => ts.length = args.length ∧ mpure σ k (mbuiltin P b ts.toArray (args.map (mval f)))
def mcall (P : Program) (f : FR) (c : Call) (σ : St) (k : MV → St → Prop) : Prop :=
  match c.callee with
  | .builtin b => mbcall P f b c.args.toList c.argTypes.toList σ k
  | .value x => match mval f x with
    | .fn (.func g) ms ns => MCalls P g (ms ++ c.args.toList.map (mval f) ++ ns) σ k
    | _ => False
  | .invoke _ _ => False
def mop (P : Program) (f : FR) (σ : St) (k : MV → St → Prop) : Op → Prop
  | .alloc t => (td P t).zok = true ∧ ∀ l, σ l = none → k (.ptr l 0 0) (σ.set l (.row t (td P t).size [(td P t).zero]))
  | .box t x => (mval f x).cells.all MV.isCell = true ∧ ∀ l, σ l = none → k (.ptr l 0 0) (σ.set l (.row t (mval f x).cells.length [(mval f x).cells]))
  | .load t x => mload P t (mval f x) σ k
  | .store t x y => mstore P t (mval f x) (mval f y) σ k
  | .buildSlice t len parts => mbuildSlice P f t len parts σ k
  | .makeSlice t x y => mmakeSlice P t (mval f x) (mval f y) σ k
  | .convert s d x => mconvert P s d (mval f x) σ k
  | .call c => mcall P f c σ k
  | op => mpure σ k (qop P f op)
theorem mpure_sound {P : Program} {o : Oper} {f : FR} {σ : St} {k : MV → St → Prop} (h : mpure σ k (qop P f o.op)) (hot : opTypes o.op = true) : sop P o f σ k := by
  cases hq : qop P f o.op with
  | none => rw [hq] at h; exact h.elim
  | some q => obtain ⟨C, v⟩ := q; rw [hq] at h; exact sop_pure hq hot h.1 h.2
theorem le_maxLen {n : Nat} (h : n ≤ 140737488355328) : n ≤ maxLen := Nat.le_trans h (by unfold maxLen; omega)
theorem all_mem {l : List MV} (h : l.all MV.isCell = true) : ∀ c, c ∈ l → c.isCell = true := by simpa using h
theorem mload_sound {P : Program} {o : Oper} {f : FR} {σ : St} {k : MV → St → Prop} {t : TypeId} {x : Operand} (ho : o.op = .load t x) (h : mload P t (mval f x) σ k) : sop P o f σ k := by
  unfold mload at h
  split at h
  · rename_i l i of hx
    split at h
    · rename_i tt e xs hs
      exact sop_load ho hx hs h.1.1 h.1.2.1 h.1.2.2.1 h.1.2.2.2 h.2
    · exact h.elim
  · rename_i cs hx
    exact sop_cload ho hx h.1.1 h.1.2.1 h.1.2.2 h.2
  · exact h.elim
theorem mop_sound {P : Program} {o : Oper} {f : FR} {σ : St} {k : MV → St → Prop} (h : mop P f σ k o.op) : sop P o f σ k := by
  cases ho : o.op <;> rw [ho] at h <;> simp only [mop] at h
  case alloc t => exact sop_alloc ho h.1 h.2
  case box t x => exact sop_box ho (all_mem h.1) h.2
  case load t x => exact mload_sound ho h
  case store t x y =>
    unfold mstore at h
    split at h
    · rename_i l i of hx
      split at h
      · rename_i tt e xs hs
        obtain ⟨⟨h1, h2, h3, h4, h5⟩, h6⟩ := h
        exact sop_store ho hx hs h1 h2 (all_mem h3) h4 h5 h6
      · exact h.elim
    · exact h.elim
  case buildSlice t len parts =>
    unfold mbuildSlice at h
    split at h
    · rename_i el hk
      obtain ⟨⟨h1, h2, h3, h4, h5⟩, h6⟩ := h
      refine sop_buildSlice ho hk h1 h2 (fun p hp => ?_) h4 (le_maxLen (by omega)) h6
      have := List.all_eq_true.1 h3 p hp
      simp only [Bool.and_eq_true, beq_iff_eq] at this
      exact ⟨all_mem this.1, this.2⟩
    · exact h.elim
  case makeSlice t x y =>
    unfold mmakeSlice at h
    split at h
    · rename_i el n c hk hx hy
      obtain ⟨⟨h1, h2, h3, h4⟩, h6⟩ := h
      obtain ⟨h7, h8⟩ := h4
      refine sop_makeSlice ho hk h1 hx hy h2 h3 (by omega) ?_ h6
      have : c = (c.toNat : Int) := by omega
      rw [this, Int.mul_comm, ← Int.natCast_mul]
      exact Int.ofNat_le.2 h8
    · exact h.elim
  case convert s d x =>
    unfold mconvert at h
    split at h
    · rename_i el b hs hd hx
      exact sop_ofStr ho hs hd h.1.1 hx (le_maxLen h.1.2) h.2
    · exact h.elim
    · rename_i el hs hd hne
      split at h
      · rename_i ys hy
        exact sop_toStr ho hs h.1.1 hd hy (fun b hb => hne b hb) h.1.2 h.2
      · exact h.elim
    · refine mpure_sound ?_ (by rw [ho]; rfl)
      rw [ho]
      exact h
  case call c =>
    obtain ⟨callee, args, ts⟩ := c
    unfold mcall at h
    cases callee with
    | builtin b =>
      simp only [mbcall] at h
      split at h
      · split at h
        · rename_i s x t xt ha hts
          have ha' : args = #[s, x] := by rw [← Array.toArray_toList (xs := args), ha]
          have hts' : ts = #[t, xt] := by rw [← Array.toArray_toList (xs := ts), hts]
          subst ha'; subst hts'
          unfold mappend at h
          split at h
          · rename_i el hk
            split at h
            · rename_i ys hy
              split at h
              · rename_i hs
                obtain ⟨⟨h1, h2, h3⟩, h4⟩ := h
                have := sop_append_new (P := P) (f := f) (σ := σ) (k := k) ho hk h1 h2 (xs := []) (ys := ys) (.inl ⟨hs, rfl⟩) hy (.inl rfl) (le_maxLen (by simpa using h3.1)) (by simpa using h3.2) (by simpa using h4)
                exact this
              · rename_i e xs hs
                obtain ⟨⟨h1, h2, rfl, h3, h4⟩, h5⟩ := h
                exact sop_append_new (P := P) (f := f) (σ := σ) (k := k) ho hk h1 h2 (.inr hs) hy h3 (le_maxLen h4.1) h4.2 h5
              · rename_i e l lo n hs
                split at h
                · rename_i tt e' xs hsl
                  obtain ⟨⟨h1, h2, rfl, rfl, h3, h4, h5⟩, h6⟩ := h
                  exact sop_append_vec (P := P) (f := f) (σ := σ) (k := k) ho hk h1 h2 hs hsl h3 h4 hy (le_maxLen h5.1) h5.2 h6
                · exact h.elim
              · exact h.elim
            · exact h.elim
          · exact h.elim
        · exact h.elim
      · rename_i b' hne
        refine mpure_sound (P := P) (f := f) ?_ (by rw [ho]; simp only [opTypes, beq_iff_eq]; simpa using h.1)
        rw [ho]
        simpa [qop] using h.2
    | value x =>
      simp only at h
      split at h
      · rename_i g ms ns hx
        exact sop_call ho hx h
      · exact h.elim
    | invoke r m => exact h.elim
  all_goals first
    | exact mpure_sound (by rw [ho]; exact h) (by rw [ho]; rfl)
    | exact h.elim
def mput (f : FR) (dst : Option Tmp) (v : MV) : FR :=
  match dst with
  | some d => if d < f.n then ⟨f.n, (d, v) :: f.l, f.d⟩ else f
  | none => f
theorem rels_put {Φ : Phi} {a : Act} {f : FR} (hr : FRel Φ a.tmps f) (dst : Option Tmp) {v : Value} {m : MV} (h : Rel Φ v m) : FRel Φ (a.put dst v).tmps (mput f dst m) := by
  cases dst with
  | none => exact hr
  | some d =>
    have e1 := hr.1
    simp only [mput]
    split
    · rename_i hd
      refine ⟨by simp [Act.put, e1], fun t => ?_⟩
      simp only [Act.put, Array.getD_eq_getD_getElem?, Array.getElem?_setIfInBounds, FR.get, lget]
      by_cases ht : t = d
      · subst ht
        rw [if_pos rfl, if_pos rfl, if_pos (show t < a.tmps.size by rw [e1]; exact hd)]
        exact h
      · rw [if_neg (Ne.symm ht), if_neg ht]
        have := hr.2 t
        rwa [Array.getD_eq_getD_getElem?] at this
    · rename_i hd
      refine ⟨by simp [Act.put, e1], fun t => ?_⟩
      have hd' : ¬ d < a.tmps.size := by rw [e1]; exact hd
      have : (a.put (some d) v).tmps = a.tmps := by simp only [Act.put, Array.setIfInBounds, dif_neg hd']
      rw [this]
      exact hr.2 t
theorem put_defers' {a : Act} (dst : Option Tmp) (v : Value) : (a.put dst v).defers = a.defers := by cases dst <;> rfl
theorem rel_undef {Φ : Phi} : Rel Φ undef (.tup []) := .tup rfl (fun i m h => by simp at h)
/-- What a guard asks. -/
def mguard (ops : Array Oper) (f : FR) (o : Oper) (yes no : Prop) : Prop :=
  match o.guard with
  | none => yes
  | some (j, want) => match (ops[j]?).bind (·.dst) with
    | some t => match f.get t with
      | .bool b => (b = want → yes) ∧ (b = (!want) → no)
      | .tup [] => no
      | _ => False
    | none => False
theorem mguard_sound {Φ : Phi} {ops : Array Oper} {f : FR} {o : Oper} {yes no : Prop} (h : mguard ops f o yes no) {a : Act} (hr : FRel Φ a.tmps f) :
    (Region.wanted o (yielded ops a.tmps) = true ∧ yes) ∨ (Region.wanted o (yielded ops a.tmps) = false ∧ no) := by
  unfold mguard at h
  unfold Region.wanted
  split at h
  · rename_i hg; rw [hg]; exact .inl ⟨rfl, h⟩
  · rename_i j want hg
    rw [hg]
    simp only
    split at h
    · rename_i t ht
      split at h
      · rename_i b hb
        have hy : yielded ops a.tmps j = some b := by
          unfold yielded
          rw [ht]
          have hrel := hr.2 t
          rw [hb] at hrel
          have hrel := hrel.inv_bool
          have hlt2 : t < a.tmps.size := by
            rcases Nat.lt_or_ge t a.tmps.size with q | q
            · exact q
            · simp [Array.getD_eq_getD_getElem?, Array.getElem?_eq_none q, undef] at hrel
          rw [Array.getD_eq_getD_getElem?, Array.getElem?_eq_getElem hlt2] at hrel
          simp only [Option.getD_some] at hrel
          simp [Array.getElem?_eq_getElem hlt2, hrel]
        rw [hy]
        by_cases hw : b = want
        · left; subst hw; exact ⟨by simp, h.1 rfl⟩
        · right
          have hb' : b = !want := by cases b <;> cases want <;> simp at hw ⊢
          exact ⟨by simp [hw], h.2 hb'⟩
      · rename_i hb
        right
        have hrel := hr.2 t
        rw [hb] at hrel
        obtain ⟨cs, e, hs, _⟩ := hrel.inv_tup
        have hy : yielded ops a.tmps j = none := by
          unfold yielded
          rw [ht]
          rcases Nat.lt_or_ge t a.tmps.size with q | q
          · rw [Array.getD_eq_getD_getElem?, Array.getElem?_eq_getElem q] at e
            simp only [Option.getD_some] at e
            simp [Array.getElem?_eq_getElem q, e]
          · simp [Array.getElem?_eq_none q]
        rw [hy]
        exact ⟨by simp, h⟩
      · exact h.elim
    · exact h.elim
/-- A call for the function's end. -/
def mdefer (f : FR) (c : Call) (K : FR → Prop) : Prop := match c.callee with
  | .value x => match mval f x with
    | .fn (.func g) ms ns => K ⟨f.n, f.l, (g, ms ++ c.args.toList.map (mval f) ++ ns) :: f.d⟩
    | _ => False
  | _ => False
/-- A slice of a row, perhaps beyond its length. -/
def mvslice (P : Program) (t : TypeId) (x lo hi : MV) (o : Option MObj) (σ : St) (k : MV → St → Prop) : Prop :=
  match x, lo, hi, o, (td P t).k with
  | .vec e l l0 _, .int _ a, .int _ h, some (.row _ e' xs), .slice el => ((td P el).ok = true ∧ e = (td P el).size ∧ e' = (td P el).size ∧ 0 ≤ a ∧ a ≤ h ∧ l0 + h.toNat ≤ xs.length) ∧ k (.vec e l (l0 + a.toNat) (h.toNat - a.toNat)) σ
  | _, _, _, _, _ => False
def locOf (σ : St) : MV → Option MObj
  | .vec _ l _ _ => σ l
  | _ => none
/-- Whether a slice goes beyond its length. -/
def beyond : MV → MV → Prop
  | .vec _ _ _ n, .int _ h => (n : Int) < h
  | _, _ => False
instance (x y : MV) : Decidable (beyond x y) := by unfold beyond; split <;> infer_instance
def mclear (P : Program) (t : TypeId) (x : MV) (o : Option MObj) (σ : St) (k : MV → St → Prop) : Prop :=
  match x, o, (td P t).k with
  | .vec e l l0 n, some (.row tt e' xs), .slice el => ((td P el).zok = true ∧ 0 < (td P el).size ∧ e = (td P el).size ∧ e' = (td P el).size ∧ l0 + n ≤ xs.length) ∧ k .junk (σ.set l (.row tt e' (rowLaid xs l0 (List.replicate n (td P el).zero))))
  | _, _, _ => False
/-- append of elements that are made. -/
def mzapp (P : Program) (t : TypeId) (s x : MV) (σ : St) (k : MV → St → Prop) : Prop :=
  match (td P t).k, s, x with
  | .slice el, .nils, .int .i64 n => ((td P el).zok = true ∧ 0 < (td P el).size ∧ 0 < n ∧ Fits n.toNat (td P el).bytes) ∧ ∀ l, σ l = none → k (.vec (td P el).size l 0 n.toNat) (σ.set l (.row el (td P el).size (List.replicate n.toNat (td P el).zero)))
  | _, _, _ => False
/-- Maps. -/
def mapOf (σ : St) : MV → Option MObj
  | .mapv l => σ l
  | _ => none
def minsert (P : Program) (t : TypeId) (m x y : MV) (o : Option MObj) (σ : St) (k : MV → St → Prop) : Prop :=
  match (td P t).k, m, x, o with
  | .map kt _, .mapv l, .int kd n, some (.mp es) => ((td P kt).k = .int kd ∧ (es.all fun p => isK kd p.1) = true) ∧ k .junk (σ.set l (.mp (iput kd n y es)))
  | _, _, _, _ => False
def mlookup (P : Program) (t : TypeId) (m x : MV) (ok : Bool) (o : Option MObj) (σ : St) (k : MV → St → Prop) : Prop :=
  match (td P t).k, m, x, o with
  | .map kt et, .mapv _, .int kd n, some (.mp es) => ((td P kt).k = .int kd ∧ (td P et).zok = true ∧ (es.all fun p => isK kd p.1) = true) ∧ k (if ok = true then .tup [(iget n es).getD (zval (td P et)), .bool (iget n es).isSome] else (iget n es).getD (zval (td P et))) σ
  | _, _, _, _ => False
/-- One of two. -/
def mone (b : Bool) (A B : Prop) : Prop := if b = true then A else B
def mstep (P : Program) (f : FR) (σ : St) (dst : Option Tmp) (K : FR → St → Prop) : Op → Prop
  | .defer c => mdefer f c fun f' => K (mput f' dst .junk) σ
  | .makeMap _ none => ∀ l, σ l = none → K (mput f dst (.mapv l)) (σ.set l (.mp []))
  | .insert t m x y => minsert P t (mval f m) (mval f x) (mval f y) (mapOf σ (mval f m)) σ (fun v σ' => K (mput f dst v) σ')
  | .mapUpdate t m x y => minsert P t (mval f m) (mval f x) (mval f y) (mapOf σ (mval f m)) σ (fun v σ' => K (mput f dst v) σ')
  | .lookup t m x ok => mlookup P t (mval f m) (mval f x) ok (mapOf σ (mval f m)) σ (fun v σ' => K (mput f dst v) σ')
  | .slice t x (some y) (some z) none => if beyond (mval f x) (mval f z) then mvslice P t (mval f x) (mval f y) (mval f z) (locOf σ (mval f x)) σ (fun v σ' => K (mput f dst v) σ')
      else mop P f σ (fun v σ' => K (mput f dst v) σ') (.slice t x (some y) (some z) none)
  | .call ⟨.builtin .clear, args, ts⟩ => match args.toList, ts.toList with
    | [x], [t] => mclear P t (mval f x) (locOf σ (mval f x)) σ (fun v σ' => K (mput f dst v) σ')
    | _, _ => False
  | .call ⟨.builtin .append, args, ts⟩ => match args.toList, ts.toList with
    | [s, x], [t, xt] => mone (td P xt).k.isInt (mzapp P t (mval f s) (mval f x) σ (fun v σ' => K (mput f dst v) σ')) (mop P f σ (fun v σ' => K (mput f dst v) σ') (.call ⟨.builtin .append, args, ts⟩))
    | _, _ => False
  | op => mop P f σ (fun v σ' => K (mput f dst v) σ') op
/-- Operations one by one. -/
def mops (P : Program) (ops : Array Oper) (K : FR → St → Prop) : List Oper → FR → St → Prop
  | [], f, σ => K f σ
  | o :: rest, f, σ => mguard ops f o (mstep P f σ o.dst (mops P ops K rest) o.op) (mops P ops K rest (mput f o.dst (.tup [])) σ)
theorem mput_d (f : FR) (dst : Option Tmp) (v : MV) : (mput f dst v).d = f.d := by
  unfold mput
  split <;> (try split) <;> rfl
def opPlain : Op → Bool
  | .defer _ | .makeMap _ none | .insert .. | .mapUpdate .. | .lookup .. | .slice _ _ (some _) (some _) none | .call ⟨.builtin .clear, _, _⟩ | .call ⟨.builtin .append, _, _⟩ => false
  | _ => true
theorem mstep_of {P : Program} {f : FR} {σ : St} {dst : Option Tmp} {K : FR → St → Prop} {op : Op} (h : opPlain op = true) : mstep P f σ dst K op = mop P f σ (fun v σ' => K (mput f dst v) σ') op := by
  cases op <;> first | rfl | skip
  case slice t x lo hi mx => cases lo <;> cases hi <;> cases mx <;> first | rfl | (simp [opPlain] at h; done)
  case defer c => simp [opPlain] at h
  case makeMap t r => cases r <;> first | rfl | (simp [opPlain] at h; done)
  case insert => simp [opPlain] at h
  case mapUpdate => simp [opPlain] at h
  case lookup => simp [opPlain] at h
  case call c =>
    obtain ⟨callee, args, ts⟩ := c
    cases callee <;> first | rfl | skip
    rename_i b
    cases b <;> first | rfl | (simp [opPlain] at h; done)
theorem minsert_sound {P : Program} {o : Oper} {f : FR} {σ : St} {k : MV → St → Prop} {t : TypeId} {m x y : Operand} (ho : o.op = .insert t m x y ∨ o.op = .mapUpdate t m x y) (h : minsert P t (mval f m) (mval f x) (mval f y) (mapOf σ (mval f m)) σ k) : sop P o f σ k := by
  unfold minsert at h
  split at h
  · rename_i kt et l kd n es h1 h2 h3 h4
    rw [h2] at h4
    exact sop_insert ho h1 h.1.1 h2 h4 h3 h.1.2 h.2
  · exact h.elim
theorem mlookup_sound {P : Program} {o : Oper} {f : FR} {σ : St} {k : MV → St → Prop} {t : TypeId} {m x : Operand} {ok : Bool} (ho : o.op = .lookup t m x ok) (h : mlookup P t (mval f m) (mval f x) ok (mapOf σ (mval f m)) σ k) : sop P o f σ k := by
  unfold mlookup at h
  split at h
  · rename_i kt et l kd n es h1 h2 h3 h4
    rw [h2] at h4
    exact sop_lookup ho h1 h.1.1 h.1.2.1 h2 h4 h3 h.1.2.2 h.2
  · exact h.elim
theorem mstep_sound {P : Program} {o : Oper} {f : FR} {σ : St} {K : FR → St → Prop} (hd : ∀ c, o.op ≠ .defer c) (h : mstep P f σ o.dst K o.op) : sop P o f σ fun v σ' => K (mput f o.dst v) σ' := by
  by_cases hp : opPlain o.op = true
  · rw [mstep_of hp] at h
    exact mop_sound h
  · cases ho : o.op <;> rw [ho] at h hp <;> (try simp [opPlain] at hp)
    case slice t x lo hi mx =>
      cases lo <;> cases hi <;> cases mx <;> (try simp [opPlain] at hp)
      rename_i y z
      simp only [mstep] at h
      split at h
      · unfold mvslice at h
        split at h
        · rename_i e l l0 n k1 a k2 hh tt e' xs el hx hy hz hl hk
          obtain ⟨⟨h1, rfl, rfl, h3, h4, h5⟩, h6⟩ := h
          rw [hx] at hl
          exact sop_vslice ho hk h1 hx hl hy hz h3 h4 h5 h6
        · exact h.elim
      · rw [← ho] at h
        exact mop_sound h
    case defer c => exact absurd ho (hd c)
    case makeMap t r =>
      cases r <;> (try simp [opPlain] at hp)
      exact sop_makeMap ho h
    case insert t m x y => exact minsert_sound (.inl ho) h
    case mapUpdate t m x y => exact minsert_sound (.inr ho) h
    case lookup t m x ok => exact mlookup_sound ho h
    case call c =>
      obtain ⟨callee, args, ts⟩ := c
      cases callee <;> (try simp [opPlain] at hp)
      rename_i b
      cases b <;> (try simp [opPlain] at hp)
      case append =>
        simp only [mstep] at h
        split at h
        · rename_i s x t xt ha ht
          have ha' : args = #[s, x] := by rw [← Array.toArray_toList (xs := args), ha]
          have ht' : ts = #[t, xt] := by rw [← Array.toArray_toList (xs := ts), ht]
          subst ha'; subst ht'
          unfold mone at h
          split at h
          · rename_i hxt
            unfold mzapp at h
            split at h
            · rename_i el n hk hs hx
              obtain ⟨⟨h1, h2, h3, h4, h5⟩, h6⟩ := h
              exact sop_append_zeros ho hk hxt h1 h2 hs hx h3 h4 h5 h6
            · exact h.elim
          · rw [← ho] at h
            exact mop_sound h
        · exact h.elim
      case clear =>
        simp only [mstep] at h
        split at h
        · rename_i x t ha ht
          have ha' : args = #[x] := by rw [← Array.toArray_toList (xs := args), ha]
          have ht' : ts = #[t] := by rw [← Array.toArray_toList (xs := ts), ht]
          subst ha'; subst ht'
          unfold mclear at h
          split at h
          · rename_i e l l0 n tt e' xs el hx hl hk
            obtain ⟨⟨h1, h2, rfl, rfl, h3⟩, h4⟩ := h
            rw [hx] at hl
            exact sop_clear ho hk h1 h2 hx hl h3 h4
          · exact h.elim
        · exact h.elim
theorem rels_app {Φ : Phi} {x y : Array Value} {m n : List MV} (h1 : Rels Φ x m) (h2 : Rels Φ y n) : Rels Φ (x ++ y) (m ++ n) := by
  refine ⟨by simp [h1.1, h2.1], fun i q hq => ?_⟩
  have e1 := h1.1
  by_cases h : i < m.length
  · rw [List.getElem?_append_left h] at hq
    have := h1.2 i q hq
    simpa [Array.getD_eq_getD_getElem?, Array.getElem?_append_left (show i < x.size by omega)] using this
  · rw [List.getElem?_append_right (by omega)] at hq
    have := h2.2 _ q hq
    simpa [Array.getD_eq_getD_getElem?, Array.getElem?_append_right (show x.size ≤ i by omega), e1] using this
theorem mdefer_sound {P : Program} {o : Oper} {c : Call} (ho : o.op = .defer c) {f : FR} {K : FR → Prop} (h : mdefer f c K) {Φ : Phi} {a : Act} {w : World} (hr : FRel Φ a.tmps f) (hd : DRel Φ w a.defers f.d) :
    ∃ d f', (execOp a.eval o).run P w = .ok (.defer d) w ∧ FRel Φ a.tmps f' ∧ DRel Φ w (d :: a.defers) f'.d ∧ K f' := by
  unfold mdefer at h
  obtain ⟨callee, args, ts⟩ := c
  simp only at h
  split at h
  · rename_i x
    split at h
    · rename_i g ms ns hx
      have rx := rel_mval hr x
      rw [hx] at rx
      obtain ⟨first, cap, he, r1, r2⟩ := rx.inv_fn
      refine ⟨⟨.fn (.func g) cap, first ++ args.map a.eval⟩, _, ?_, ?_, ?_, h⟩
      · unfold execOp
        simp only [ho, resolve, he, Deferred.ofValue, Sem.run_bind, Sem.run_pure, Result.andThen_ok]
      · exact hr
      · exact .inr ⟨_, _, _, cap, rfl, rfl, rels_app (rels_app r1 (rels_map hr args)) r2, hd⟩
    · exact h.elim
  · exact h.elim
theorem rowsIn_wide' {F : Fence} (hF : F = Fence.wide ∨ ∃ l, F = Fence.wide.inRound l) {n : Nat} {P : Program} {row : String} {args : Array Value} {w : World} {R : Value → World → Prop} (h : Rows P row args w R) : RowsIn F n P row args w R := by
  intro c cs _
  obtain ⟨v, w', r, s⟩ := h c cs
  refine ⟨v, w', r, ?_⟩
  rcases hF with rfl | ⟨l, rfl⟩
  · exact stepsIn_wide.2 s
  · rw [fenced_inRound]; exact stepsIn_wide.2 s
theorem callsIn_wide' {F : Fence} (hF : F = Fence.wide ∨ ∃ l, F = Fence.wide.inRound l) {n : Nat} {P : Program} {f : FuncId} {args : Array Value} {w : World} {R : Ending → World → Prop} (h : Calls P f args w R) : CallsIn F n P f args w R := by
  rcases hF with rfl | ⟨l, rfl⟩
  · exact callsIn_wide.2 h
  · exact CallsIn.inRound l (callsIn_wide.2 h)
/-- An operation in a round, too. -/
theorem wpIn_of_wp {F : Fence} {n : Nat} {P : Program} {o : Oper} {a : Act} {w : World} {K : Act → World → Prop} {Q : Exit → Act → World → Prop}
    (hF : F = Fence.wide ∨ ∃ l, F = Fence.wide.inRound l ∧ ∀ c, o.op ≠ .defer c) (h : o.wp P a w K Q) : o.wpIn F n P a w K Q := by
  have hF' : F = Fence.wide ∨ ∃ l, F = Fence.wide.inRound l := hF.imp id fun ⟨l, e, _⟩ => ⟨l, e⟩
  have hfn : ∀ g, F.fn g := fun g => by rcases hF' with rfl | ⟨l, rfl⟩ <;> trivial
  have hd : F.depth.isSome = true → 1 ≤ n := fun q => by rcases hF' with rfl | ⟨l, rfl⟩ <;> cases q
  have hs : o.semAt F.round a.eval = execOp a.eval o := by
    rcases hF with rfl | ⟨l, rfl, hc⟩
    · exact Oper.semAt_none _ _
    · exact Oper.semAt_eq _ _ _ hc
  refine ⟨fun f _ => hfn f, ?_⟩
  rw [hs]
  unfold Oper.wp at h
  generalize (execOp a.eval o).run P w = r at h ⊢
  cases r with
  | ok x w' =>
    cases x with
    | value v => exact h
    | skip => exact h
    | defer d => exact h
    | enter f args => exact ⟨hd, (callsIn_wide' hF' h).mono fun e w'' q => by cases e <;> exact q⟩
    | row row args => exact ⟨hd, rowsIn_wide' hF' h⟩
    | _ => exact h.elim
  | halt x w' =>
    cases x with
    | panic v => exact h
    | _ => exact h.elim
theorem mops_sound {P : Program} {ops : Array Oper} {Q : MQ} {Φ0 : Phi} {σ0 : St} {w0 : World} {F : Fence} : ∀ (l : List Oper), (F = Fence.wide ∨ ∃ l0, F = Fence.wide.inRound l0 ∧ ∀ o, o ∈ l → ∀ c, o.op ≠ .defer c) → ∀ (f : FR) (σ : St) (Φ : Phi) (w : World) (a : Act), mops P ops (Q .normal) l f σ → Inv Φ w σ → FRel Φ a.tmps f → DRel Φ w a.defers f.d →
    Step Φ0 σ0 w0 Φ σ w → wpListIn F 0 P ops (lift Φ0 σ0 w0 Q) l a w := by
  intro l
  induction l with
  | nil => intro _ f σ Φ w a h hi hr hd hs; exact ⟨f, σ, Φ, hd, hr, hi, hs, h⟩
  | cons o rest ih =>
    intro hF f σ Φ w a h hi hr hd hs
    have hFr : F = Fence.wide ∨ ∃ l0, F = Fence.wide.inRound l0 ∧ ∀ o, o ∈ rest → ∀ c, o.op ≠ .defer c := hF.imp id fun ⟨l0, e, q⟩ => ⟨l0, e, fun o ho => q o (by simp [ho])⟩
    have hFo : F = Fence.wide ∨ ∃ l0, F = Fence.wide.inRound l0 ∧ ∀ c, o.op ≠ .defer c := hF.imp id fun ⟨l0, e, q⟩ => ⟨l0, e, q o (by simp)⟩
    have hfn : ∀ g, F.fn g := fun g => by rcases hF with rfl | ⟨l, rfl, _⟩ <;> trivial
    simp only [mops] at h
    unfold wpListIn
    rcases mguard_sound h hr with ⟨hw, hy⟩ | ⟨hw, hn⟩
    · rw [if_pos hw]
      refine wpIn_of_wp hFo ?_
      by_cases hdef : ∃ c, o.op = .defer c
      · obtain ⟨c, hc⟩ := hdef
        rw [hc] at hy
        have hy : mdefer f c fun f' => mops P ops (Q .normal) rest (mput f' o.dst .junk) σ := hy
        obtain ⟨d, f', h1, h2, h3, h4⟩ := mdefer_sound (P := P) (w := w) hc hy hr hd
        unfold Oper.wp
        rw [h1]
        refine ih hFr _ _ Φ w _ h4 hi (rels_put (a := { a with defers := d :: a.defers }) h2 o.dst (.junk _)) ?_ hs
        rw [put_defers', mput_d]
        exact h3
      · exact mstep_sound (fun c hc => hdef ⟨c, hc⟩) hy Φ w a _ _ hi hr (fun v mv σ' Φ' w' r1 i1 s1 hk => ih hFr _ _ Φ' w' (a.put o.dst v) hk i1 (rels_put (hr.mono s1.le) o.dst r1) (by rw [put_defers', mput_d]; exact hd.step hi s1) (hs.trans s1))
    · rw [if_neg (by simp [hw])]
      exact ⟨fun f _ => hfn f, ih hFr _ _ Φ w (a.put o.dst undef) hn hi (rels_put hr o.dst rel_undef) (by rw [put_defers', mput_d]; exact hd) hs⟩
theorem FOk.ops {F : Fence} {id : Nat} {ops : Array Oper} {dr : Bool} (h : FOk F (.region id ops dr)) : F = Fence.wide ∨ ∃ l0, F = Fence.wide.inRound l0 ∧ ∀ o, o ∈ ops.toList → ∀ c, o.op ≠ .defer c :=
  Or.imp (fun q => q) (fun ⟨l0, e, q⟩ => ⟨l0, e, fun o ho c hc => by
    have := List.all_eq_true.1 q o ho
    rw [hc] at this
    cases this⟩) h
theorem mwp_region {P : Program} {id : Nat} {ops : Array Oper} {f : FR} {σ : St} {Q : MQ} (h : mops P ops (Q .normal) ops.toList f σ) : mwp P (.region id ops false) f σ Q :=
  fun F hF Φ w a hi hr hd => wpIn_region_list (mops_sound ops.toList hF.ops f σ Φ w a h hi hr hd (.refl _ _ _))
/-! ## Functions -/
def mresult1 (P : Program) (f : FR) (σ : St) : ResultVar → (MV → Prop) → Prop
  | .tmp t, k => k (f.get t)
  | .cell a t, k => mload P t (f.get a) σ (fun v _ => k v)
def mresults (P : Program) (f : FR) (σ : St) : List ResultVar → (List MV → Prop) → Prop
  | [], k => k []
  | r :: rs, k => mresult1 P f σ r fun v => mresults P f σ rs fun vs => k (v :: vs)
def oneOf : List MV → MV
  | [v] => v
  | vs => .tup vs
/-- A call at a function's end. -/
def MDefers (P : Program) (g : FuncId) (ms : List MV) (σ : St) (Q : St → Prop) : Prop :=
  ∃ fn, P.funcs[g]? = some fn ∧ fn.body.isNone = false ∧ (fn.name == "runtime.NumGoroutine") = false ∧
    ∀ Φ w vs, Inv Φ w σ → Rels Φ vs ms → CallsD P g vs .returning w fun e u' w' => u' = .returning ∧ ∃ v σ' Φ', e = .returned v ∧ Inv Φ' w' σ' ∧ Step Φ σ w Φ' σ' w' ∧ Q σ'
/-- The calls at a function's end, and its results then. -/
def mleave (P : Program) (n : Nat) (l : List (Nat × MV)) (rs : List ResultVar) (Q : MV → St → Prop) : List (FuncId × List MV) → St → Prop
  | [], σ => mresults P ⟨n, l, []⟩ σ rs fun vs => Q (oneOf vs) σ
  | (g, ms) :: d, σ => MDefers P g ms σ fun σ' => mleave P n l rs Q d σ'
/-- What a function's body must come to. -/
def retQ (P : Program) (rs : List ResultVar) (Q : MV → St → Prop) : MQ
  | .normal, f, σ | .ret, f, σ => mleave P f.n f.l rs Q f.d σ
  | _, _, _ => False
theorem mload_run {P : Program} {t : TypeId} {x : MV} {σ : St} {k : MV → St → Prop} (h : mload P t x σ k) {Φ : Phi} {w : World} (hi : Inv Φ w σ) {v : Value} (r : Rel Φ v x) : ∃ ad u m, v = .pointer (some ad) ∧ (loadVar t ad).run P w = .ok u w ∧ Rel Φ u m ∧ k m σ := by
  unfold mload at h
  split at h
  · rename_i l i of
    split at h
    · rename_i tt e xs hs
      obtain ⟨⟨hok, hi', h1, h0⟩, hk⟩ := h
      obtain ⟨p, R, hp, hR, he⟩ := r.inv_ptr
      obtain ⟨p', hp', hpe, hlen, R', hR', hcells⟩ := (hi.own l _ hs).elem (getD_of hi' (d := []))
      rw [hp] at hp'; cases hp'
      rw [hR] at hR'; cases hR'
      obtain ⟨v2, hv, hrel⟩ := run_loadVar' (P := P) (Φ := Φ) (w := w) (t := t) (b := R) (off := p.bo + i * p.e + of) (ms := (xs.getD i []).drop of) hok (by rw [List.length_drop]; omega) h0 (fun j m hm => by
        rw [List.getElem?_drop] at hm
        have := hcells _ m hm
        rw [Nat.add_assoc (p.bo + i * p.e), hpe]
        exact this)
      have e2 : mpart (td P t) ((xs.getD i []).drop of) 0 = mpart (td P t) (xs.getD i []) of := by
        unfold mpart
        simp [List.getD, List.getElem?_drop]
      rw [e2] at hrel
      exact ⟨_, v2, _, he, hv, hrel, hk⟩
    · exact h.elim
  · rename_i cs
    obtain ⟨⟨hok, h1, h0⟩, hk⟩ := h
    obtain ⟨b, off, vs, he, hc, hrr⟩ := r.inv_cptr
    obtain ⟨v2, hv, hrel⟩ := run_loadVar' (P := P) (Φ := Φ) (w := w) (t := t) (b := b) (off := off) (ms := cs) hok h1 h0 (fun j m hm => ⟨(hc j m hm).1, vs j, hi.snap _ _ (hc j m hm).2, hrr j m hm⟩)
    exact ⟨_, v2, _, he, hv, hrel, hk⟩
  · exact h.elim
theorem rel_getD {Φ : Phi} {tmps : Array Value} {f : FR} (hr : FRel Φ tmps f) (t : Nat) : Rel Φ (tmps.getD t undef) (f.get t) := hr.2 t
def resOf (tmps : Array Value) : ResultVar → Sem Value
  | .tmp t => pure (tmps.getD t undef)
  | .cell a t => do loadVar t (← asAddr (tmps.getD a undef))
theorem results_eq (fn : Func) (tmps : Array Value) : results fn tmps = (do
    let vs ← fn.results.mapM (resOf tmps)
    pure (if h : vs.size = 1 then vs[0] else .tuple vs)) := rfl
theorem mresults_run {P : Program} {f : FR} {σ : St} {Φ : Phi} {w : World} (hi : Inv Φ w σ) {tmps : Array Value} (hr : FRel Φ tmps f) : ∀ (rs : List ResultVar) (k : List MV → Prop), mresults P f σ rs k →
    ∃ vs ms, (rs.mapM (m := Sem) (resOf tmps)).run P w = .ok vs w ∧ vs.length = ms.length ∧ (∀ (i : Nat) v m, vs[i]? = some v → ms[i]? = some m → Rel Φ v m) ∧ k ms := by
  intro rs
  induction rs with
  | nil => intro k h; exact ⟨[], [], by simp, rfl, by simp, h⟩
  | cons r rs ih =>
    intro k h
    simp only [mresults] at h
    cases r with
    | tmp t =>
      obtain ⟨vs, ms, h1, h2, h3, h4⟩ := ih _ h
      refine ⟨tmps.getD t undef :: vs, f.get t :: ms, ?_, by simp [h2], fun i v m hv hm => ?_, h4⟩
      · rw [List.mapM_cons]
        simp only [resOf, Sem.run_bind, Sem.run_pure, Result.andThen_ok]
        rw [h1]
        rfl
      · cases i with
        | zero => simp only [List.getElem?_cons_zero, Option.some.injEq] at hv hm; subst hv; subst hm; exact rel_getD hr t
        | succ i => exact h3 i v m (by simpa using hv) (by simpa using hm)
    | cell a t =>
      simp only [mresult1] at h
      obtain ⟨ad, u, m1, he, hl, hrel, hk⟩ := mload_run h hi (rel_getD hr a)
      obtain ⟨vs, ms, h1, h2, h3, h4⟩ := ih _ hk
      refine ⟨u :: vs, m1 :: ms, ?_, by simp [h2], fun i v m hv hm => ?_, h4⟩
      · rw [List.mapM_cons]
        simp only [resOf, Sem.run_bind, he, asAddr, Sem.run_pure, Result.andThen_ok, hl]
        rw [h1]
        rfl
      · cases i with
        | zero => simp only [List.getElem?_cons_zero, Option.some.injEq] at hv hm; subst hv; subst hm; exact hrel
        | succ i => exact h3 i v m (by simpa using hv) (by simpa using hm)
theorem results_run {P : Program} {fn : Func} {f : FR} {σ : St} {Φ : Phi} {w : World} (hi : Inv Φ w σ) {tmps : Array Value} (hr : FRel Φ tmps f) {Q : MV → St → Prop} (h : mresults P f σ fn.results.toList fun vs => Q (oneOf vs) σ) :
    ∃ v m, (results fn tmps).run P w = .ok v w ∧ Rel Φ v m ∧ Q m σ := by
  obtain ⟨vs, ms, h1, h2, h3, h4⟩ := mresults_run (P := P) hi hr fn.results.toList _ h
  have hm : ∃ va : Array Value, (fn.results.mapM (m := Sem) (resOf tmps)).run P w = .ok va w ∧ va.toList = vs := by
    rw [← Array.toList_mapM] at h1
    simp only [Sem.run_map] at h1
    generalize hg : (fn.results.mapM (m := Sem) (resOf tmps)).run P w = res at h1 ⊢
    cases res with
    | halt x w' => simp at h1
    | ok va w' =>
      simp only [Result.andThen_ok, Result.ok.injEq] at h1
      obtain ⟨h1, rfl⟩ := h1
      exact ⟨va, rfl, h1⟩
  obtain ⟨va, hva, rfl⟩ := hm
  by_cases hs : va.size = 1
  · match ms, h2 with
    | [m], h2 =>
      refine ⟨va[0], m, ?_, h3 0 _ m (by simp [hs]) rfl, h4⟩
      rw [results_eq]
      simp only [Sem.run_bind, hva, Result.andThen_ok, Sem.run_pure, dif_pos hs]
    | [], h2 => simp [hs] at h2
    | _ :: _ :: _, h2 => simp [hs] at h2
  · refine ⟨.tuple va, oneOf ms, ?_, ?_, h4⟩
    · rw [results_eq]
      simp only [Sem.run_bind, hva, Result.andThen_ok, Sem.run_pure, dif_neg hs]
    · have : oneOf ms = .tup ms := by
        match ms, h2 with
        | [], _ => rfl
        | [m], h2 => exact absurd (by simpa using h2) hs
        | _ :: _ :: _, _ => rfl
      rw [this]
      refine .tup (by simpa using h2) (fun i m hm' => ?_)
      have hlt : i < va.size := by have := (List.getElem?_eq_some_iff.1 hm').1; simp at h2; omega
      have hv : va.toList[i]? = some (va.getD i undef) := by
        rw [Array.getElem?_toList]
        simp [Array.getD_eq_getD_getElem?, Array.getElem?_eq_getElem hlt]
      exact h3 i _ m hv hm'
/-- The arguments' slots. -/
def args0 : Nat → List MV → List (Nat × MV)
  | _, [] => []
  | i, m :: ms => (i, m) :: args0 (i + 1) ms
theorem args0_get : ∀ (ms : List MV) (i t : Nat), lget (args0 i ms) t = if i ≤ t then (ms[t - i]?).getD .junk else .junk := by
  intro ms
  induction ms with
  | nil => intro i t; simp [args0, lget]
  | cons m ms ih =>
    intro i t
    simp only [args0, lget, ih]
    by_cases h : t = i
    · subst h; simp
    · rw [if_neg h]
      by_cases h2 : i ≤ t
      · obtain ⟨k, rfl⟩ : ∃ k, t = i + 1 + k := ⟨t - (i + 1), by omega⟩
        rw [if_pos (by omega), if_pos h2, show i + 1 + k - (i + 1) = k from by omega, show i + 1 + k - i = k + 1 from by omega]
        rfl
      · rw [if_neg (by omega), if_neg h2]
/-- What is left to be done at a function's end, marks and all. -/
def LeavesM (P : Program) (fn : Func) (tmps : Array Value) (R : Ending → World → Prop) : List Deferred → World → Prop
  | [], w => ∃ v, (results fn tmps).run P w = .ok v w ∧ R (.returned v) w
  | d :: ds, w => (∃ r w', d.target = .collected r ∧ (Instr.takeDeferred r).run P w = .ok [] w' ∧ LeavesM P fn tmps R ds w') ∨
      ∃ fv cap f args, d.target = .fn fv cap ∧ (invoke d.target d.args).run P w = .ok (.enter f args) w ∧ CallsD P f args .returning w fun e u' w' => (∃ v, e = .returned v) ∧ u' = .returning ∧ LeavesM P fn tmps R ds w'
theorem leavesM_steps {P : Program} {fn : Func} {tmps : Array Value} {R : Ending → World → Prop} : ∀ (ds : List Deferred) (w : World) (fr : Frame) (cs : List Frame), fr.mode = .returning → fr.defers = ds → fr.tmps = tmps → P.funcs[fr.fn]? = some fn → fr.kind = .normal →
    LeavesM P fn tmps R ds w → ∃ e w' fr', R e w' ∧ Comes P (lone fr cs w) (lone fr' cs w') e ∧ fr'.fn = fr.fn ∧ fr'.leaving P w' e := by
  intro ds
  induction ds with
  | nil =>
    intro w fr cs hu hd ht hf hk h
    obtain ⟨v, hr, hR⟩ := h
    exact ⟨.returned v, w, fr, hR, Steps.refl P _, rfl, hu, hd, hk, fn, hf, ht ▸ hr⟩
  | cons d ds ih =>
    intro w fr cs hu hd ht hf hk h
    have hrun : fr.mode ≠ .run := by rw [hu]; simp
    rcases h with ⟨r, w', h1, h2, h3⟩ | ⟨fv, cap, f, args, h1, h2, h3⟩
    · have s1 := step_collected (cs := cs) hrun hd h1 h2
      obtain ⟨e, w2, fr', q1, q2, q3, q4⟩ := ih w' { fr with defers := [] ++ ds } cs hu rfl ht hf hk h3
      exact ⟨e, w2, fr', q1, Comes.of_steps (.one s1) q2, q3, q4⟩
    · have s1 := step_defer (cs := cs) hrun hd h1 h2
      obtain ⟨e, u', w', frX, hR, hsteps, hkX, hgo⟩ := h3 { fr with defers := ds } cs hu
      obtain ⟨⟨v, rfl⟩, rfl, hR⟩ := hR
      have s2 := step_going_returned (c := { { fr with defers := ds } with mode := .returning }) (cs := cs) hkX hgo
      obtain ⟨e, w2, fr', q1, q2, q3, q4⟩ := ih w' { { { fr with defers := ds } with mode := .returning } with mode := settle .returning } cs rfl rfl ht hf hk hR
      exact ⟨e, w2, fr', q1, Comes.of_steps (.head s1 (Steps.trans hsteps (.one s2))) q2, q3, q4⟩
theorem calls_of_wpM {P : Program} {f : FuncId} {fn : Func} {c : Code} {args : Array Value} {w : World} {R : Ending → World → Prop} (hf : P.funcs[f]? = some fn) (hb : fn.body = some c)
    (h : c.wp P (fun e a w => (e = .normal ∨ e = .ret) ∧ LeavesM P fn a.tmps R a.defers w) { tmps := args ++ Array.replicate (fn.ntmps - args.size) undef, defers := [] } w) : Calls P f args w R := by
  intro cs
  let b : Frame := { (default : Frame) with fn := f, kind := .normal }
  have henter : Frame.enter P f args .normal = b.at { tmps := args ++ Array.replicate (fn.ntmps - args.size) undef, defers := [] } [.code c] := by
    simp [Frame.enter, Frame.at, hf, hb, b]
  obtain ⟨e, a', w', ⟨he, hq⟩, harr⟩ := h b [] cs
  rw [← henter] at harr
  rcases he with rfl | rfl
  · obtain ⟨e', w'', fr', hR, hs, hfn, hl⟩ := leavesM_steps a'.defers w' { b.at a' [] with mode := .returning } cs rfl rfl rfl hf rfl hq
    exact ⟨e', w'', fr', hR, Comes.of_steps (Steps.trans harr (.one step_end)) hs, hfn, hl⟩
  · obtain ⟨todo, hs₀⟩ := harr
    obtain ⟨e', w'', fr', hR, hs, hfn, hl⟩ := leavesM_steps a'.defers w' { b.at a' todo with mode := .returning } cs rfl rfl rfl hf rfl hq
    exact ⟨e', w'', fr', hR, Comes.of_steps hs₀ hs, hfn, hl⟩
/-- A block of bookkeeping changes: it is none of ours, and no cell is in it. -/
theorem Inv.putObj {Φ : Phi} {w : World} {σ : St} (hi : Inv Φ w σ) {D : Nat} {o : Obj} (o' : Obj) (hD : w.heap[D]? = some o) (h : ∀ c t fz, o ≠ .cells c t fz) (h' : ∀ c k, o ≠ .map c k) : Inv Φ (w.putObj D o') σ := by
  have hno : ¬ Owned Φ σ D := hi.notOwned (fun c t fz e => h c t fz (by rw [hD] at e; exact Option.some.inj e)) (fun c k e => h' c k (by rw [hD] at e; exact Option.some.inj e))
  refine ⟨fun l ob hl => (hi.own l ob hl).mono (.refl _) fun p R h1 h2 => World.putObj_heap_other fun e => hno ⟨l, ob, p, hl, h1, e ▸ h2⟩, hi.inj, fun a v hv => ?_, hi.apart, hi.fresh⟩
  have hc := hi.snap a v hv
  rw [← hc]
  refine World.cell?_heap (World.putObj_heap_other fun e => ?_)
  rw [World.cell?, e, hD] at hc
  cases o with
  | cells c t fz => exact h _ _ _ rfl
  | map c k => exact h' _ _ rfl
  | _ => simp at hc
/-- The calls that wait, one behind the other. -/
theorem leaves_of {P : Program} {fn : Func} {tmps : Array Value} {n : Nat} {l : List (Nat × MV)} {Q : MV → St → Prop} {Φ0 : Phi} {σ0 : St} {w0 : World} (h0 : Φ0.base = w0.heap.size) :
    ∀ (ds : List Deferred) (d : List (FuncId × List MV)) (Φ : Phi) (w : World) (σ : St), DRel Φ w ds d → FRel Φ tmps ⟨n, l, []⟩ → Inv Φ w σ → Step Φ0 σ0 w0 Φ σ w → mleave P n l fn.results.toList Q d σ →
    LeavesM P fn tmps (fun e w' => ∃ v mv σ' Φ', e = .returned v ∧ Rel Φ' v mv ∧ Inv Φ' w' σ' ∧ Step Φ0 σ0 w0 Φ' σ' w' ∧ Q mv σ') ds w := by
  intro ds
  induction ds with
  | nil =>
    intro d Φ w σ hd hr hi hs h
    obtain ⟨rfl, -⟩ := hd
    obtain ⟨v, m, h1, h2, h3⟩ := results_run (P := P) (fn := fn) hi hr h
    exact ⟨v, h1, v, m, σ, Φ, rfl, h2, hi, hs, h3⟩
  | cons x ds ih =>
    intro d Φ w σ hd hr hi hs h
    rcases hd with ⟨D, h1, h2, h3, h4, h5⟩ | ⟨g, ms, r, cap, rfl, h1, h2, h3⟩
    · refine .inl ⟨D, _, h1, run_takeDeferred h3, ?_⟩
      have hi' := hi.putObj (.deferred none) h3 (fun _ _ _ e => by cases e) (fun _ _ e => by cases e)
      have hDb : w0.heap.size ≤ D := by rw [← h0, ← hs.le.base]; exact h2
      have hs' : Step Φ0 σ0 w0 Φ σ (w.putObj D (.deferred none)) :=
        ⟨hs.le, hs.os, hs.tape, hs.output, hs.drawn, by rw [World.putObj_size]; exact hs.size, fun k hk hn => (World.putObj_heap_other (by omega)).trans (hs.block k hk hn), hs.snapn, hs.locs, hs.ownd⟩
      refine ih d Φ _ σ ?_ hr hi' hs' h
      have : ∀ (xs : List Deferred) (d : List (FuncId × List MV)), (∀ y, y ∈ xs → y.target ≠ .collected D) → DRel Φ w xs d → DRel Φ (w.putObj D (.deferred none)) xs d := by
        intro xs
        induction xs with
        | nil => intro d _ h; exact ⟨h.1, by rw [World.putObj_size]; exact h.2⟩
        | cons y xs ihx =>
          intro d hy h
          rcases h with ⟨D', k1, k2, k3, k4, k5⟩ | ⟨g, ms, r, cap, k1, k2, k3, k4⟩
          · refine .inl ⟨D', k1, k2, ?_, k4, ihx d (fun z hz => hy z (by simp [hz])) k5⟩
            rw [World.putObj_heap_other]
            · exact k3
            · intro e; exact hy y (by simp) (by rw [k1, e])
          · exact .inr ⟨g, ms, r, cap, k1, k2, k3, ihx r (fun z hz => hy z (by simp [hz])) k4⟩
      exact this ds d h4 h5
    · obtain ⟨fn', hf, hb, hn, hc⟩ := h
      obtain ⟨t, ags⟩ := x
      simp only at h1 h2
      subst h1
      refine .inr ⟨.func g, cap, g, ags ++ cap, rfl, ?_, ?_⟩
      · simp only [invoke, callFunc, Sem.run_bind, run_program, hf, hn, hb, Result.andThen_ok, Bool.false_eq_true, if_false, Sem.run_pure]
      · intro c cs hcu
        obtain ⟨e, u', w', fr, ⟨rfl, v, σ', Φ', rfl, i1, s1, q⟩, q2, q3, q4⟩ := hc Φ w _ hi h2 c cs hcu
        exact ⟨_, _, w', fr, ⟨⟨v, rfl⟩, rfl, ih r Φ' w' σ' (h3.step hi s1) (hr.mono s1.le) i1 (hs.trans s1) q⟩, q2, q3, q4⟩
theorem body_post {P : Program} {fn : Func} {Q : MV → St → Prop} {Φ0 : Phi} {σ0 : St} {w0 : World} {e : Exit} {a' : Act} {w' : World} (h0 : Φ0.base = w0.heap.size)
    (h : lift Φ0 σ0 w0 (retQ P fn.results.toList Q) e a' w') : (e = .normal ∨ e = .ret) ∧ LeavesM P fn a'.tmps (fun e w' => ∃ v mv σ' Φ', e = .returned v ∧ Rel Φ' v mv ∧ Inv Φ' w' σ' ∧ Step Φ0 σ0 w0 Φ' σ' w' ∧ Q mv σ') a'.defers w' := by
  obtain ⟨f', σ', Φ', x1, x2, x3, x4, q⟩ := h
  obtain ⟨n, l, d⟩ := f'
  cases e with
  | normal => exact ⟨.inl rfl, leaves_of h0 _ d Φ' w' σ' x1 x2 x3 x4 q⟩
  | ret => exact ⟨.inr rfl, leaves_of h0 _ d Φ' w' σ' x1 x2 x3 x4 q⟩
  | _ => exact q.elim
theorem frel_args {Φ : Phi} {fn : Func} {vs : Array Value} {ms : List MV} (hr : Rels Φ vs ms) : FRel Φ (vs ++ Array.replicate (fn.ntmps - vs.size) undef) ⟨max fn.ntmps ms.length, args0 0 ms, []⟩ := by
  refine ⟨by simp [hr.1]; omega, fun t => ?_⟩
  simp only [FR.get, args0_get, Nat.sub_zero, Nat.zero_le, if_true]
  cases hm : ms[t]? with
  | none => exact .junk _
  | some m =>
    have hlt := (List.getElem?_eq_some_iff.1 hm).1
    have e1 := hr.1
    have := hr.2 t m hm
    simpa [Array.getD_eq_getD_getElem?, Array.getElem?_append_left (show t < vs.size by omega)] using this
/-- The base alone turns. -/
def Phi.rebase (Φ : Phi) (n : Nat) : Phi := { Φ with base := n }
theorem Rel.rebase {Φ : Phi} {v : Value} {m : MV} (h : Rel Φ v m) (n : Nat) : Rel (Φ.rebase n) v m := Rel.mono2 (Φ := Φ) (Φ' := Φ.rebase n) (fun _ _ q => q) (fun _ _ q => q) h
theorem Inv.rebase {Φ : Phi} {w : World} {σ : St} (hi : Inv Φ w σ) (n : Nat) : Inv (Φ.rebase n) w σ := by
  refine ⟨fun l o hl => ?_, hi.inj, hi.snap, hi.apart, hi.fresh⟩
  have := hi.own l o hl
  cases o with
  | row t e xs =>
    obtain ⟨p, h1, h2, h3, h4, h5, h6⟩ := this
    refine ⟨p, h1, h2, h3, h4, h5, ?_⟩
    split
    · rename_i hb; rw [hb] at h6; exact h6
    · rename_i R hb
      rw [hb] at h6
      obtain ⟨c, fz, k1, k2, k3, k4⟩ := h6
      exact ⟨c, fz, k1, k2, k3, fun i x j m hx hm => ⟨(k4 i x j m hx hm).1, (k4 i x j m hx hm).2.imp fun v hv => ⟨hv.1, hv.2.rebase n⟩⟩⟩
  | mp es =>
    obtain ⟨p, R, h1, h2, c, k, h3, h4, h5⟩ := this
    exact ⟨p, R, h1, h2, c, k, h3, h4, fun i x hx => ⟨(h5 i x hx).1.rebase n, (h5 i x hx).2.rebase n⟩⟩
theorem Step.rebase {Φ Φ' : Phi} {σ σ' : St} {w w' : World} {n : Nat} (h : Step (Φ.rebase n) σ w Φ' σ' w') : Step Φ σ w (Φ'.rebase Φ.base) σ' w' :=
  ⟨⟨h.le.snap, h.le.obj, rfl⟩, h.os, h.tape, h.output, h.drawn, h.size, h.block, h.snapn, h.locs, h.ownd⟩
/-- A function, by its body. -/
theorem MCalls.of_body {P : Program} {g : FuncId} {fn : Func} {c : Code} {ms : List MV} {σ : St} {Q : MV → St → Prop} (n : Nat) (rs : List ResultVar) (hf : P.funcs[g]? = some fn) (hb : fn.body = some c) (hn : (fn.name == "runtime.NumGoroutine") = false)
    (hn' : max fn.ntmps ms.length = n) (hrs : fn.results.toList = rs) (h : mwp P c ⟨n, args0 0 ms, []⟩ σ (retQ P rs Q)) : MCalls P g ms σ Q := by
  subst hn'; subst hrs
  refine ⟨⟨fn, hf, by simp [hb], hn⟩, fun Φ w vs hi hr => ?_⟩
  have hr' : Rels (Φ.rebase w.heap.size) vs ms := ⟨hr.1, fun i m hm => (hr.2 i m hm).rebase _⟩
  refine (calls_of_wpM hf hb (wp_mono (wpIn_wide.1 (h _ .wide (Φ.rebase w.heap.size) w { tmps := vs ++ Array.replicate (fn.ntmps - vs.size) undef, defers := [] } (hi.rebase _) (frel_args hr') ⟨rfl, Nat.le_refl _⟩)) fun e a' w' hq => body_post rfl hq)).mono ?_
  rintro e w' ⟨v, mv, σ', Φ', q1, q2, q3, q4, q5⟩
  exact ⟨v, mv, σ', Φ'.rebase Φ.base, q1, q2.rebase _, q3.rebase _, q4.rebase, q5⟩
/-- The result, and the store behind, may be seen as less. -/
theorem MCalls.ghost {P : Program} {g : FuncId} {ms : List MV} {σ : St} {Q : MV → St → Prop} (h : MCalls P g ms σ fun v σ' => ∃ v1 σ1, Ghost ⟨1, [(0, v)], []⟩ σ' ⟨1, [(0, v1)], []⟩ σ1 ∧ Q v1 σ1) : MCalls P g ms σ Q := by
  refine ⟨h.1, fun Φ w vs hi hr => (h.2 Φ w vs hi hr).mono ?_⟩
  rintro e w' ⟨v, mv, σ', Φ', rfl, q1, q2, q3, v1, σ1, g, hq⟩
  obtain ⟨Φ1, i1, r1, s1⟩ := g.2 Φ' w' #[v] q2 ⟨rfl, fun t => by
    simp only [FR.get, lget]
    split
    · rename_i ht; subst ht; exact q1
    · exact .junk _⟩
  exact ⟨v, v1, σ1, Φ1, rfl, by simpa [FR.get, lget] using r1.2 0, i1, q3.trans s1, hq⟩
end Go.Proofs.YtfbodefnblpflaaGreatDoor
