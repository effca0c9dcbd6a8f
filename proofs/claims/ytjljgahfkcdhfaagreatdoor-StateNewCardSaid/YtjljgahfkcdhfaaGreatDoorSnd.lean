/- Parts of the proof, joined. Each part says what it proves, and under which conditions it does: those that its theorems name. -/
import Derived.Test.YtjljgahfkcdhfaaGreatDoorSnc
import Derived.RangeFuncLeaves
import Derived.RangeFuncRecord
set_option linter.unusedVariables false
set_option linter.unusedSimpArgs false
set_option maxHeartbeats 4000000
section
namespace Go.Proofs.YtjljgahfkcdhfaaGreatDoor
def Fits (n b : Nat) : Prop := n ≤ 140737488355328 ∧ n * b ≤ 140737488355328
def mpure (σ : St) (k : MV → St → Prop) : PV → Prop
  | some (C, v) => C ∧ k v σ
  | none => False
def mload (P : Program) (t : TypeId) (x : MV) (σ : St) (k : MV → St → Prop) : Prop :=
  match x with
  | .ptr l i o => match σ l with
    | some (.row _ _ xs) => ((td P t).ok = true ∧ i < xs.length ∧ o + (td P t).size ≤ (xs.getD i []).length ∧ 0 < (td P t).size) ∧ k (mpart (td P t) (xs.getD i []) o) σ
    | _ => False
  | .cptr cs => ((td P t).ok = true ∧ (td P t).size ≤ cs.length ∧ 0 < (td P t).size) ∧ k (mpart (td P t) cs 0) σ
  | _ => False
def mstore (P : Program) (t : TypeId) (x y : MV) (σ : St) (k : MV → St → Prop) : Prop :=
  match x with
  | .ptr l i o => match σ l with
    | some (.row tt e xs) => ((td P t).ok = true ∧ i < xs.length ∧ y.cells.all MV.isCell = true ∧ y.cells.length = (td P t).size ∧ o + y.cells.length ≤ (xs.getD i []).length) ∧ k .junk (σ.set l (.row tt e (xs.set i (laid (xs.getD i []) o y.cells))))
    | _ => False
  | _ => False
def mappend (P : Program) (t xt : TypeId) (s x : MV) (σ : St) (k : MV → St → Prop) : Prop :=
  match (td P t).k with
  | .slice el => match msrc σ (td P el).size x with
    | some ys => match s with
      | .nils => ((td P xt).k.isSrc = true ∧ (td P el).zok = true ∧ Fits ys.length (td P el).bytes) ∧ ∀ l, σ l = none → k (.vec (td P el).size l 0 ys.length) (σ.set l (.row el (td P el).size ys))
      | .lst e xs true => ((td P xt).k.isSrc = true ∧ (td P el).zok = true ∧ e = (td P el).size ∧ (xs = [] ∨ 0 < ys.length) ∧ Fits (xs.length + ys.length) (td P el).bytes) ∧
          ∀ l, σ l = none → k (.vec (td P el).size l 0 (xs.length + ys.length)) (σ.set l (.row el (td P el).size (xs ++ ys)))
      | .vec e l lo n => match σ l with
        | some (.row tt e' xs) => ((td P xt).k.isSrc = true ∧ (td P el).zok = true ∧ e = (td P el).size ∧ e' = (td P el).size ∧ tt = el ∧ lo = 0 ∧ lo + n ≤ xs.length ∧ Fits (n + ys.length) (td P el).bytes) ∧
            ∀ l', σ l' = none → k (.vec (td P el).size l' 0 (n + ys.length)) ((σ.del l).set l' (.row el (td P el).size (appRow xs lo n ys)))
        | _ => False
      | _ => False
    | none => False
  | _ => False
def mbuildSlice (P : Program) (f : FR) (t : TypeId) (len : Nat) (parts : Array (Nat × Operand)) (σ : St) (k : MV → St → Prop) : Prop :=
  match (td P t).k with
  | .slice el => ((td P el).zok = true ∧ parts.toList.map (·.1) = List.range len ∧ (parts.toList.all fun p => (mval f p.2).cells.all MV.isCell && (mval f p.2).cells.length == (td P el).size) = true ∧ len * (td P el).size ≤ 16777216 ∧ len ≤ 16777216) ∧
      ∀ l, σ l = none → k (.vec (td P el).size l 0 len) (σ.set l (.row el (td P el).size (parts.toList.map fun p => (mval f p.2).cells)))
  | _ => False
def mmakeSlice (P : Program) (t : TypeId) (x y : MV) (σ : St) (k : MV → St → Prop) : Prop :=
  match (td P t).k, x, y with
  | .slice el, .int .i64 n, .int .i64 c => ((td P el).zok = true ∧ 0 ≤ n ∧ n ≤ c ∧ Fits c.toNat (td P el).bytes) ∧ ∀ l, σ l = none → k (.vec (td P el).size l 0 n.toNat) (σ.set l (.row el (td P el).size (List.replicate n.toNat (td P el).zero)))
  | _, _, _ => False
def mconvert (P : Program) (s d : TypeId) (x : MV) (σ : St) (k : MV → St → Prop) : Prop :=
  match (td P s).k, (td P d).k, x with
  | .str, .slice el, .str b => ((td P el).k = .int .u8 ∧ b.size ≤ 140737488355328) ∧ ∀ l, σ l = none → k (.vec 1 l 0 b.size) (σ.set l (.row el 1 (b.toList.map fun c => [.int .u8 (c.toNat : Int)])))
  | .slice el, .str, .str _ => False
  | .slice el, .str, x => match msrc σ 1 x with
    | some ys => ((td P el).k = .int .u8 ∧ ys.all isByte = true) ∧ k (.str (bytesOf ys)) σ
    | none => False
  | _, _, x => mpure σ k (mconv P s d x)
def mbcall (P : Program) (f : FR) (b : Builtin) (args : List Operand) (ts : List TypeId) (σ : St) (k : MV → St → Prop) : Prop :=
  match b with
  | .append => match args, ts with
    | [s, x], [t, xt] => mappend P t xt (mval f s) (mval f x) σ k
    | _, _ => False
  | b => ts.length = args.length ∧ mpure σ k (mbuiltin P b ts.toArray (args.map (mval f)))
def mcall (P : Program) (f : FR) (c : Call) (σ : St) (k : MV → St → Prop) : Prop :=
  match c.callee with
  | .builtin b => mbcall P f b c.args.toList c.argTypes.toList σ k
  | .value x => match mval f x with
    | .fn (.func g) ms ns => MCalls P g (ms ++ c.args.toList.map (mval f) ++ ns) σ k
    | _ => False
  | .invoke _ _ => False
def mop (P : Program) (f : FR) (σ : St) (k : MV → St → Prop) : Op → Prop
  | .alloc t => (td P t).zok = true ∧ ∀ l, σ l = none → k (.ptr l 0 0) (σ.set l (.row t (td P t).size [(td P t).zero]))
  | .box t x => (mval f x).cells.all MV.isCell = true ∧ ∀ l, σ l = none → k (.ptr l 0 0) (σ.set l (.row t (mval f x).cells.length [(mval f x).cells]))
  | .load t x => mload P t (mval f x) σ k
  | .store t x y => mstore P t (mval f x) (mval f y) σ k
  | .buildSlice t len parts => mbuildSlice P f t len parts σ k
  | .makeSlice t x y => mmakeSlice P t (mval f x) (mval f y) σ k
  | .convert s d x => mconvert P s d (mval f x) σ k
  | .call c => mcall P f c σ k
  | op => mpure σ k (qop P f op)
theorem mpure_sound {P : Program} {o : Oper} {f : FR} {σ : St} {k : MV → St → Prop} (h : mpure σ k (qop P f o.op)) (hot : opTypes o.op = true) : sop P o f σ k := by
  cases hq : qop P f o.op with
  | none => rw [hq] at h; exact h.elim
  | some q => obtain ⟨C, v⟩ := q; rw [hq] at h; exact sop_pure hq hot h.1 h.2
theorem le_maxLen {n : Nat} (h : n ≤ 140737488355328) : n ≤ maxLen := Nat.le_trans h (by unfold maxLen; omega)
theorem all_mem {l : List MV} (h : l.all MV.isCell = true) : ∀ c, c ∈ l → c.isCell = true := by simpa using h
theorem mload_sound {P : Program} {o : Oper} {f : FR} {σ : St} {k : MV → St → Prop} {t : TypeId} {x : Operand} (ho : o.op = .load t x) (h : mload P t (mval f x) σ k) : sop P o f σ k := by
  unfold mload at h
  split at h
  · rename_i l i of hx
    split at h
    · rename_i tt e xs hs
      exact sop_load ho hx hs h.1.1 h.1.2.1 h.1.2.2.1 h.1.2.2.2 h.2
    · exact h.elim
  · rename_i cs hx
    exact sop_cload ho hx h.1.1 h.1.2.1 h.1.2.2 h.2
  · exact h.elim
theorem mop_sound {P : Program} {o : Oper} {f : FR} {σ : St} {k : MV → St → Prop} (h : mop P f σ k o.op) : sop P o f σ k := by
  cases ho : o.op <;> rw [ho] at h <;> simp only [mop] at h
  case alloc t => exact sop_alloc ho h.1 h.2
  case box t x => exact sop_box ho (all_mem h.1) h.2
  case load t x => exact mload_sound ho h
  case store t x y =>
    unfold mstore at h
    split at h
    · rename_i l i of hx
      split at h
      · rename_i tt e xs hs
        obtain ⟨⟨h1, h2, h3, h4, h5⟩, h6⟩ := h
        exact sop_store ho hx hs h1 h2 (all_mem h3) h4 h5 h6
      · exact h.elim
    · exact h.elim
  case buildSlice t len parts =>
    unfold mbuildSlice at h
    split at h
    · rename_i el hk
      obtain ⟨⟨h1, h2, h3, h4, h5⟩, h6⟩ := h
      refine sop_buildSlice ho hk h1 h2 (fun p hp => ?_) h4 (le_maxLen (by omega)) h6
      have := List.all_eq_true.1 h3 p hp
      simp only [Bool.and_eq_true, beq_iff_eq] at this
      exact ⟨all_mem this.1, this.2⟩
    · exact h.elim
  case makeSlice t x y =>
    unfold mmakeSlice at h
    split at h
    · rename_i el n c hk hx hy
      obtain ⟨⟨h1, h2, h3, h4⟩, h6⟩ := h
      obtain ⟨h7, h8⟩ := h4
      refine sop_makeSlice ho hk h1 hx hy h2 h3 (by omega) ?_ h6
      have : c = (c.toNat : Int) := by omega
      rw [this, Int.mul_comm, ← Int.natCast_mul]
      exact Int.ofNat_le.2 h8
    · exact h.elim
  case convert s d x =>
    unfold mconvert at h
    split at h
    · rename_i el b hs hd hx
      exact sop_ofStr ho hs hd h.1.1 hx (le_maxLen h.1.2) h.2
    · exact h.elim
    · rename_i el hs hd hne
      split at h
      · rename_i ys hy
        exact sop_toStr ho hs h.1.1 hd hy (fun b hb => hne b hb) h.1.2 h.2
      · exact h.elim
    · refine mpure_sound ?_ (by rw [ho]; rfl)
      rw [ho]
      exact h
  case call c =>
    obtain ⟨callee, args, ts⟩ := c
    unfold mcall at h
    cases callee with
    | builtin b =>
      simp only [mbcall] at h
      split at h
      · split at h
        · rename_i s x t xt ha hts
          have ha' : args = #[s, x] := by rw [← Array.toArray_toList (xs := args), ha]
          have hts' : ts = #[t, xt] := by rw [← Array.toArray_toList (xs := ts), hts]
          subst ha'; subst hts'
          unfold mappend at h
          split at h
          · rename_i el hk
            split at h
            · rename_i ys hy
              split at h
              · rename_i hs
                obtain ⟨⟨h1, h2, h3⟩, h4⟩ := h
                have := sop_append_new (P := P) (f := f) (σ := σ) (k := k) ho hk h1 h2 (xs := []) (ys := ys) (.inl ⟨hs, rfl⟩) hy (.inl rfl) (le_maxLen (by simpa using h3.1)) (by simpa using h3.2) (by simpa using h4)
                exact this
              · rename_i e xs hs
                obtain ⟨⟨h1, h2, rfl, h3, h4⟩, h5⟩ := h
                exact sop_append_new (P := P) (f := f) (σ := σ) (k := k) ho hk h1 h2 (.inr hs) hy h3 (le_maxLen h4.1) h4.2 h5
              · rename_i e l lo n hs
                split at h
                · rename_i tt e' xs hsl
                  obtain ⟨⟨h1, h2, rfl, rfl, h3, hlo, h4, h5⟩, h6⟩ := h
                  exact sop_append_vec (P := P) (f := f) (σ := σ) (k := k) ho hk h1 h2 hs hsl h3 hlo h4 hy (le_maxLen h5.1) h5.2 h6
                · exact h.elim
              · exact h.elim
            · exact h.elim
          · exact h.elim
        · exact h.elim
      · rename_i b' hne
        refine mpure_sound (P := P) (f := f) ?_ (by rw [ho]; simp only [opTypes, beq_iff_eq]; simpa using h.1)
        rw [ho]
        simpa [qop] using h.2
    | value x =>
      simp only at h
      split at h
      · rename_i g ms ns hx
        exact sop_call ho hx h
      · exact h.elim
    | invoke r m => exact h.elim
  all_goals first
    | exact mpure_sound (by rw [ho]; exact h) (by rw [ho]; rfl)
    | exact h.elim
def mput (f : FR) (dst : Option Tmp) (v : MV) : FR :=
  match dst with
  | some d => if d < f.n then ⟨f.n, (d, v) :: f.l, f.d⟩ else f
  | none => f
theorem rels_put {Φ : Phi} {a : Act} {f : FR} (hr : FRel Φ a.tmps f) (dst : Option Tmp) {v : Value} {m : MV} (h : Rel Φ v m) : FRel Φ (a.put dst v).tmps (mput f dst m) := by
  cases dst with
  | none => exact hr
  | some d =>
    have e1 := hr.1
    simp only [mput]
    split
    · rename_i hd
      refine ⟨by simp [Act.put, e1], fun t => ?_⟩
      simp only [Act.put, Array.getD_eq_getD_getElem?, Array.getElem?_setIfInBounds, FR.get, lget]
      by_cases ht : t = d
      · subst ht
        rw [if_pos rfl, if_pos rfl, if_pos (show t < a.tmps.size by rw [e1]; exact hd)]
        exact h
      · rw [if_neg (Ne.symm ht), if_neg ht]
        have := hr.2 t
        rwa [Array.getD_eq_getD_getElem?] at this
    · rename_i hd
      refine ⟨by simp [Act.put, e1], fun t => ?_⟩
      have hd' : ¬ d < a.tmps.size := by rw [e1]; exact hd
      have : (a.put (some d) v).tmps = a.tmps := by simp only [Act.put, Array.setIfInBounds, dif_neg hd']
      rw [this]
      exact hr.2 t
theorem put_defers' {a : Act} (dst : Option Tmp) (v : Value) : (a.put dst v).defers = a.defers := by cases dst <;> rfl
theorem rel_undef {Φ : Phi} : Rel Φ undef (.tup []) := .tup rfl (fun i m h => by simp at h)
def mguard (ops : Array Oper) (f : FR) (o : Oper) (yes no : Prop) : Prop :=
  match o.guard with
  | none => yes
  | some (j, want) => match (ops[j]?).bind (·.dst) with
    | some t => match f.get t with
      | .bool b => (b = want → yes) ∧ (b = (!want) → no)
      | .tup [] => no
      | _ => False
    | none => False
theorem mguard_sound {Φ : Phi} {ops : Array Oper} {f : FR} {o : Oper} {yes no : Prop} (h : mguard ops f o yes no) {a : Act} (hr : FRel Φ a.tmps f) :
    (Region.wanted o (yielded ops a.tmps) = true ∧ yes) ∨ (Region.wanted o (yielded ops a.tmps) = false ∧ no) := by
  unfold mguard at h
  unfold Region.wanted
  split at h
  · rename_i hg; rw [hg]; exact .inl ⟨rfl, h⟩
  · rename_i j want hg
    rw [hg]
    simp only
    split at h
    · rename_i t ht
      split at h
      · rename_i b hb
        have hy : yielded ops a.tmps j = some b := by
          unfold yielded
          rw [ht]
          have hrel := hr.2 t
          rw [hb] at hrel
          have hrel := hrel.inv_bool
          have hlt2 : t < a.tmps.size := by
            rcases Nat.lt_or_ge t a.tmps.size with q | q
            · exact q
            · simp [Array.getD_eq_getD_getElem?, Array.getElem?_eq_none q, undef] at hrel
          rw [Array.getD_eq_getD_getElem?, Array.getElem?_eq_getElem hlt2] at hrel
          simp only [Option.getD_some] at hrel
          simp [Array.getElem?_eq_getElem hlt2, hrel]
        rw [hy]
        by_cases hw : b = want
        · left; subst hw; exact ⟨by simp, h.1 rfl⟩
        · right
          have hb' : b = !want := by cases b <;> cases want <;> simp at hw ⊢
          exact ⟨by simp [hw], h.2 hb'⟩
      · rename_i hb
        right
        have hrel := hr.2 t
        rw [hb] at hrel
        obtain ⟨cs, e, hs, _⟩ := hrel.inv_tup
        have hy : yielded ops a.tmps j = none := by
          unfold yielded
          rw [ht]
          rcases Nat.lt_or_ge t a.tmps.size with q | q
          · rw [Array.getD_eq_getD_getElem?, Array.getElem?_eq_getElem q] at e
            simp only [Option.getD_some] at e
            simp [Array.getElem?_eq_getElem q, e]
          · simp [Array.getElem?_eq_none q]
        rw [hy]
        exact ⟨by simp, h⟩
      · exact h.elim
    · exact h.elim
def mdefer (f : FR) (c : Call) (K : FR → Prop) : Prop := match c.callee with
  | .value x => match mval f x with
    | .fn (.func g) ms ns => K ⟨f.n, f.l, (g, ms ++ c.args.toList.map (mval f) ++ ns) :: f.d⟩
    | _ => False
  | _ => False
def mvslice (P : Program) (t : TypeId) (x lo hi : MV) (o : Option MObj) (σ : St) (k : MV → St → Prop) : Prop :=
  match x, lo, hi, o, (td P t).k with
  | .vec e l l0 _, .int _ a, .int _ h, some (.row _ e' xs), .slice el => ((td P el).ok = true ∧ e = (td P el).size ∧ e' = (td P el).size ∧ 0 ≤ a ∧ a ≤ h ∧ l0 + h.toNat ≤ xs.length) ∧ k (.vec e l (l0 + a.toNat) (h.toNat - a.toNat)) σ
  | _, _, _, _, _ => False
def locOf (σ : St) : MV → Option MObj
  | .vec _ l _ _ => σ l
  | _ => none
def beyond : MV → MV → Prop
  | .vec _ _ _ n, .int _ h => (n : Int) < h
  | _, _ => False
instance (x y : MV) : Decidable (beyond x y) := by unfold beyond; split <;> infer_instance
def mclear (P : Program) (t : TypeId) (x : MV) (o : Option MObj) (σ : St) (k : MV → St → Prop) : Prop :=
  match x, o, (td P t).k with
  | .vec e l l0 n, some (.row tt e' xs), .slice el => ((td P el).zok = true ∧ 0 < (td P el).size ∧ e = (td P el).size ∧ e' = (td P el).size ∧ l0 + n ≤ xs.length) ∧ k .junk (σ.set l (.row tt e' (rowLaid xs l0 (List.replicate n (td P el).zero))))
  | _, _, _ => False
def mzapp (P : Program) (t : TypeId) (s x : MV) (σ : St) (k : MV → St → Prop) : Prop :=
  match (td P t).k, s, x with
  | .slice el, .nils, .int .i64 n => ((td P el).zok = true ∧ 0 < (td P el).size ∧ 0 < n ∧ Fits n.toNat (td P el).bytes) ∧ ∀ l, σ l = none → k (.vec (td P el).size l 0 n.toNat) (σ.set l (.row el (td P el).size (List.replicate n.toNat (td P el).zero)))
  | _, _, _ => False
def mapOf (σ : St) : MV → Option MObj
  | .mapv l => σ l
  | _ => none
def minsert (P : Program) (t : TypeId) (m x y : MV) (o : Option MObj) (σ : St) (k : MV → St → Prop) : Prop :=
  match (td P t).k, m, x, o with
  | .map kt _, .mapv l, .int kd n, some (.mp es) => ((td P kt).k = .int kd ∧ (es.all fun p => isK kd p.1) = true) ∧ k .junk (σ.set l (.mp (iput kd n y es)))
  | _, _, _, _ => False
def mlookup (P : Program) (t : TypeId) (m x : MV) (ok : Bool) (o : Option MObj) (σ : St) (k : MV → St → Prop) : Prop :=
  match (td P t).k, m, x, o with
  | .map kt et, .mapv _, .int kd n, some (.mp es) => ((td P kt).k = .int kd ∧ (td P et).zok = true ∧ (es.all fun p => isK kd p.1) = true) ∧ k (if ok = true then .tup [(iget n es).getD (zval (td P et)), .bool (iget n es).isSome] else (iget n es).getD (zval (td P et))) σ
  | _, _, _, _ => False
def mone (b : Bool) (A B : Prop) : Prop := if b = true then A else B
def mstep (P : Program) (f : FR) (σ : St) (dst : Option Tmp) (K : FR → St → Prop) : Op → Prop
  | .defer c => mdefer f c fun f' => K (mput f' dst .junk) σ
  | .makeMap _ none => ∀ l, σ l = none → K (mput f dst (.mapv l)) (σ.set l (.mp []))
  | .insert t m x y => minsert P t (mval f m) (mval f x) (mval f y) (mapOf σ (mval f m)) σ (fun v σ' => K (mput f dst v) σ')
  | .mapUpdate t m x y => minsert P t (mval f m) (mval f x) (mval f y) (mapOf σ (mval f m)) σ (fun v σ' => K (mput f dst v) σ')
  | .lookup t m x ok => mlookup P t (mval f m) (mval f x) ok (mapOf σ (mval f m)) σ (fun v σ' => K (mput f dst v) σ')
  | .slice t x (some y) (some z) none => if beyond (mval f x) (mval f z) then mvslice P t (mval f x) (mval f y) (mval f z) (locOf σ (mval f x)) σ (fun v σ' => K (mput f dst v) σ')
      else mop P f σ (fun v σ' => K (mput f dst v) σ') (.slice t x (some y) (some z) none)
  | .call ⟨.builtin .clear, args, ts⟩ => match args.toList, ts.toList with
    | [x], [t] => mclear P t (mval f x) (locOf σ (mval f x)) σ (fun v σ' => K (mput f dst v) σ')
    | _, _ => False
  | .call ⟨.builtin .append, args, ts⟩ => match args.toList, ts.toList with
    | [s, x], [t, xt] => mone (td P xt).k.isInt (mzapp P t (mval f s) (mval f x) σ (fun v σ' => K (mput f dst v) σ')) (mop P f σ (fun v σ' => K (mput f dst v) σ') (.call ⟨.builtin .append, args, ts⟩))
    | _, _ => False
  | op => mop P f σ (fun v σ' => K (mput f dst v) σ') op
def mops (P : Program) (ops : Array Oper) (K : FR → St → Prop) : List Oper → FR → St → Prop
  | [], f, σ => K f σ
  | o :: rest, f, σ => mguard ops f o (mstep P f σ o.dst (mops P ops K rest) o.op) (mops P ops K rest (mput f o.dst (.tup [])) σ)
theorem mput_d (f : FR) (dst : Option Tmp) (v : MV) : (mput f dst v).d = f.d := by
  unfold mput
  split <;> (try split) <;> rfl
def opPlain : Op → Bool
  | .defer _ | .makeMap _ none | .insert .. | .mapUpdate .. | .lookup .. | .slice _ _ (some _) (some _) none | .call ⟨.builtin .clear, _, _⟩ | .call ⟨.builtin .append, _, _⟩ => false
  | _ => true
theorem mstep_of {P : Program} {f : FR} {σ : St} {dst : Option Tmp} {K : FR → St → Prop} {op : Op} (h : opPlain op = true) : mstep P f σ dst K op = mop P f σ (fun v σ' => K (mput f dst v) σ') op := by
  cases op <;> first | rfl | skip
  case slice t x lo hi mx => cases lo <;> cases hi <;> cases mx <;> first | rfl | (simp [opPlain] at h; done)
  case defer c => simp [opPlain] at h
  case makeMap t r => cases r <;> first | rfl | (simp [opPlain] at h; done)
  case insert => simp [opPlain] at h
  case mapUpdate => simp [opPlain] at h
  case lookup => simp [opPlain] at h
  case call c =>
    obtain ⟨callee, args, ts⟩ := c
    cases callee <;> first | rfl | skip
    rename_i b
    cases b <;> first | rfl | (simp [opPlain] at h; done)
theorem minsert_sound {P : Program} {o : Oper} {f : FR} {σ : St} {k : MV → St → Prop} {t : TypeId} {m x y : Operand} (ho : o.op = .insert t m x y ∨ o.op = .mapUpdate t m x y) (h : minsert P t (mval f m) (mval f x) (mval f y) (mapOf σ (mval f m)) σ k) : sop P o f σ k := by
  unfold minsert at h
  split at h
  · rename_i kt et l kd n es h1 h2 h3 h4
    rw [h2] at h4
    exact sop_insert ho h1 h.1.1 h2 h4 h3 h.1.2 h.2
  · exact h.elim
theorem mlookup_sound {P : Program} {o : Oper} {f : FR} {σ : St} {k : MV → St → Prop} {t : TypeId} {m x : Operand} {ok : Bool} (ho : o.op = .lookup t m x ok) (h : mlookup P t (mval f m) (mval f x) ok (mapOf σ (mval f m)) σ k) : sop P o f σ k := by
  unfold mlookup at h
  split at h
  · rename_i kt et l kd n es h1 h2 h3 h4
    rw [h2] at h4
    exact sop_lookup ho h1 h.1.1 h.1.2.1 h2 h4 h3 h.1.2.2 h.2
  · exact h.elim
theorem mstep_sound {P : Program} {o : Oper} {f : FR} {σ : St} {K : FR → St → Prop} (hd : ∀ c, o.op ≠ .defer c) (h : mstep P f σ o.dst K o.op) : sop P o f σ fun v σ' => K (mput f o.dst v) σ' := by
  by_cases hp : opPlain o.op = true
  · rw [mstep_of hp] at h
    exact mop_sound h
  · cases ho : o.op <;> rw [ho] at h hp <;> (try simp [opPlain] at hp)
    case slice t x lo hi mx =>
      cases lo <;> cases hi <;> cases mx <;> (try simp [opPlain] at hp)
      rename_i y z
      simp only [mstep] at h
      split at h
      · unfold mvslice at h
        split at h
        · rename_i e l l0 n k1 a k2 hh tt e' xs el hx hy hz hl hk
          obtain ⟨⟨h1, rfl, rfl, h3, h4, h5⟩, h6⟩ := h
          rw [hx] at hl
          exact sop_vslice ho hk h1 hx hl hy hz h3 h4 h5 h6
        · exact h.elim
      · rw [← ho] at h
        exact mop_sound h
    case defer c => exact absurd ho (hd c)
    case makeMap t r =>
      cases r <;> (try simp [opPlain] at hp)
      exact sop_makeMap ho h
    case insert t m x y => exact minsert_sound (.inl ho) h
    case mapUpdate t m x y => exact minsert_sound (.inr ho) h
    case lookup t m x ok => exact mlookup_sound ho h
    case call c =>
      obtain ⟨callee, args, ts⟩ := c
      cases callee <;> (try simp [opPlain] at hp)
      rename_i b
      cases b <;> (try simp [opPlain] at hp)
      case append =>
        simp only [mstep] at h
        split at h
        · rename_i s x t xt ha ht
          have ha' : args = #[s, x] := by rw [← Array.toArray_toList (xs := args), ha]
          have ht' : ts = #[t, xt] := by rw [← Array.toArray_toList (xs := ts), ht]
          subst ha'; subst ht'
          unfold mone at h
          split at h
          · rename_i hxt
            unfold mzapp at h
            split at h
            · rename_i el n hk hs hx
              obtain ⟨⟨h1, h2, h3, h4, h5⟩, h6⟩ := h
              exact sop_append_zeros ho hk hxt h1 h2 hs hx h3 h4 h5 h6
            · exact h.elim
          · rw [← ho] at h
            exact mop_sound h
        · exact h.elim
      case clear =>
        simp only [mstep] at h
        split at h
        · rename_i x t ha ht
          have ha' : args = #[x] := by rw [← Array.toArray_toList (xs := args), ha]
          have ht' : ts = #[t] := by rw [← Array.toArray_toList (xs := ts), ht]
          subst ha'; subst ht'
          unfold mclear at h
          split at h
          · rename_i e l l0 n tt e' xs el hx hl hk
            obtain ⟨⟨h1, h2, rfl, rfl, h3⟩, h4⟩ := h
            rw [hx] at hl
            exact sop_clear ho hk h1 h2 hx hl h3 h4
          · exact h.elim
        · exact h.elim
theorem rels_app {Φ : Phi} {x y : Array Value} {m n : List MV} (h1 : Rels Φ x m) (h2 : Rels Φ y n) : Rels Φ (x ++ y) (m ++ n) := by
  refine ⟨by simp [h1.1, h2.1], fun i q hq => ?_⟩
  have e1 := h1.1
  by_cases h : i < m.length
  · rw [List.getElem?_append_left h] at hq
    have := h1.2 i q hq
    simpa [Array.getD_eq_getD_getElem?, Array.getElem?_append_left (show i < x.size by omega)] using this
  · rw [List.getElem?_append_right (by omega)] at hq
    have := h2.2 _ q hq
    simpa [Array.getD_eq_getD_getElem?, Array.getElem?_append_right (show x.size ≤ i by omega), e1] using this
theorem mdefer_sound {P : Program} {o : Oper} {c : Call} (ho : o.op = .defer c) {f : FR} {K : FR → Prop} (h : mdefer f c K) {Φ : Phi} {a : Act} {w : World} (hr : FRel Φ a.tmps f) (hd : DRel Φ w a.defers f.d) :
    ∃ d f', (execOp a.eval o).run P w = .ok (.defer d) w ∧ FRel Φ a.tmps f' ∧ DRel Φ w (d :: a.defers) f'.d ∧ K f' := by
  unfold mdefer at h
  obtain ⟨callee, args, ts⟩ := c
  simp only at h
  split at h
  · rename_i x
    split at h
    · rename_i g ms ns hx
      have rx := rel_mval hr x
      rw [hx] at rx
      obtain ⟨first, cap, he, r1, r2⟩ := rx.inv_fn
      refine ⟨⟨.fn (.func g) cap, first ++ args.map a.eval⟩, _, ?_, ?_, ?_, h⟩
      · unfold execOp
        simp only [ho, resolve, he, Deferred.ofValue, Sem.run_bind, Sem.run_pure, Result.andThen_ok]
      · exact hr
      · exact .inr ⟨_, _, _, cap, rfl, rfl, rels_app (rels_app r1 (rels_map hr args)) r2, hd⟩
    · exact h.elim
  · exact h.elim
theorem rowsIn_wide' {F : Fence} (hF : F = Fence.wide ∨ ∃ l, F = Fence.wide.inRound l) {n : Nat} {P : Program} {row : String} {args : Array Value} {w : World} {R : Value → World → Prop} (h : Rows P row args w R) : RowsIn F n P row args w R := by
  intro c cs _
  obtain ⟨v, w', r, s⟩ := h c cs
  refine ⟨v, w', r, ?_⟩
  rcases hF with rfl | ⟨l, rfl⟩
  · exact stepsIn_wide.2 s
  · rw [fenced_inRound]; exact stepsIn_wide.2 s
theorem callsIn_wide' {F : Fence} (hF : F = Fence.wide ∨ ∃ l, F = Fence.wide.inRound l) {n : Nat} {P : Program} {f : FuncId} {args : Array Value} {w : World} {R : Ending → World → Prop} (h : Calls P f args w R) : CallsIn F n P f args w R := by
  rcases hF with rfl | ⟨l, rfl⟩
  · exact callsIn_wide.2 h
  · exact CallsIn.inRound l (callsIn_wide.2 h)
theorem wpIn_of_wp {F : Fence} {n : Nat} {P : Program} {o : Oper} {a : Act} {w : World} {K : Act → World → Prop} {Q : Exit → Act → World → Prop}
    (hF : F = Fence.wide ∨ ∃ l, F = Fence.wide.inRound l ∧ ∀ c, o.op ≠ .defer c) (h : o.wp P a w K Q) : o.wpIn F n P a w K Q := by
  have hF' : F = Fence.wide ∨ ∃ l, F = Fence.wide.inRound l := hF.imp id fun ⟨l, e, _⟩ => ⟨l, e⟩
  have hfn : ∀ g, F.fn g := fun g => by rcases hF' with rfl | ⟨l, rfl⟩ <;> trivial
  have hd : F.depth.isSome = true → 1 ≤ n := fun q => by rcases hF' with rfl | ⟨l, rfl⟩ <;> cases q
  have hs : o.semAt F.round a.eval = execOp a.eval o := by
    rcases hF with rfl | ⟨l, rfl, hc⟩
    · exact Oper.semAt_none _ _
    · exact Oper.semAt_eq _ _ _ hc
  refine ⟨fun f _ => hfn f, ?_⟩
  rw [hs]
  unfold Oper.wp at h
  generalize (execOp a.eval o).run P w = r at h ⊢
  cases r with
  | ok x w' =>
    cases x with
    | value v => exact h
    | skip => exact h
    | defer d => exact h
    | enter f args => exact ⟨hd, (callsIn_wide' hF' h).mono fun e w'' q => by cases e <;> exact q⟩
    | row row args => exact ⟨hd, rowsIn_wide' hF' h⟩
    | _ => exact h.elim
  | halt x w' =>
    cases x with
    | panic v => exact h
    | _ => exact h.elim
theorem mops_sound {P : Program} {ops : Array Oper} {Q : MQ} {Φ0 : Phi} {σ0 : St} {w0 : World} {F : Fence} : ∀ (l : List Oper), (F = Fence.wide ∨ ∃ l0, F = Fence.wide.inRound l0 ∧ ∀ o, o ∈ l → ∀ c, o.op ≠ .defer c) → ∀ (f : FR) (σ : St) (Φ : Phi) (w : World) (a : Act), mops P ops (Q .normal) l f σ → Inv Φ w σ → FRel Φ a.tmps f → DRel Φ w a.defers f.d →
    Step Φ0 σ0 w0 Φ σ w → wpListIn F 0 P ops (lift Φ0 σ0 w0 Q) l a w := by
  intro l
  induction l with
  | nil => intro _ f σ Φ w a h hi hr hd hs; exact ⟨f, σ, Φ, hd, hr, hi, hs, h⟩
  | cons o rest ih =>
    intro hF f σ Φ w a h hi hr hd hs
    have hFr : F = Fence.wide ∨ ∃ l0, F = Fence.wide.inRound l0 ∧ ∀ o, o ∈ rest → ∀ c, o.op ≠ .defer c := hF.imp id fun ⟨l0, e, q⟩ => ⟨l0, e, fun o ho => q o (by simp [ho])⟩
    have hFo : F = Fence.wide ∨ ∃ l0, F = Fence.wide.inRound l0 ∧ ∀ c, o.op ≠ .defer c := hF.imp id fun ⟨l0, e, q⟩ => ⟨l0, e, q o (by simp)⟩
    have hfn : ∀ g, F.fn g := fun g => by rcases hF with rfl | ⟨l, rfl, _⟩ <;> trivial
    simp only [mops] at h
    unfold wpListIn
    rcases mguard_sound h hr with ⟨hw, hy⟩ | ⟨hw, hn⟩
    · rw [if_pos hw]
      refine wpIn_of_wp hFo ?_
      by_cases hdef : ∃ c, o.op = .defer c
      · obtain ⟨c, hc⟩ := hdef
        rw [hc] at hy
        have hy : mdefer f c fun f' => mops P ops (Q .normal) rest (mput f' o.dst .junk) σ := hy
        obtain ⟨d, f', h1, h2, h3, h4⟩ := mdefer_sound (P := P) (w := w) hc hy hr hd
        unfold Oper.wp
        rw [h1]
        refine ih hFr _ _ Φ w _ h4 hi (rels_put (a := { a with defers := d :: a.defers }) h2 o.dst (.junk _)) ?_ hs
        rw [put_defers', mput_d]
        exact h3
      · exact mstep_sound (fun c hc => hdef ⟨c, hc⟩) hy Φ w a _ _ hi hr (fun v mv σ' Φ' w' r1 i1 s1 hk => ih hFr _ _ Φ' w' (a.put o.dst v) hk i1 (rels_put (hr.mono s1.le) o.dst r1) (by rw [put_defers', mput_d]; exact hd.step hi s1) (hs.trans s1))
    · rw [if_neg (by simp [hw])]
      exact ⟨fun f _ => hfn f, ih hFr _ _ Φ w (a.put o.dst undef) hn hi (rels_put hr o.dst rel_undef) (by rw [put_defers', mput_d]; exact hd) hs⟩
theorem FOk.ops {F : Fence} {id : Nat} {ops : Array Oper} {dr : Bool} (h : FOk F (.region id ops dr)) : F = Fence.wide ∨ ∃ l0, F = Fence.wide.inRound l0 ∧ ∀ o, o ∈ ops.toList → ∀ c, o.op ≠ .defer c :=
  Or.imp (fun q => q) (fun ⟨l0, e, q⟩ => ⟨l0, e, fun o ho c hc => by
    have := List.all_eq_true.1 q o ho
    rw [hc] at this
    cases this⟩) h
theorem mwp_region {P : Program} {id : Nat} {ops : Array Oper} {f : FR} {σ : St} {Q : MQ} (h : mops P ops (Q .normal) ops.toList f σ) : mwp P (.region id ops false) f σ Q :=
  fun F hF Φ w a hi hr hd => wpIn_region_list (mops_sound ops.toList hF.ops f σ Φ w a h hi hr hd (.refl _ _ _))
def mresult1 (P : Program) (f : FR) (σ : St) : ResultVar → (MV → Prop) → Prop
  | .tmp t, k => k (f.get t)
  | .cell a t, k => mload P t (f.get a) σ (fun v _ => k v)
def mresults (P : Program) (f : FR) (σ : St) : List ResultVar → (List MV → Prop) → Prop
  | [], k => k []
  | r :: rs, k => mresult1 P f σ r fun v => mresults P f σ rs fun vs => k (v :: vs)
def oneOf : List MV → MV
  | [v] => v
  | vs => .tup vs
def MDefers (P : Program) (g : FuncId) (ms : List MV) (σ : St) (Q : St → Prop) : Prop :=
  ∃ fn, P.funcs[g]? = some fn ∧ fn.body.isNone = false ∧ (fn.name == "runtime.NumGoroutine") = false ∧
    ∀ Φ w vs, Inv Φ w σ → Rels Φ vs ms → CallsD P g vs .returning w fun e u' w' => u' = .returning ∧ ∃ v σ' Φ', e = .returned v ∧ Inv Φ' w' σ' ∧ Step Φ σ w Φ' σ' w' ∧ Q σ'
def mleave (P : Program) (n : Nat) (l : List (Nat × MV)) (rs : List ResultVar) (Q : MV → St → Prop) : List (FuncId × List MV) → St → Prop
  | [], σ => mresults P ⟨n, l, []⟩ σ rs fun vs => Q (oneOf vs) σ
  | (g, ms) :: d, σ => MDefers P g ms σ fun σ' => mleave P n l rs Q d σ'
def retQ (P : Program) (rs : List ResultVar) (Q : MV → St → Prop) : MQ
  | .normal, f, σ | .ret, f, σ => mleave P f.n f.l rs Q f.d σ
  | _, _, _ => False
theorem mload_run {P : Program} {t : TypeId} {x : MV} {σ : St} {k : MV → St → Prop} (h : mload P t x σ k) {Φ : Phi} {w : World} (hi : Inv Φ w σ) {v : Value} (r : Rel Φ v x) : ∃ ad u m, v = .pointer (some ad) ∧ (loadVar t ad).run P w = .ok u w ∧ Rel Φ u m ∧ k m σ := by
  unfold mload at h
  split at h
  · rename_i l i of
    split at h
    · rename_i tt e xs hs
      obtain ⟨⟨hok, hi', h1, h0⟩, hk⟩ := h
      obtain ⟨p, R, hp, hR, he⟩ := r.inv_ptr
      obtain ⟨p', hp', hpe, hlen, R', hR', hcells⟩ := (hi.own l _ hs).elem (getD_of hi' (d := []))
      rw [hp] at hp'; cases hp'
      rw [hR] at hR'; cases hR'
      obtain ⟨v2, hv, hrel⟩ := run_loadVar' (P := P) (Φ := Φ) (w := w) (t := t) (b := R) (off := p.bo + i * p.e + of) (ms := (xs.getD i []).drop of) hok (by rw [List.length_drop]; omega) h0 (fun j m hm => by
        rw [List.getElem?_drop] at hm
        have := hcells _ m hm
        rw [Nat.add_assoc (p.bo + i * p.e), hpe]
        exact this)
      have e2 : mpart (td P t) ((xs.getD i []).drop of) 0 = mpart (td P t) (xs.getD i []) of := by
        unfold mpart
        simp [List.getD, List.getElem?_drop]
      rw [e2] at hrel
      exact ⟨_, v2, _, he, hv, hrel, hk⟩
    · exact h.elim
  · rename_i cs
    obtain ⟨⟨hok, h1, h0⟩, hk⟩ := h
    obtain ⟨b, off, vs, he, hc, hrr⟩ := r.inv_cptr
    obtain ⟨v2, hv, hrel⟩ := run_loadVar' (P := P) (Φ := Φ) (w := w) (t := t) (b := b) (off := off) (ms := cs) hok h1 h0 (fun j m hm => ⟨(hc j m hm).1, vs j, hi.snap _ _ (hc j m hm).2, hrr j m hm⟩)
    exact ⟨_, v2, _, he, hv, hrel, hk⟩
  · exact h.elim
theorem rel_getD {Φ : Phi} {tmps : Array Value} {f : FR} (hr : FRel Φ tmps f) (t : Nat) : Rel Φ (tmps.getD t undef) (f.get t) := hr.2 t
def resOf (tmps : Array Value) : ResultVar → Sem Value
  | .tmp t => pure (tmps.getD t undef)
  | .cell a t => do loadVar t (← asAddr (tmps.getD a undef))
theorem results_eq (fn : Func) (tmps : Array Value) : results fn tmps = (do
    let vs ← fn.results.mapM (resOf tmps)
    pure (if h : vs.size = 1 then vs[0] else .tuple vs)) := rfl
theorem mresults_run {P : Program} {f : FR} {σ : St} {Φ : Phi} {w : World} (hi : Inv Φ w σ) {tmps : Array Value} (hr : FRel Φ tmps f) : ∀ (rs : List ResultVar) (k : List MV → Prop), mresults P f σ rs k →
    ∃ vs ms, (rs.mapM (m := Sem) (resOf tmps)).run P w = .ok vs w ∧ vs.length = ms.length ∧ (∀ (i : Nat) v m, vs[i]? = some v → ms[i]? = some m → Rel Φ v m) ∧ k ms := by
  intro rs
  induction rs with
  | nil => intro k h; exact ⟨[], [], by simp, rfl, by simp, h⟩
  | cons r rs ih =>
    intro k h
    simp only [mresults] at h
    cases r with
    | tmp t =>
      obtain ⟨vs, ms, h1, h2, h3, h4⟩ := ih _ h
      refine ⟨tmps.getD t undef :: vs, f.get t :: ms, ?_, by simp [h2], fun i v m hv hm => ?_, h4⟩
      · rw [List.mapM_cons]
        simp only [resOf, Sem.run_bind, Sem.run_pure, Result.andThen_ok]
        rw [h1]
        rfl
      · cases i with
        | zero => simp only [List.getElem?_cons_zero, Option.some.injEq] at hv hm; subst hv; subst hm; exact rel_getD hr t
        | succ i => exact h3 i v m (by simpa using hv) (by simpa using hm)
    | cell a t =>
      simp only [mresult1] at h
      obtain ⟨ad, u, m1, he, hl, hrel, hk⟩ := mload_run h hi (rel_getD hr a)
      obtain ⟨vs, ms, h1, h2, h3, h4⟩ := ih _ hk
      refine ⟨u :: vs, m1 :: ms, ?_, by simp [h2], fun i v m hv hm => ?_, h4⟩
      · rw [List.mapM_cons]
        simp only [resOf, Sem.run_bind, he, asAddr, Sem.run_pure, Result.andThen_ok, hl]
        rw [h1]
        rfl
      · cases i with
        | zero => simp only [List.getElem?_cons_zero, Option.some.injEq] at hv hm; subst hv; subst hm; exact hrel
        | succ i => exact h3 i v m (by simpa using hv) (by simpa using hm)
theorem results_run {P : Program} {fn : Func} {f : FR} {σ : St} {Φ : Phi} {w : World} (hi : Inv Φ w σ) {tmps : Array Value} (hr : FRel Φ tmps f) {Q : MV → St → Prop} (h : mresults P f σ fn.results.toList fun vs => Q (oneOf vs) σ) :
    ∃ v m, (results fn tmps).run P w = .ok v w ∧ Rel Φ v m ∧ Q m σ := by
  obtain ⟨vs, ms, h1, h2, h3, h4⟩ := mresults_run (P := P) hi hr fn.results.toList _ h
  have hm : ∃ va : Array Value, (fn.results.mapM (m := Sem) (resOf tmps)).run P w = .ok va w ∧ va.toList = vs := by
    rw [← Array.toList_mapM] at h1
    simp only [Sem.run_map] at h1
    generalize hg : (fn.results.mapM (m := Sem) (resOf tmps)).run P w = res at h1 ⊢
    cases res with
    | halt x w' => simp at h1
    | ok va w' =>
      simp only [Result.andThen_ok, Result.ok.injEq] at h1
      obtain ⟨h1, rfl⟩ := h1
      exact ⟨va, rfl, h1⟩
  obtain ⟨va, hva, rfl⟩ := hm
  by_cases hs : va.size = 1
  · match ms, h2 with
    | [m], h2 =>
      refine ⟨va[0], m, ?_, h3 0 _ m (by simp [hs]) rfl, h4⟩
      rw [results_eq]
      simp only [Sem.run_bind, hva, Result.andThen_ok, Sem.run_pure, dif_pos hs]
    | [], h2 => simp [hs] at h2
    | _ :: _ :: _, h2 => simp [hs] at h2
  · refine ⟨.tuple va, oneOf ms, ?_, ?_, h4⟩
    · rw [results_eq]
      simp only [Sem.run_bind, hva, Result.andThen_ok, Sem.run_pure, dif_neg hs]
    · have : oneOf ms = .tup ms := by
        match ms, h2 with
        | [], _ => rfl
        | [m], h2 => exact absurd (by simpa using h2) hs
        | _ :: _ :: _, _ => rfl
      rw [this]
      refine .tup (by simpa using h2) (fun i m hm' => ?_)
      have hlt : i < va.size := by have := (List.getElem?_eq_some_iff.1 hm').1; simp at h2; omega
      have hv : va.toList[i]? = some (va.getD i undef) := by
        rw [Array.getElem?_toList]
        simp [Array.getD_eq_getD_getElem?, Array.getElem?_eq_getElem hlt]
      exact h3 i _ m hv hm'
def args0 : Nat → List MV → List (Nat × MV)
  | _, [] => []
  | i, m :: ms => (i, m) :: args0 (i + 1) ms
theorem args0_get : ∀ (ms : List MV) (i t : Nat), lget (args0 i ms) t = if i ≤ t then (ms[t - i]?).getD .junk else .junk := by
  intro ms
  induction ms with
  | nil => intro i t; simp [args0, lget]
  | cons m ms ih =>
    intro i t
    simp only [args0, lget, ih]
    by_cases h : t = i
    · subst h; simp
    · rw [if_neg h]
      by_cases h2 : i ≤ t
      · obtain ⟨k, rfl⟩ : ∃ k, t = i + 1 + k := ⟨t - (i + 1), by omega⟩
        rw [if_pos (by omega), if_pos h2, show i + 1 + k - (i + 1) = k from by omega, show i + 1 + k - i = k + 1 from by omega]
        rfl
      · rw [if_neg (by omega), if_neg h2]
def LeavesM (P : Program) (fn : Func) (tmps : Array Value) (R : Ending → World → Prop) : List Deferred → World → Prop
  | [], w => ∃ v, (results fn tmps).run P w = .ok v w ∧ R (.returned v) w
  | d :: ds, w => (∃ r w', d.target = .collected r ∧ (Instr.takeDeferred r).run P w = .ok [] w' ∧ LeavesM P fn tmps R ds w') ∨
      ∃ fv cap f args, d.target = .fn fv cap ∧ (invoke d.target d.args).run P w = .ok (.enter f args) w ∧ CallsD P f args .returning w fun e u' w' => (∃ v, e = .returned v) ∧ u' = .returning ∧ LeavesM P fn tmps R ds w'
theorem leavesM_steps {P : Program} {fn : Func} {tmps : Array Value} {R : Ending → World → Prop} : ∀ (ds : List Deferred) (w : World) (fr : Frame) (cs : List Frame), fr.mode = .returning → fr.defers = ds → fr.tmps = tmps → P.funcs[fr.fn]? = some fn → fr.kind = .normal →
    LeavesM P fn tmps R ds w → ∃ e w' fr', R e w' ∧ Comes P (lone fr cs w) (lone fr' cs w') e ∧ fr'.fn = fr.fn ∧ fr'.leaving P w' e := by
  intro ds
  induction ds with
  | nil =>
    intro w fr cs hu hd ht hf hk h
    obtain ⟨v, hr, hR⟩ := h
    exact ⟨.returned v, w, fr, hR, Steps.refl P _, rfl, hu, hd, hk, fn, hf, ht ▸ hr⟩
  | cons d ds ih =>
    intro w fr cs hu hd ht hf hk h
    have hrun : fr.mode ≠ .run := by rw [hu]; simp
    rcases h with ⟨r, w', h1, h2, h3⟩ | ⟨fv, cap, f, args, h1, h2, h3⟩
    · have s1 := step_collected (cs := cs) hrun hd h1 h2
      obtain ⟨e, w2, fr', q1, q2, q3, q4⟩ := ih w' { fr with defers := [] ++ ds } cs hu rfl ht hf hk h3
      exact ⟨e, w2, fr', q1, Comes.of_steps (.one s1) q2, q3, q4⟩
    · have s1 := step_defer (cs := cs) hrun hd h1 h2
      obtain ⟨e, u', w', frX, hR, hsteps, hkX, hgo⟩ := h3 { fr with defers := ds } cs hu
      obtain ⟨⟨v, rfl⟩, rfl, hR⟩ := hR
      have s2 := step_going_returned (c := { { fr with defers := ds } with mode := .returning }) (cs := cs) hkX hgo
      obtain ⟨e, w2, fr', q1, q2, q3, q4⟩ := ih w' { { { fr with defers := ds } with mode := .returning } with mode := settle .returning } cs rfl rfl ht hf hk hR
      exact ⟨e, w2, fr', q1, Comes.of_steps (.head s1 (Steps.trans hsteps (.one s2))) q2, q3, q4⟩
theorem calls_of_wpM {P : Program} {f : FuncId} {fn : Func} {c : Code} {args : Array Value} {w : World} {R : Ending → World → Prop} (hf : P.funcs[f]? = some fn) (hb : fn.body = some c)
    (h : c.wp P (fun e a w => (e = .normal ∨ e = .ret) ∧ LeavesM P fn a.tmps R a.defers w) { tmps := args ++ Array.replicate (fn.ntmps - args.size) undef, defers := [] } w) : Calls P f args w R := by
  intro cs
  let b : Frame := { (default : Frame) with fn := f, kind := .normal }
  have henter : Frame.enter P f args .normal = b.at { tmps := args ++ Array.replicate (fn.ntmps - args.size) undef, defers := [] } [.code c] := by
    simp [Frame.enter, Frame.at, hf, hb, b]
  obtain ⟨e, a', w', ⟨he, hq⟩, harr⟩ := h b [] cs
  rw [← henter] at harr
  rcases he with rfl | rfl
  · obtain ⟨e', w'', fr', hR, hs, hfn, hl⟩ := leavesM_steps a'.defers w' { b.at a' [] with mode := .returning } cs rfl rfl rfl hf rfl hq
    exact ⟨e', w'', fr', hR, Comes.of_steps (Steps.trans harr (.one step_end)) hs, hfn, hl⟩
  · obtain ⟨todo, hs₀⟩ := harr
    obtain ⟨e', w'', fr', hR, hs, hfn, hl⟩ := leavesM_steps a'.defers w' { b.at a' todo with mode := .returning } cs rfl rfl rfl hf rfl hq
    exact ⟨e', w'', fr', hR, Comes.of_steps hs₀ hs, hfn, hl⟩
theorem Inv.putObj {Φ : Phi} {w : World} {σ : St} (hi : Inv Φ w σ) {D : Nat} {o : Obj} (o' : Obj) (hD : w.heap[D]? = some o) (h : ∀ c t fz, o ≠ .cells c t fz) (h' : ∀ c k, o ≠ .map c k) : Inv Φ (w.putObj D o') σ := by
  have hno : ¬ Owned Φ σ D := hi.notOwned (fun c t fz e => h c t fz (by rw [hD] at e; exact Option.some.inj e)) (fun c k e => h' c k (by rw [hD] at e; exact Option.some.inj e))
  refine ⟨fun l ob hl => (hi.own l ob hl).mono (.refl _) fun p R h1 h2 => World.putObj_heap_other fun e => hno ⟨l, ob, p, hl, h1, e ▸ h2⟩, hi.inj, fun a v hv => ?_, hi.apart, hi.fresh⟩
  have hc := hi.snap a v hv
  rw [← hc]
  refine World.cell?_heap (World.putObj_heap_other fun e => ?_)
  rw [World.cell?, e, hD] at hc
  cases o with
  | cells c t fz => exact h _ _ _ rfl
  | map c k => exact h' _ _ rfl
  | _ => simp at hc
theorem leaves_of {P : Program} {fn : Func} {tmps : Array Value} {n : Nat} {l : List (Nat × MV)} {Q : MV → St → Prop} {Φ0 : Phi} {σ0 : St} {w0 : World} (h0 : Φ0.base = w0.heap.size) :
    ∀ (ds : List Deferred) (d : List (FuncId × List MV)) (Φ : Phi) (w : World) (σ : St), DRel Φ w ds d → FRel Φ tmps ⟨n, l, []⟩ → Inv Φ w σ → Step Φ0 σ0 w0 Φ σ w → mleave P n l fn.results.toList Q d σ →
    LeavesM P fn tmps (fun e w' => ∃ v mv σ' Φ', e = .returned v ∧ Rel Φ' v mv ∧ Inv Φ' w' σ' ∧ Step Φ0 σ0 w0 Φ' σ' w' ∧ Q mv σ') ds w := by
  intro ds
  induction ds with
  | nil =>
    intro d Φ w σ hd hr hi hs h
    obtain ⟨rfl, -⟩ := hd
    obtain ⟨v, m, h1, h2, h3⟩ := results_run (P := P) (fn := fn) hi hr h
    exact ⟨v, h1, v, m, σ, Φ, rfl, h2, hi, hs, h3⟩
  | cons x ds ih =>
    intro d Φ w σ hd hr hi hs h
    rcases hd with ⟨D, h1, h2, h3, h4, h5⟩ | ⟨g, ms, r, cap, rfl, h1, h2, h3⟩
    · refine .inl ⟨D, _, h1, run_takeDeferred h3, ?_⟩
      have hi' := hi.putObj (.deferred none) h3 (fun _ _ _ e => by cases e) (fun _ _ e => by cases e)
      have hDb : w0.heap.size ≤ D := by rw [← h0, ← hs.le.base]; exact h2
      have hs' : Step Φ0 σ0 w0 Φ σ (w.putObj D (.deferred none)) :=
        ⟨hs.le, hs.os, hs.tape, hs.output, hs.drawn, by rw [World.putObj_size]; exact hs.size, fun k hk hn => (World.putObj_heap_other (by omega)).trans (hs.block k hk hn), hs.snapn, hs.locs, hs.ownd⟩
      refine ih d Φ _ σ ?_ hr hi' hs' h
      have : ∀ (xs : List Deferred) (d : List (FuncId × List MV)), (∀ y, y ∈ xs → y.target ≠ .collected D) → DRel Φ w xs d → DRel Φ (w.putObj D (.deferred none)) xs d := by
        intro xs
        induction xs with
        | nil => intro d _ h; exact ⟨h.1, by rw [World.putObj_size]; exact h.2⟩
        | cons y xs ihx =>
          intro d hy h
          rcases h with ⟨D', k1, k2, k3, k4, k5⟩ | ⟨g, ms, r, cap, k1, k2, k3, k4⟩
          · refine .inl ⟨D', k1, k2, ?_, k4, ihx d (fun z hz => hy z (by simp [hz])) k5⟩
            rw [World.putObj_heap_other]
            · exact k3
            · intro e; exact hy y (by simp) (by rw [k1, e])
          · exact .inr ⟨g, ms, r, cap, k1, k2, k3, ihx r (fun z hz => hy z (by simp [hz])) k4⟩
      exact this ds d h4 h5
    · obtain ⟨fn', hf, hb, hn, hc⟩ := h
      obtain ⟨t, ags⟩ := x
      simp only at h1 h2
      subst h1
      refine .inr ⟨.func g, cap, g, ags ++ cap, rfl, ?_, ?_⟩
      · simp only [invoke, callFunc, Sem.run_bind, run_program, hf, hn, hb, Result.andThen_ok, Bool.false_eq_true, if_false, Sem.run_pure]
      · intro c cs hcu
        obtain ⟨e, u', w', fr, ⟨rfl, v, σ', Φ', rfl, i1, s1, q⟩, q2, q3, q4⟩ := hc Φ w _ hi h2 c cs hcu
        exact ⟨_, _, w', fr, ⟨⟨v, rfl⟩, rfl, ih r Φ' w' σ' (h3.step hi s1) (hr.mono s1.le) i1 (hs.trans s1) q⟩, q2, q3, q4⟩
theorem body_post {P : Program} {fn : Func} {Q : MV → St → Prop} {Φ0 : Phi} {σ0 : St} {w0 : World} {e : Exit} {a' : Act} {w' : World} (h0 : Φ0.base = w0.heap.size)
    (h : lift Φ0 σ0 w0 (retQ P fn.results.toList Q) e a' w') : (e = .normal ∨ e = .ret) ∧ LeavesM P fn a'.tmps (fun e w' => ∃ v mv σ' Φ', e = .returned v ∧ Rel Φ' v mv ∧ Inv Φ' w' σ' ∧ Step Φ0 σ0 w0 Φ' σ' w' ∧ Q mv σ') a'.defers w' := by
  obtain ⟨f', σ', Φ', x1, x2, x3, x4, q⟩ := h
  obtain ⟨n, l, d⟩ := f'
  cases e with
  | normal => exact ⟨.inl rfl, leaves_of h0 _ d Φ' w' σ' x1 x2 x3 x4 q⟩
  | ret => exact ⟨.inr rfl, leaves_of h0 _ d Φ' w' σ' x1 x2 x3 x4 q⟩
  | _ => exact q.elim
theorem frel_args {Φ : Phi} {fn : Func} {vs : Array Value} {ms : List MV} (hr : Rels Φ vs ms) : FRel Φ (vs ++ Array.replicate (fn.ntmps - vs.size) undef) ⟨max fn.ntmps ms.length, args0 0 ms, []⟩ := by
  refine ⟨by simp [hr.1]; omega, fun t => ?_⟩
  simp only [FR.get, args0_get, Nat.sub_zero, Nat.zero_le, if_true]
  cases hm : ms[t]? with
  | none => exact .junk _
  | some m =>
    have hlt := (List.getElem?_eq_some_iff.1 hm).1
    have e1 := hr.1
    have := hr.2 t m hm
    simpa [Array.getD_eq_getD_getElem?, Array.getElem?_append_left (show t < vs.size by omega)] using this
def Phi.rebase (Φ : Phi) (n : Nat) : Phi := { Φ with base := n }
theorem Rel.rebase {Φ : Phi} {v : Value} {m : MV} (h : Rel Φ v m) (n : Nat) : Rel (Φ.rebase n) v m := Rel.mono2 (Φ := Φ) (Φ' := Φ.rebase n) (fun _ _ q => q) (fun _ _ q => q) h
theorem Inv.rebase {Φ : Phi} {w : World} {σ : St} (hi : Inv Φ w σ) (n : Nat) : Inv (Φ.rebase n) w σ := by
  refine ⟨fun l o hl => ?_, hi.inj, hi.snap, hi.apart, hi.fresh⟩
  have := hi.own l o hl
  cases o with
  | row t e xs =>
    obtain ⟨p, h1, h2, h3, h4, h5, h6⟩ := this
    refine ⟨p, h1, h2, h3, h4, h5, ?_⟩
    split
    · rename_i hb; rw [hb] at h6; exact h6
    · rename_i R hb
      rw [hb] at h6
      obtain ⟨c, fz, k1, k2, k3, k4⟩ := h6
      exact ⟨c, fz, k1, k2, k3, fun i x j m hx hm => ⟨(k4 i x j m hx hm).1, (k4 i x j m hx hm).2.imp fun v hv => ⟨hv.1, hv.2.rebase n⟩⟩⟩
  | mp es =>
    obtain ⟨p, R, h1, h2, c, k, h3, h4, h5⟩ := this
    exact ⟨p, R, h1, h2, c, k, h3, h4, fun i x hx => ⟨(h5 i x hx).1.rebase n, (h5 i x hx).2.rebase n⟩⟩
theorem Step.rebase {Φ Φ' : Phi} {σ σ' : St} {w w' : World} {n : Nat} (h : Step (Φ.rebase n) σ w Φ' σ' w') : Step Φ σ w (Φ'.rebase Φ.base) σ' w' :=
  ⟨⟨h.le.snap, h.le.obj, rfl⟩, h.os, h.tape, h.output, h.drawn, h.size, h.block, h.snapn, h.locs, h.ownd⟩
theorem MCalls.of_body {P : Program} {g : FuncId} {fn : Func} {c : Code} {ms : List MV} {σ : St} {Q : MV → St → Prop} (n : Nat) (rs : List ResultVar) (hf : P.funcs[g]? = some fn) (hb : fn.body = some c) (hn : (fn.name == "runtime.NumGoroutine") = false)
    (hn' : max fn.ntmps ms.length = n) (hrs : fn.results.toList = rs) (h : mwp P c ⟨n, args0 0 ms, []⟩ σ (retQ P rs Q)) : MCalls P g ms σ Q := by
  subst hn'; subst hrs
  refine ⟨⟨fn, hf, by simp [hb], hn⟩, fun Φ w vs hi hr => ?_⟩
  have hr' : Rels (Φ.rebase w.heap.size) vs ms := ⟨hr.1, fun i m hm => (hr.2 i m hm).rebase _⟩
  refine (calls_of_wpM hf hb (wp_mono (wpIn_wide.1 (h _ .wide (Φ.rebase w.heap.size) w { tmps := vs ++ Array.replicate (fn.ntmps - vs.size) undef, defers := [] } (hi.rebase _) (frel_args hr') ⟨rfl, Nat.le_refl _⟩)) fun e a' w' hq => body_post rfl hq)).mono ?_
  rintro e w' ⟨v, mv, σ', Φ', q1, q2, q3, q4, q5⟩
  exact ⟨v, mv, σ', Φ'.rebase Φ.base, q1, q2.rebase _, q3.rebase _, q4.rebase, q5⟩
theorem MCalls.ghost {P : Program} {g : FuncId} {ms : List MV} {σ : St} {Q : MV → St → Prop} (h : MCalls P g ms σ fun v σ' => ∃ v1 σ1, Ghost ⟨1, [(0, v)], []⟩ σ' ⟨1, [(0, v1)], []⟩ σ1 ∧ Q v1 σ1) : MCalls P g ms σ Q := by
  refine ⟨h.1, fun Φ w vs hi hr => (h.2 Φ w vs hi hr).mono ?_⟩
  rintro e w' ⟨v, mv, σ', Φ', rfl, q1, q2, q3, v1, σ1, g, hq⟩
  obtain ⟨Φ1, i1, r1, s1⟩ := g.2 Φ' w' #[v] q2 ⟨rfl, fun t => by
    simp only [FR.get, lget]
    split
    · rename_i ht; subst ht; exact q1
    · exact .junk _⟩
  exact ⟨v, v1, σ1, Φ1, rfl, by simpa [FR.get, lget] using r1.2 0, i1, q3.trans s1, hq⟩
end Go.Proofs.YtjljgahfkcdhfaaGreatDoor
end

section
namespace Go.Proofs.YtjljgahfkcdhfaaGreatDoor
def E {α : Sort _} (x : α) : α := x
theorem E_eq {α : Sort _} (x : α) : E x = x := rfl
def R (p : Prop) : Prop := p
theorem R_true : R True = True := rfl
theorem R_eq {α : Sort _} {a b : α} : R (a = b) = (a = b) := rfl
theorem R_and {a b : Prop} : R (a ∧ b) = (R a ∧ R b) := rfl
theorem R_ex {α : Sort _} {p : α → Prop} : R (∃ x, p x) = ∃ x, R (p x) := rfl
theorem R_not {p : Prop} : R (¬ p) = ¬ p := rfl
theorem R_or {a b : Prop} : R (a ∨ b) = (R a ∨ R b) := rfl
def mnew (σ : St) (K : Nat → Prop) : Prop := ∀ l, σ l = none → K l
def mfork (x : MV) (A B : Prop) : Prop := match x with
 | .bool b => (b = true → A) ∧ (b = false → B)
 | _ => False
def owes (C : Prop) (A : Prop) : Prop := C ∧ A
theorem mfork_true (A B : Prop) : R (mfork (.bool true) A B) = R A := by simp [mfork]
theorem mfork_false (A B : Prop) : R (mfork (.bool false) A B) = R B := by simp [mfork]
theorem mfork_yes {p : Prop} [Decidable p] {A B : Prop} (h : p) : R (mfork (.bool (decide p)) A B) = R A := by simp [mfork, h]
theorem mfork_no {p : Prop} [Decidable p] {A B : Prop} (h : ¬ p) : R (mfork (.bool (decide p)) A B) = R B := by simp [mfork, h]
theorem mfork_dec {p : Prop} [Decidable p] {A B : Prop} (h1 : p → R A) (h2 : ¬ p → R B) : R (mfork (.bool (decide p)) A B) := by
 simp only [R, mfork, decide_eq_true_eq, decide_eq_false_iff_not]; exact ⟨h1, h2⟩
theorem mfork_bool {b : Bool} {A B : Prop} (h1 : b = true → R A) (h2 : b = false → R B) : R (mfork (.bool b) A B) := ⟨h1, h2⟩
def mdraw (P : Program) (id : Nat) (ops : List Oper) (f : FR) (σ : St) (Q : MQ) : Prop := mwp P (.region id ops.toArray true) f σ Q
def mloop (P : Program) (c : Code) (f : FR) (σ : St) (Q : MQ) : Prop := mwp P (.loop c) f σ Q
def mrest (P : Program) (c : Code) (f : FR) (σ : St) (Q : MQ) : Prop := mwp P c f σ Q
def mcode (P : Program) : Code → FR → St → MQ → Prop
 | .skip, f, σ, Q => Q .normal f σ
 | .seq a b, f, σ, Q => mcode P a f σ (thenQ (fun f' σ' => mcode P b f' σ' Q) Q)
 | .cond c a b, f, σ, Q => mfork (mval f c) (mcode P a f σ Q) (mcode P b f σ Q)
 | .block id b, f, σ, Q => mcode P b f σ (blockQ id Q)
 | .scope b, f, σ, Q => mcode P b f σ (scopeQ Q)
 | .label _, f, σ, Q => Q .normal f σ
 | .ret, f, σ, Q => Q .ret f σ
 | .exit id, f, σ, Q => Q (.exit id) f σ
 | .region id ops true, f, σ, Q => mdraw P id ops.toList f σ Q
 | .region _ ops false, f, σ, Q => mops P ops (Q .normal) ops.toList f σ
 | .loop b, f, σ, Q => mloop P b f σ Q
 | c, f, σ, Q => mrest P c f σ Q
theorem mcode_sound {P : Program} : ∀ (c : Code) (f : FR) (σ : St) (Q : MQ), mcode P c f σ Q → mwp P c f σ Q := by
 intro c
 induction c with
 | skip => intro f σ Q h; exact mwp_skip h
 | region id ops draw => intro f σ Q h; cases draw with
  | true => exact h
  | false => exact mwp_region h
 | seq a b iha ihb =>
  intro f σ Q h
  refine mwp_seq (mwp_mono (iha f σ _ h) fun e f' σ' hq => ?_)
  cases e with
  | normal => exact ihb f' σ' Q hq
  | _ => exact hq
 | cond c a b iha ihb =>
  intro f σ Q h
  simp only [mcode, mfork] at h
  split at h
  ·rename_i t ht
   exact mwp_cond ht (fun hh => iha f σ Q (h.1 hh)) (fun hh => ihb f σ Q (h.2 hh))
  ·exact h.elim
 | block id b ih => intro f σ Q h; exact mwp_block (ih f σ _ h)
 | scope b ih => intro f σ Q h; exact mwp_scope (ih f σ _ h)
 | label l => intro f σ Q h; exact mwp_label h
 | loop b _ => intro f σ Q h; exact h
 | ret => intro f σ Q h; exact mwp_ret h
 | exit id => intro f σ Q h; exact mwp_exit h
 | _ => intro f σ Q h; exact h
theorem MCalls.body {P : Program} {g : FuncId} {fn : Func} {c : Code} {ms : List MV} {σ : St} {Q : MV → St → Prop} (n : Nat) (rs : List ResultVar) (hf : P.funcs[g]? = some fn) (hb : fn.body = some c) (hn : (fn.name == "runtime.NumGoroutine") = false)
  (hn' : max fn.ntmps ms.length = n) (hrs : fn.results.toList = rs) (h : R (mcode P (@OfNat.ofNat Code (nat_lit 0) (@_root_.id (OfNat Code (nat_lit 0)) (OfNat.mk c))) ⟨n, args0 0 ms, []⟩ σ (retQ P rs Q))) : MCalls P g ms σ Q :=
 MCalls.of_body n rs hf hb hn hn' hrs (mcode_sound c _ σ _ h)
theorem mloop_intro {P : Program} {c : Code} {f : FR} {σ : St} {Q : MQ} {α : Type} (F : α → FR) (S : α → St) (p : α → Prop) (μ : α → Nat) (h0 : Gh f σ fun f1 σ1 => ∃ a, f1 = F a ∧ σ1 = S a ∧ p a)
  (round : ∀ a, p a → R (mcode P c (F a) (S a) (thenQ (fun f' σ' => Gh f' σ' fun f1 σ1 => ∃ b, f1 = F b ∧ σ1 = S b ∧ p b ∧ μ b < μ a) Q))) : R (mloop P c f σ Q) :=
 mwp_loop F S p μ h0 fun a ha => mcode_sound c _ _ _ (round a ha)
section
variable {P : Program} {f : FR} {σ : St} {Q : MQ} {k : MV → St → Prop} {K : FR → St → Prop} {ops : Array Oper} {rest : List Oper}
theorem mcode_skip : R (mcode P .skip f σ Q) = R (Q .normal f σ) := rfl
theorem mcode_show {c : Code} : R (mcode P (@OfNat.ofNat Code (nat_lit 0) (@_root_.id (OfNat Code (nat_lit 0)) (OfNat.mk c))) f σ Q) = R (mcode P c f σ Q) := congrArg R rfl
theorem mcode_seq {a b : Code} : R (mcode P (.seq a b) f σ Q) = R (mcode P (@OfNat.ofNat Code (nat_lit 0) (@_root_.id (OfNat Code (nat_lit 0)) (OfNat.mk a))) f σ (thenQ (fun f' σ' => mcode P (@OfNat.ofNat Code (nat_lit 0) (@_root_.id (OfNat Code (nat_lit 0)) (OfNat.mk b))) f' σ' Q) Q)) := congrArg R rfl
theorem mcode_cond {c : Operand} {a b : Code} : R (mcode P (.cond c a b) f σ Q) = R (mfork (E (mval f c)) (mcode P (@OfNat.ofNat Code (nat_lit 0) (@_root_.id (OfNat Code (nat_lit 0)) (OfNat.mk a))) f σ Q) (mcode P (@OfNat.ofNat Code (nat_lit 0) (@_root_.id (OfNat Code (nat_lit 0)) (OfNat.mk b))) f σ Q)) := congrArg R rfl
theorem mcode_block {id : Nat} {b : Code} : R (mcode P (.block id b) f σ Q) = R (mcode P (@OfNat.ofNat Code (nat_lit 0) (@_root_.id (OfNat Code (nat_lit 0)) (OfNat.mk b))) f σ (blockQ id Q)) := congrArg R rfl
theorem mcode_scope {b : Code} : R (mcode P (.scope b) f σ Q) = R (mcode P (@OfNat.ofNat Code (nat_lit 0) (@_root_.id (OfNat Code (nat_lit 0)) (OfNat.mk b))) f σ (scopeQ Q)) := congrArg R rfl
theorem mcode_label {l : Nat} : R (mcode P (.label l) f σ Q) = R (Q .normal f σ) := congrArg R rfl
theorem scopeQ_normal : R (scopeQ Q .normal f σ) = R (Q .normal f σ) := congrArg R rfl
theorem scopeQ_ret : R (scopeQ Q .ret f σ) = R (Q .ret f σ) := congrArg R rfl
theorem scopeQ_exit {id : Nat} : R (scopeQ Q (.exit id) f σ) = R (Q (.exit id) f σ) := congrArg R rfl
theorem mcode_ret : R (mcode P .ret f σ Q) = R (Q .ret f σ) := rfl
theorem mcode_exit {id : Nat} : R (mcode P (.exit id) f σ Q) = R (Q (.exit id) f σ) := congrArg R rfl
theorem mcode_draw {id : Nat} {l : List Oper} : R (mcode P (.region id l.toArray true) f σ Q) = R (mdraw P id (@OfNat.ofNat (List Oper) (nat_lit 0) (@_root_.id (OfNat (List Oper) (nat_lit 0)) (OfNat.mk l))) (E f) σ Q) := congrArg R rfl
theorem mcode_region {id : Nat} {l : List Oper} : R (mcode P (.region id l.toArray false) f σ Q) = R (mops P (@OfNat.ofNat (Array Oper) (nat_lit 0) (@_root_.id (OfNat (Array Oper) (nat_lit 0)) (OfNat.mk (l.toArray)))) (Q .normal) (@OfNat.ofNat (List Oper) (nat_lit 0) (@_root_.id (OfNat (List Oper) (nat_lit 0)) (OfNat.mk l))) f σ) := congrArg R rfl
theorem mops_show {l : List Oper} : R (mops P ops K (@OfNat.ofNat (List Oper) (nat_lit 0) (@_root_.id (OfNat (List Oper) (nat_lit 0)) (OfNat.mk l))) f σ) = R (mops P ops K l f σ) := congrArg R rfl
theorem mcode_loop {b : Code} : R (mcode P (.loop b) f σ Q) = R (mloop P (@OfNat.ofNat Code (nat_lit 0) (@_root_.id (OfNat Code (nat_lit 0)) (OfNat.mk b))) (E f) σ Q) := congrArg R rfl
theorem thenQ_normal {next : FR → St → Prop} : R (thenQ next Q .normal f σ) = R (next f σ) := congrArg R rfl
theorem thenQ_ret {next : FR → St → Prop} : R (thenQ next Q .ret f σ) = R (Q .ret f σ) := congrArg R rfl
theorem thenQ_exit {next : FR → St → Prop} {id : Nat} : R (thenQ next Q (.exit id) f σ) = R (Q (.exit id) f σ) := congrArg R rfl
theorem blockQ_normal {id : Nat} : R (blockQ id Q .normal f σ) = R (Q .normal f σ) := congrArg R rfl
theorem blockQ_ret {id : Nat} : R (blockQ id Q .ret f σ) = R (Q .ret f σ) := congrArg R rfl
theorem blockQ_hit {id : Nat} : R (blockQ id Q (.exit id) f σ) = R (Q .normal f σ) := by simp [blockQ]
theorem blockQ_miss {id id' : Nat} (h : id' ≠ id) : R (blockQ id Q (.exit id') f σ) = R (Q (.exit id') f σ) := by simp [blockQ, h]
theorem mops_nil : R (mops P ops K [] f σ) = R (K f σ) := rfl
theorem mops_cons {dst : Option Tmp} {op : Op} {ty : TypeId} {pos : String} {after : Array Edge} : R (mops P ops K (⟨dst, op, ty, pos, after, none⟩ :: rest) f σ) = R (mstep P f σ dst (mops P ops K (@OfNat.ofNat (List Oper) (nat_lit 0) (@_root_.id (OfNat (List Oper) (nat_lit 0)) (OfNat.mk rest)))) op) := congrArg R rfl
theorem mstep_go {dst : Option Tmp} {op : Op} (h : opPlain op = true) : R (mstep P f σ dst K op) = R (mop P f σ (fun v σ' => K (mput f dst v) σ') op) := by
 rw [mstep_of h]
def mdefv (f : FR) (x : MV) (args : List MV) (K : FR → Prop) : Prop := match x with
 | .fn (.func g) ms ns => K ⟨f.n, f.l, (g, ms ++ args ++ ns) :: f.d⟩
 | _ => False
theorem mstep_defer {dst : Option Tmp} {x : Operand} {args : Array Operand} {ts : Array TypeId} : R (mstep P f σ dst K (.defer ⟨.value x, args, ts⟩)) = R (mdefv f (E (mval f x)) (E (args.toList.map (mval f))) fun f' => K (mput f' dst .junk) σ) := congrArg R rfl
theorem mdefv_fn {n : Nat} {l : List (Nat × MV)} {d : List (FuncId × List MV)} {g : FuncId} {ms ns args : List MV} {H : FR → Prop} : R (mdefv ⟨n, l, d⟩ (.fn (.func g) ms ns) args H) = R (H ⟨n, l, (g, ms ++ args ++ ns) :: d⟩) := congrArg R rfl
def gdst : List Oper → Nat → Option Tmp
 | [], _ => none
 | o :: _, 0 => o.dst
 | _ :: r, n + 1 => gdst r n
theorem gdst_eq : ∀ (l : List Oper) (j : Nat), (l.toArray[j]?).bind (·.dst) = gdst l j := by
 intro l
 induction l with
 | nil => intro j; simp [gdst]
 | cons o r ih =>
  intro j
  cases j with
  | zero => simp [gdst]
  | succ j => simpa [gdst] using ih j
def mgfork (x : MV) (want : Bool) (yes no : Prop) : Prop := match x with
 | .bool b => (b = want → yes) ∧ (b = (!want) → no)
 | .tup [] => no
 | _ => False
theorem mgfork_skip (want : Bool) (A B : Prop) : R (mgfork (.tup []) want A B) = R (B) := congrArg R (by simp [mgfork])
theorem mgfork_tt (A B : Prop) : R (mgfork (.bool true) true A B) = R (A) := congrArg R (by simp [mgfork])
theorem mgfork_tf (A B : Prop) : R (mgfork (.bool true) false A B) = R (B) := congrArg R (by simp [mgfork])
theorem mgfork_ft (A B : Prop) : R (mgfork (.bool false) true A B) = R (B) := congrArg R (by simp [mgfork])
theorem mgfork_ff (A B : Prop) : R (mgfork (.bool false) false A B) = R (A) := congrArg R (by simp [mgfork])
theorem mgfork_bool {b want : Bool} {A B : Prop} (h1 : b = want → R A) (h2 : b = (!want) → R B) : R (mgfork (.bool b) want A B) := ⟨h1, h2⟩
theorem mgfork_dec {p : Prop} [Decidable p] {A B : Prop} (h1 : p → R A) (h2 : ¬ p → R B) : R (mgfork (.bool (decide p)) true A B) := by
 simp only [R, mgfork, decide_eq_true_eq, Bool.not_true, decide_eq_false_iff_not]; exact ⟨h1, h2⟩
theorem mgfork_dec' {p : Prop} [Decidable p] {A B : Prop} (h1 : ¬ p → R A) (h2 : p → R B) : R (mgfork (.bool (decide p)) false A B) := by
 simp only [R, mgfork, decide_eq_true_eq, Bool.not_false, decide_eq_false_iff_not]; exact ⟨h1, h2⟩
theorem mgfork_dy {p : Prop} [Decidable p] {A B : Prop} (h : p) : R (mgfork (.bool (decide p)) true A B) = R A := by simp [mgfork, h]
theorem mgfork_dn {p : Prop} [Decidable p] {A B : Prop} (h : ¬ p) : R (mgfork (.bool (decide p)) true A B) = R B := by simp [mgfork, h]
theorem mgfork_ey {p : Prop} [Decidable p] {A B : Prop} (h : ¬ p) : R (mgfork (.bool (decide p)) false A B) = R A := by simp [mgfork, h]
theorem mgfork_en {p : Prop} [Decidable p] {A B : Prop} (h : p) : R (mgfork (.bool (decide p)) false A B) = R B := by simp [mgfork, h]
def gval (f : FR) : Option Tmp → MV
 | some t => f.get t
 | none => .junk
theorem mops_guard {l : List Oper} {dst : Option Tmp} {op : Op} {ty : TypeId} {pos : String} {after : Array Edge} {j : Nat} {want : Bool} : R (mops P (@OfNat.ofNat (Array Oper) (nat_lit 0) (@_root_.id (OfNat (Array Oper) (nat_lit 0)) (OfNat.mk (l.toArray)))) K (⟨dst, op, ty, pos, after, some (j, want)⟩ :: rest) f σ) = R (mgfork (E (gval f (gdst (@OfNat.ofNat (List Oper) (nat_lit 0) (@_root_.id (OfNat (List Oper) (nat_lit 0)) (OfNat.mk l))) j))) want (mstep P f σ dst (mops P (@OfNat.ofNat (Array Oper) (nat_lit 0) (@_root_.id (OfNat (Array Oper) (nat_lit 0)) (OfNat.mk (l.toArray)))) K (@OfNat.ofNat (List Oper) (nat_lit 0) (@_root_.id (OfNat (List Oper) (nat_lit 0)) (OfNat.mk rest)))) op) (mops P (@OfNat.ofNat (Array Oper) (nat_lit 0) (@_root_.id (OfNat (Array Oper) (nat_lit 0)) (OfNat.mk (l.toArray)))) K (@OfNat.ofNat (List Oper) (nat_lit 0) (@_root_.id (OfNat (List Oper) (nat_lit 0)) (OfNat.mk rest))) (mput f dst (.tup [])) σ)) := congrArg R (by
 show mops P l.toArray K (⟨dst, op, ty, pos, after, some (j, want)⟩ :: rest) f σ = mgfork (gval f (gdst l j)) want (mstep P f σ dst (mops P l.toArray K rest) op) (mops P l.toArray K rest (mput f dst (.tup [])) σ)
 simp only [mops, mguard, gdst_eq]
 cases gdst l j <;> rfl)
theorem gval_some {t : Tmp} : gval f (some t) = f.get t := rfl
theorem gdst_show {l : List Oper} {j : Nat} : gdst (@OfNat.ofNat (List Oper) (nat_lit 0) (@_root_.id (OfNat (List Oper) (nat_lit 0)) (OfNat.mk l))) j = gdst l j := rfl
theorem gdst_zero {o : Oper} {r : List Oper} : gdst (o :: r) 0 = o.dst := rfl
theorem gdst_succ {o : Oper} {r : List Oper} {n : Nat} : gdst (o :: r) (n + 1) = gdst r n := rfl
theorem mput_some {n : Nat} {l : List (Nat × MV)} {d : Nat} {v : MV} {ds : List (FuncId × List MV)} (h : d < n) : mput ⟨n, l, ds⟩ (some d) v = ⟨n, (d, v) :: l, ds⟩ := by simp [mput, h]
theorem mput_none {v : MV} : mput f none v = f := rfl
theorem get_mk {n : Nat} {l : List (Nat × MV)} {t : Nat} {ds : List (FuncId × List MV)} : FR.get ⟨n, l, ds⟩ t = lget l t := rfl
theorem lget_nil {t : Nat} : lget [] t = .junk := rfl
theorem lget_hit {k : Nat} {v : MV} {r : List (Nat × MV)} : lget ((k, v) :: r) k = v := by simp [lget]
theorem lget_miss {k : Nat} {v : MV} {r : List (Nat × MV)} {t : Nat} (h : t ≠ k) : lget ((k, v) :: r) t = lget r t := by simp [lget, h]
theorem mval_tmp {n : Nat} {l : List (Nat × MV)} {t : Nat} {ds : List (FuncId × List MV)} : mval ⟨n, l, ds⟩ (.tmp t) = lget l t := rfl
theorem mval_const {v : Value} : mval f (.const v) = ofV v := rfl
theorem mval_func {g : FuncId} : mval f (.func g) = .fn (.func g) [] [] := rfl
theorem ofV_bool {b : Bool} : ofV (.bool b) = .bool b := rfl
theorem ofV_int {i : IntKind} {n : Int} : ofV (.int i n) = .int i n := rfl
theorem ofV_str {s : ByteArray} : ofV (.string s) = .str s := rfl
theorem ofV_nilp : ofV (.pointer none) = .nilp := rfl
theorem ofV_nils : ofV (.slice none 0 0) = .nils := rfl
theorem ofV_nilm : ofV (.map none) = .nilm := rfl
theorem ofV_nilfn : ofV .nilFunc = .nilfn := rfl
theorem ofV_nili : ofV .nilIface = .nili := rfl
def mcallE (P : Program) (g : FuncId) (ms : List MV) (σ : St) (Q : MV → St → Prop) : Prop := MCalls P g ms σ Q
def mcallv (P : Program) (x : MV) (args : List MV) (σ : St) (k : MV → St → Prop) : Prop :=
 match x with
 | .fn (.func g) ms ns => MCalls P g (ms ++ args ++ ns) σ k
 | _ => False
theorem mcallv_fn {g : FuncId} {ms ns args : List MV} : R (mcallv P (.fn (.func g) ms ns) args σ k) = R (mcallE P g (E (ms ++ args ++ ns)) σ k) := congrArg R rfl
def mlet (v : MV) (σ : St) (k : MV → St → Prop) : Prop := k v σ
theorem mlet_go {v : MV} : R (mlet v σ k) = R (k v σ) := congrArg R rfl
theorem owes_true {A : Prop} : R (owes True A) = R (A) := congrArg R (by simp [owes])
theorem owes_go {C A : Prop} (h : C) : R (owes C A) = R A := by simp [owes, h]
theorem mpure_some {C : Prop} {v : MV} : R (mpure σ k (some (C, v))) = R (owes (E C) (mlet (E v) σ k)) := congrArg R rfl
def mloadAt (P : Program) (t : TypeId) (o : Option MObj) (i of : Nat) (σ : St) (k : MV → St → Prop) : Prop :=
 match o with
 | some (.row _ _ xs) => owes ((td P t).ok = true ∧ i < xs.length ∧ of + (td P t).size ≤ (xs.getD i []).length ∧ 0 < (td P t).size) (mlet (mpart (td P t) (xs.getD i []) of) σ k)
 | _ => False
theorem mload_ptr {t : TypeId} {l i o : Nat} : R (mload P t (.ptr l i o) σ k) = R (mloadAt P t (E (σ l)) i o σ k) := congrArg R rfl
theorem mload_cptr {t : TypeId} {cs : List MV} : R (mload P t (.cptr cs) σ k) = R (owes (E ((td P t).ok = true ∧ (td P t).size ≤ cs.length ∧ 0 < (td P t).size)) (mlet (E (mpart (td P t) cs 0)) σ k)) := congrArg R rfl
theorem mloadAt_row {t tt : TypeId} {e i o : Nat} {xs : List (List MV)} : R (mloadAt P t (some (.row tt e xs)) i o σ k) = R (owes (E ((td P t).ok = true ∧ i < xs.length ∧ o + (td P t).size ≤ (xs.getD i []).length ∧ 0 < (td P t).size)) (mlet (E (mpart (td P t) (xs.getD i []) o)) σ k)) := congrArg R rfl
def mstoreAt (P : Program) (t : TypeId) (o : Option MObj) (l i of : Nat) (y : MV) (σ : St) (k : MV → St → Prop) : Prop :=
 match o with
 | some (.row tt e xs) => owes ((td P t).ok = true ∧ i < xs.length ∧ y.cells.all MV.isCell = true ∧ y.cells.length = (td P t).size ∧ of + y.cells.length ≤ (xs.getD i []).length) (mlet .junk (σ.set l (.row tt e (xs.set i (laid (xs.getD i []) of y.cells)))) k)
 | _ => False
theorem mstore_ptr {t : TypeId} {l i o : Nat} {y : MV} : R (mstore P t (.ptr l i o) y σ k) = R (mstoreAt P t (E (σ l)) l i o y σ k) := congrArg R rfl
theorem mstoreAt_row {t tt : TypeId} {e l i o : Nat} {y : MV} {xs : List (List MV)} : R (mstoreAt P t (some (.row tt e xs)) l i o y σ k) = R (owes (E ((td P t).ok = true ∧ i < xs.length ∧ y.cells.all MV.isCell = true ∧ y.cells.length = (td P t).size ∧ o + y.cells.length ≤ (xs.getD i []).length)) (mlet (E .junk) (σ.set l (.row tt e (xs.set i (laid (xs.getD i []) o y.cells)))) k)) := congrArg R rfl
theorem none_apply (k : Nat) : St.none k = Option.none := rfl
theorem set_set (σ : St) (l : Nat) (o o' : MObj) : (σ.set l o).set l o' = σ.set l o' := by
 funext k; simp only [St.set]; split <;> rfl
theorem set_comm (σ : St) {l k : Nat} (o o' : MObj) (h : l ≠ k) : (σ.set l o).set k o' = (σ.set k o').set l o := by
 funext j; simp only [St.set]
 by_cases h1 : j = k
 ·subst h1; simp [Ne.symm h]
 ·simp [h1]
theorem del_set_other (σ : St) {l k : Nat} (o : MObj) (h : k ≠ l) : (σ.set k o).del l = (σ.del l).set k o := by
 funext j; simp only [St.set, St.del]
 by_cases h1 : j = l
 ·subst h1; simp [Ne.symm h]
 ·simp [h1]
theorem set_hit (σ : St) (l : Nat) (o : MObj) : (σ.set l o) l = some o := by simp [St.set]
theorem set_miss (σ : St) (l k : Nat) (o : MObj) (h : k ≠ l) : (σ.set l o) k = σ k := by simp [St.set, h]
theorem del_miss (σ : St) (l k : Nat) (h : k ≠ l) : (σ.del l) k = σ k := by simp [St.del, h]
theorem set_none (σ : St) (l k : Nat) (o : MObj) : (σ.set l o) k = none ↔ k ≠ l ∧ σ k = none := by
 simp only [St.set]; split <;> simp_all
theorem mop_move {x : Operand} : R (mop P f σ k (.move x)) = R (mlet (E (mval f x)) σ k) := congrArg R (by simp [mop, qop, mpure, mlet, E])
theorem mop_assign {x : Operand} : R (mop P f σ k (.assign x)) = R (mlet (E (mval f x)) σ k) := congrArg R (by simp [mop, qop, mpure, mlet, E])
def qpick (c a b : MV) : PV := match c with
 | .bool t => some (True, if t = true then a else b)
 | _ => none
theorem mop_pick {c a b : Operand} : R (mop P f σ k (.pick c a b)) = R (mpure σ k (E (qpick (mval f c) (mval f a) (mval f b)))) := congrArg R rfl
theorem qpick_y {p : Prop} [Decidable p] {a b : MV} (h : p) : qpick (.bool (decide p)) a b = some (True, a) := by simp [qpick, h]
theorem qpick_n {p : Prop} [Decidable p] {a b : MV} (h : ¬ p) : qpick (.bool (decide p)) a b = some (True, b) := by simp [qpick, h]
theorem qpick_t {a b : MV} : qpick (.bool true) a b = some (True, a) := rfl
theorem qpick_f {a b : MV} : qpick (.bool false) a b = some (True, b) := rfl
theorem not_dec {p : Prop} [Decidable p] : (!decide p) = decide (¬ p) := by simp
theorem mfork_nn {p : Prop} [Decidable p] {A B : Prop} (h : p) : R (mfork (.bool (decide (¬ p))) A B) = R B := by simp [mfork, h]
def qnil (x : MV) : PV := match x with
 | .ptr l i o => some (True, .ptr l i o)
 | .cptr cs => some (True, .cptr cs)
 | _ => none
theorem mop_nilCheck {x : Operand} : R (mop P f σ k (.nilCheck x)) = R (mpure σ k (E (qnil (mval f x)))) := congrArg R rfl
theorem qnil_ptr {l i o : Nat} : qnil (.ptr l i o) = some (True, .ptr l i o) := rfl
theorem qnil_cptr {cs : List MV} : qnil (.cptr cs) = some (True, .cptr cs) := rfl
theorem mop_binOp {op : BinOp} {t yt : TypeId} {x y : Operand} : R (mop P f σ k (.binOp op t x y yt)) = R (mpure σ k (E (mbin P t op (mval f x) (mval f y)))) := congrArg R rfl
theorem mop_unOp {op : UnOp} {t : TypeId} {x : Operand} : R (mop P f σ k (.unOp op t x)) = R (mpure σ k (E (mun op (mval f x)))) := congrArg R rfl
theorem mop_convert {s d : TypeId} {x : Operand} : R (mop P f σ k (.convert s d x)) = R (mconvert P s d (E (mval f x)) σ k) := congrArg R rfl
theorem mop_makeFunc {fn : Fn} {a b : Array Operand} : R (mop P f σ k (.makeFunc fn a b)) = R (mlet (E (.fn fn (a.toList.map (mval f)) (b.toList.map (mval f)))) σ k) := congrArg R (by simp [mop, qop, mpure, mlet, E])
theorem mop_slice {t : TypeId} {x : Operand} {lo hi mx : Option Operand} : R (mop P f σ k (.slice t x lo hi mx)) = R (mpure σ k (E (mslice P t (mval f x) (lo.map (mval f)) (hi.map (mval f)) (mx.map (mval f))))) := congrArg R rfl
theorem mop_fieldAddr {t : TypeId} {x : Operand} {i : Nat} : R (mop P f σ k (.fieldAddr t x i)) = R (mpure σ k (E (mfieldAddr P t (mval f x) i))) := congrArg R rfl
theorem mop_field {t : TypeId} {x : Operand} {i : Nat} : R (mop P f σ k (.field t x i)) = R (mpure σ k (E (mfield P t (mval f x) i))) := congrArg R rfl
theorem mop_indexAddr {t : TypeId} {x : Tmp} {i : Operand} : R (mop P f σ k (.indexAddr t (.tmp x) i)) = R (mpure σ k (E (mindexAddr P t (mval f (.tmp x)) (mval f i)))) := congrArg R rfl
theorem mop_indexAddrG {t : TypeId} {g : Nat} {i : Operand} : R (mop P f σ k (.indexAddr t (.global g) i)) = R (mpure σ k (gidx P t g (E (mval f i)))) := congrArg R rfl
theorem mop_index {t : TypeId} {x i : Operand} : R (mop P f σ k (.index t x i)) = R (mpure σ k (E (mindex P t (mval f x) (mval f i)))) := congrArg R rfl
def qextract (x : MV) (i : Nat) : PV := match x with
 | .tup vs => match vs[i]? with | some v => some (True, v) | none => none
 | _ => none
theorem mop_extract {x : Operand} {i : Nat} : R (mop P f σ k (.extract x i)) = R (mpure σ k (E (qextract (mval f x) i))) := congrArg R rfl
theorem qextract_tup {vs : List MV} {i : Nat} : qextract (.tup vs) i = (vs[i]?).map fun v => (True, v) := by simp only [qextract]; cases vs[i]? <;> rfl
theorem mop_build {t : TypeId} {parts : Array (Nat × Operand)} : R (mop P f σ k (.build t parts)) = R (mpure σ k (E (mbuild P f t parts))) := congrArg R rfl
theorem mop_load {t : TypeId} {x : Operand} : R (mop P f σ k (.load t x)) = R (mload P t (E (mval f x)) σ k) := congrArg R rfl
theorem mop_store {t : TypeId} {x y : Operand} : R (mop P f σ k (.store t x y)) = R (mstore P t (E (mval f x)) (E (mval f y)) σ k) := congrArg R rfl
theorem mop_alloc {t : TypeId} : R (mop P f σ k (.alloc t)) = R (owes (E ((td P t).zok = true)) (mnew (E σ) (fun l => mlet (E (.ptr l 0 0)) (σ.set l (.row t (td P t).size [(td P t).zero])) k))) := congrArg R rfl
def mbox (t : TypeId) (x : MV) (σ : St) (k : MV → St → Prop) : Prop := x.cells.all MV.isCell = true ∧ ∀ l, σ l = none → k (.ptr l 0 0) (σ.set l (.row t x.cells.length [x.cells]))
theorem mop_box {t : TypeId} {x : Operand} : R (mop P f σ k (.box t x)) = R (mbox t (E (mval f x)) σ k) := congrArg R rfl
theorem mbox_go {t : TypeId} {x : MV} : R (mbox t x σ k) = R (owes (E (x.cells.all MV.isCell = true)) (mnew (E σ) (fun l => mlet (E (.ptr l 0 0)) (σ.set l (.row t x.cells.length [x.cells])) k))) := congrArg R rfl
theorem mop_buildSlice {t : TypeId} {n : Nat} {parts : Array (Nat × Operand)} : R (mop P f σ k (.buildSlice t n parts)) = R (mbuildSlice P f t n parts σ k) := congrArg R rfl
def mbs (P : Program) (d : TK) (len : Nat) (parts : List (Nat × MV)) (σ : St) (k : MV → St → Prop) : Prop :=
 match d with
 | .slice el => owes ((td P el).zok = true ∧ parts.map (·.1) = List.range len ∧ (parts.all fun p => p.2.cells.all MV.isCell && p.2.cells.length == (td P el).size) = true ∧ len * (td P el).size ≤ 16777216 ∧ len ≤ 16777216)
   (mnew σ fun l => mlet (.vec (td P el).size l 0 len) (σ.set l (.row el (td P el).size (parts.map fun p => p.2.cells))) k)
 | _ => False
theorem mbuildSlice_eq {t : TypeId} {n : Nat} {parts : Array (Nat × Operand)} : R (mbuildSlice P f t n parts σ k) = R (mbs P (E (td P t).k) n (E (parts.toList.map fun p => (p.1, mval f p.2))) σ k) := congrArg R (by
 unfold mbuildSlice mbs owes mnew mlet E
 cases (td P t).k <;> first | rfl | (simp only [List.map_map, List.all_map]; rfl))
theorem mbs_slice {el : TypeId} {len : Nat} {parts : List (Nat × MV)} : R (mbs P (.slice el) len parts σ k) = R (owes (E ((td P el).zok = true ∧ parts.map (·.1) = List.range len ∧ (parts.all fun p => p.2.cells.all MV.isCell && p.2.cells.length == (td P el).size) = true ∧ len * (td P el).size ≤ 16777216 ∧ len ≤ 16777216))
   (mnew (E σ) (fun l => mlet (E (.vec (td P el).size l 0 len)) (σ.set l (.row el (td P el).size (parts.map fun p => p.2.cells))) k))) := rfl
theorem mop_makeSlice {t : TypeId} {x y : Operand} : R (mop P f σ k (.makeSlice t x y)) = R (mmakeSlice P t (E (mval f x)) (E (mval f y)) σ k) := congrArg R rfl
theorem mop_call {x : Operand} {args : Array Operand} {ts : Array TypeId} : R (mop P f σ k (.call ⟨.value x, args, ts⟩)) = R (mcallv P (E (mval f x)) (E (args.toList.map (mval f))) σ k) := congrArg R rfl
theorem mop_builtin {b : Builtin} {args : Array Operand} {ts : Array TypeId} : R (mop P f σ k (.call ⟨.builtin b, args, ts⟩)) = R (mbcall P f b args.toList ts.toList σ k) := congrArg R rfl
def mvs (P : Program) (t : TypeId) (x lo hi : MV) (σ : St) (k : MV → St → Prop) : Prop := if beyond x hi then mvslice P t x lo hi (locOf σ x) σ k else mpure σ k (mslice P t x (some lo) (some hi) none)
theorem mstep_slice {dst : Option Tmp} {t : TypeId} {x y z : Operand} : R (mstep P f σ dst K (.slice t x (some y) (some z) none)) = R (mvs P t (E (mval f x)) (E (mval f y)) (E (mval f z)) σ (fun v σ' => K (mput f dst v) σ')) := congrArg R rfl
theorem mvs_beyond {t : TypeId} {e l l0 n : Nat} {lo : MV} {i : IntKind} {h : Int} (hb : (n : Int) < h) : R (mvs P t (.vec e l l0 n) lo (.int i h) σ k) = R (mvslice P t (.vec e l l0 n) lo (.int i h) (E (σ l)) σ k) := by
 apply congrArg R; unfold mvs; rw [if_pos (show beyond (.vec e l l0 n) (.int i h) from hb)]; rfl
theorem mvs_within {t : TypeId} {e l l0 n : Nat} {lo : MV} {i : IntKind} {h : Int} (hb : h ≤ (n : Int)) : R (mvs P t (.vec e l l0 n) lo (.int i h) σ k) = R (mpure σ k (E (mslice P t (.vec e l l0 n) (some lo) (some (.int i h)) none))) := by
 apply congrArg R; unfold mvs; rw [if_neg (show ¬ beyond (.vec e l l0 n) (.int i h) by simp only [beyond]; omega)]; rfl
theorem mvs_lst {t : TypeId} {e : Nat} {xs : List (List MV)} {tt : Bool} {lo hi : MV} : R (mvs P t (.lst e xs tt) lo hi σ k) = R (mpure σ k (E (mslice P t (.lst e xs tt) (some lo) (some hi) none))) := by
 apply congrArg R; unfold mvs; rw [if_neg (show ¬ beyond (.lst e xs tt) hi by simp [beyond])]; rfl
theorem mvs_str {t : TypeId} {s : ByteArray} {lo hi : MV} : R (mvs P t (.str s) lo hi σ k) = R (mpure σ k (E (mslice P t (.str s) (some lo) (some hi) none))) := by
 apply congrArg R; unfold mvs; rw [if_neg (show ¬ beyond (.str s) hi by simp [beyond])]; rfl
def mvsl (P : Program) (d : TK) (e l l0 : Nat) (a h : Int) (e' : Nat) (xs : List (List MV)) (σ : St) (k : MV → St → Prop) : Prop := match d with
 | .slice el => owes ((td P el).ok = true ∧ e = (td P el).size ∧ e' = (td P el).size ∧ 0 ≤ a ∧ a ≤ h ∧ l0 + h.toNat ≤ xs.length) (mlet (.vec e l (l0 + a.toNat) (h.toNat - a.toNat)) σ k)
 | _ => False
theorem mvslice_row {t tt : TypeId} {e l l0 n : Nat} {i j : IntKind} {a h : Int} {e' : Nat} {xs : List (List MV)} : R (mvslice P t (.vec e l l0 n) (.int i a) (.int j h) (some (.row tt e' xs)) σ k) = R (mvsl P (E (td P t).k) e l l0 a h e' xs σ k) := by
 apply congrArg R; unfold mvslice mvsl E; cases (td P t).k <;> rfl
theorem mvsl_slice {el : TypeId} {e l l0 : Nat} {a h : Int} {e' : Nat} {xs : List (List MV)} : R (mvsl P (.slice el) e l l0 a h e' xs σ k) = R (owes (E ((td P el).ok = true ∧ e = (td P el).size ∧ e' = (td P el).size ∧ 0 ≤ a ∧ a ≤ h ∧ l0 + h.toNat ≤ xs.length)) (mlet (E (.vec e l (l0 + a.toNat) (h.toNat - a.toNat))) σ k)) := congrArg R rfl
def mclr (P : Program) (t : TypeId) (x : MV) (σ : St) (k : MV → St → Prop) : Prop := mclear P t x (locOf σ x) σ k
theorem mstep_clear {dst : Option Tmp} {x : Operand} {t : TypeId} : R (mstep P f σ dst K (.call ⟨.builtin .clear, #[x], #[t]⟩)) = R (mclr P t (E (mval f x)) σ (fun v σ' => K (mput f dst v) σ')) := congrArg R rfl
theorem mstep_append {dst : Option Tmp} {s x : Operand} {t xt : TypeId} : R (mstep P f σ dst K (.call ⟨.builtin .append, #[s, x], #[t, xt]⟩)) = R (mone (E (td P xt).k.isInt) (mzapp P t (mval f s) (mval f x) σ (fun v σ' => K (mput f dst v) σ')) (mop P f σ (fun v σ' => K (mput f dst v) σ') (.call ⟨.builtin .append, #[s, x], #[t, xt]⟩))) := congrArg R rfl
theorem mone_t {A B : Prop} : R (mone true A B) = R A := congrArg R rfl
theorem mone_f {A B : Prop} : R (mone false A B) = R B := congrArg R rfl
def mzap (P : Program) (d : TK) (s x : MV) (σ : St) (k : MV → St → Prop) : Prop :=
 match d, s, x with
 | .slice el, .nils, .int .i64 n => ((td P el).zok = true ∧ 0 < (td P el).size ∧ 0 < n ∧ Fits n.toNat (td P el).bytes) ∧ ∀ l, σ l = none → k (.vec (td P el).size l 0 n.toNat) (σ.set l (.row el (td P el).size (List.replicate n.toNat (td P el).zero)))
 | _, _, _ => False
theorem mzapp_go {t : TypeId} {s x : MV} : R (mzapp P t s x σ k) = R (mzap P (E (td P t).k) (E s) (E x) σ k) := congrArg R rfl
theorem mzap_nil {el : TypeId} {n : Int} : R (mzap P (.slice el) .nils (.int .i64 n) σ k) = R (owes (E ((td P el).zok = true ∧ 0 < (td P el).size ∧ 0 < n ∧ Fits n.toNat (td P el).bytes)) (mnew (E σ) (fun l => mlet (E (.vec (td P el).size l 0 n.toNat)) (σ.set l (.row el (td P el).size (List.replicate n.toNat (td P el).zero))) k))) := congrArg R rfl
theorem mclr_vec {t : TypeId} {e l l0 n : Nat} : R (mclr P t (.vec e l l0 n) σ k) = R (mclear P t (.vec e l l0 n) (E (σ l)) σ k) := congrArg R rfl
def mclearK (P : Program) (d : TK) (e l l0 n : Nat) (tt : TypeId) (e' : Nat) (xs : List (List MV)) (σ : St) (k : MV → St → Prop) : Prop := match d with
 | .slice el => owes ((td P el).zok = true ∧ 0 < (td P el).size ∧ e = (td P el).size ∧ e' = (td P el).size ∧ l0 + n ≤ xs.length) (mlet .junk (σ.set l (.row tt e' (rowLaid xs l0 (List.replicate n (td P el).zero)))) k)
 | _ => False
theorem mclear_row {t tt : TypeId} {e l l0 n e' : Nat} {xs : List (List MV)} : R (mclear P t (.vec e l l0 n) (some (.row tt e' xs)) σ k) = R (mclearK P (E (td P t).k) e l l0 n tt e' xs σ k) := by
 apply congrArg R; unfold mclear mclearK E; cases (td P t).k <;> rfl
theorem mclearK_slice {el tt : TypeId} {e l l0 n e' : Nat} {xs : List (List MV)} : R (mclearK P (.slice el) e l l0 n tt e' xs σ k) = R (owes (E ((td P el).zok = true ∧ 0 < (td P el).size ∧ e = (td P el).size ∧ e' = (td P el).size ∧ l0 + n ≤ xs.length)) (mlet (E .junk) (σ.set l (.row tt e' (rowLaid xs l0 (List.replicate n (td P el).zero)))) k)) := congrArg R rfl
end
end Go.Proofs.YtjljgahfkcdhfaaGreatDoor
end

section
namespace Go.Proofs.YtjljgahfkcdhfaaGreatDoor
section
variable {P : Program} {f : FR} {σ : St} {k : MV → St → Prop} {t : TypeId}
theorem mbin_add {i : IntKind} {a b : Int} : mbin P t .add (.int i a) (.int i b) = some (True, .int i (i.wrap (a + b))) := by simp [mbin, intBin]
theorem mbin_sub {i : IntKind} {a b : Int} : mbin P t .sub (.int i a) (.int i b) = some (True, .int i (i.wrap (a - b))) := by simp [mbin, intBin]
theorem mbin_mul {i : IntKind} {a b : Int} : mbin P t .mul (.int i a) (.int i b) = some (True, .int i (i.wrap (a * b))) := by simp [mbin, intBin]
theorem mbin_quo {i : IntKind} {a b : Int} : mbin P t .quo (.int i a) (.int i b) = some (b ≠ 0, .int i (i.wrap (a.tdiv b))) := by simp [mbin, intBin]
theorem mbin_rem {i : IntKind} {a b : Int} : mbin P t .rem (.int i a) (.int i b) = some (b ≠ 0, .int i (a.tmod b)) := by simp [mbin, intBin]
theorem mbin_and {i : IntKind} {a b : Int} : mbin P t .and (.int i a) (.int i b) = some (True, .int i (andK i a b)) := by simp only [mbin, if_true, intBin]
theorem mbin_or {i : IntKind} {a b : Int} : mbin P t .or (.int i a) (.int i b) = some (True, .int i (orK i a b)) := by simp only [mbin, if_true, intBin]
theorem mbin_xor {i : IntKind} {a b : Int} : mbin P t .xor (.int i a) (.int i b) = some (True, .int i (xorK i a b)) := by simp only [mbin, if_true, intBin]
theorem mbin_andNot {i : IntKind} {a b : Int} : mbin P t .andNot (.int i a) (.int i b) = some (True, .int i (andNotK i a b)) := by simp only [mbin, if_true, intBin]
theorem mbin_eql {i : IntKind} {a b : Int} : mbin P t .eql (.int i a) (.int i b) = some (True, .bool (decide (a = b))) := by simp [mbin, intBin]; rfl
theorem mbin_neq {i : IntKind} {a b : Int} : mbin P t .neq (.int i a) (.int i b) = some (True, .bool (decide (¬ a = b))) := by simp [mbin, intBin]; rfl
theorem mbin_lss {i : IntKind} {a b : Int} : mbin P t .lss (.int i a) (.int i b) = some (True, .bool (decide (a < b))) := by simp [mbin, intBin]
theorem mbin_leq {i : IntKind} {a b : Int} : mbin P t .leq (.int i a) (.int i b) = some (True, .bool (decide (a ≤ b))) := by simp [mbin, intBin]
theorem mbin_gtr {i : IntKind} {a b : Int} : mbin P t .gtr (.int i a) (.int i b) = some (True, .bool (decide (b < a))) := by simp [mbin, intBin]
theorem mbin_geq {i : IntKind} {a b : Int} : mbin P t .geq (.int i a) (.int i b) = some (True, .bool (decide (b ≤ a))) := by simp [mbin, intBin]
theorem mbin_shl {i j : IntKind} {a b : Int} : mbin P t .shl (.int i a) (.int j b) = some (0 ≤ b, .int i (i.wrap (a * 2 ^ (min b.toNat i.bits)))) := by simp [mbin, intShift]
theorem mbin_shr {i j : IntKind} {a b : Int} : mbin P t .shr (.int i a) (.int j b) = some (0 ≤ b, .int i (a.fdiv (2 ^ (min b.toNat i.bits)))) := by simp [mbin, intShift]
theorem toList_eq_iff (x y : ByteArray) : x.toList = y.toList ↔ x = y := by
 rw [ByteArray.toList_eq, ByteArray.toList_eq]
 obtain ⟨⟨a⟩⟩ := x
 obtain ⟨⟨b⟩⟩ := y
 simp
theorem toList_beq (x y : ByteArray) : (x.toList == y.toList) = decide (x = y) := by
 rw [Bool.eq_iff_iff]; simp [toList_eq_iff]
theorem mbin_seql {x y : ByteArray} : mbin P t .eql (.str x) (.str y) = some (True, .bool (decide (x = y))) := by simp only [mbin, strBin, toList_beq]
theorem mbin_sneq {x y : ByteArray} : mbin P t .neq (.str x) (.str y) = some (True, .bool (decide (¬ x = y))) := by simp only [mbin, strBin, toList_beq]; simp
theorem mbin_sadd {x y : ByteArray} : mbin P t .add (.str x) (.str y) = some (((x.size + y.size : Nat) : Int) ≤ 9223372036854775807, .str (x ++ y)) := by simp only [mbin, strBin]
theorem mbin_slss {x y : ByteArray} : mbin P t .lss (.str x) (.str y) = some (True, .bool (Op.bytesLess x.toList y.toList)) := by simp only [mbin, strBin]
theorem mbin_sgtr {x y : ByteArray} : mbin P t .gtr (.str x) (.str y) = some (True, .bool (!(Op.bytesLess x.toList y.toList || decide (x = y)))) := by simp only [mbin, strBin, toList_beq]
theorem mbin_beql {x y : Bool} : mbin P t .eql (.bool x) (.bool y) = some ((td P t).k.isBool = true, .bool (x == y)) := rfl
theorem mbin_bneq {x y : Bool} : mbin P t .neq (.bool x) (.bool y) = some ((td P t).k.isBool = true, .bool (!(x == y))) := rfl
theorem mbin_pn {op : BinOp} {l i o : Nat} : mbin P t op (.ptr l i o) .nilp = eqV op ((td P t).k.isPtr = true) false := rfl
theorem mbin_np {op : BinOp} {l i o : Nat} : mbin P t op .nilp (.ptr l i o) = eqV op ((td P t).k.isPtr = true) false := rfl
theorem mbin_cn {op : BinOp} {cs : List MV} : mbin P t op (.cptr cs) .nilp = eqV op ((td P t).k.isPtr = true) false := rfl
theorem mbin_sl {op : BinOp} {e : Nat} {x : List MV} {xs : List (List MV)} {b : Bool} : mbin P t op (.lst e (x :: xs) b) .nils = eqV op ((td P t).k.isSl = true) false := rfl
theorem mbin_sn {op : BinOp} : mbin P t op .nils .nils = eqV op ((td P t).k.isSl = true) true := rfl
theorem mbin_fz {op : BinOp} : mbin P t op .nilfn .nilfn = eqV op ((td P t).k.isFn = true) true := rfl
theorem mbin_fn {op : BinOp} {f : Fn} {a b : List MV} : mbin P t op (.fn f a b) .nilfn = eqV op ((td P t).k.isFn = true) false := rfl
theorem mbin_nn {op : BinOp} : mbin P t op .nilp .nilp = eqV op ((td P t).k.isPtr = true) true := rfl
def maggEq (P : Program) (op : BinOp) (t : TypeId) (o : Option Bool) : PV := match o with
 | some b => eqV op (eqPlain P t = true) b
 | none => none
theorem mbin_agg {op : BinOp} {xs ys : List MV} : mbin P t op (.agg xs) (.agg ys) = maggEq P op t (meqs P 6 t (.agg xs) (.agg ys)) := rfl
theorem maggEq_some {op : BinOp} {b : Bool} : maggEq P op t (some b) = eqV op (eqPlain P t = true) b := rfl
theorem set_none_intro {σ : St} {l k : Nat} {o : MObj} {p : Prop} (h : l ≠ k → k ≠ l → σ l = none → p) : (σ.set k o) l = none → p := fun hn =>
 have e : l ≠ k ∧ σ l = none := (set_none σ k l o).mp hn
 h e.1 (Ne.symm e.1) e.2
theorem del_set_hit (σ : St) (l : Nat) (o : MObj) : (σ.set l o).del l = σ.del l := by
 funext k; simp only [St.set, St.del]; split <;> rfl
theorem none_del (l : Nat) : St.none.del l = St.none := by
 funext k; simp only [St.none, St.del]; split <;> rfl
theorem take_map' {α β : Type} {f : α → β} {l : List α} {n : Nat} : (l.map f).take n = (l.take n).map f := by rw [List.map_take]
theorem drop_map' {α β : Type} {f : α → β} {l : List α} {n : Nat} : (l.map f).drop n = (l.drop n).map f := by rw [List.map_drop]
theorem app_map' {α β : Type} {f : α → β} {l r : List α} : l.map f ++ r.map f = (l ++ r).map f := by rw [List.map_append]
theorem set_over (σ : St) {l a : Nat} (o o' oa : MObj) (h : l ≠ a) : ((σ.set l o).set a oa).set l o' = (σ.set l o').set a oa := by rw [set_comm _ _ _ (Ne.symm h), set_set]
theorem set_over2 (σ : St) {l a b : Nat} (o o' oa ob : MObj) (h : l ≠ a) (h2 : l ≠ b) : (((σ.set l o).set a oa).set b ob).set l o' = ((σ.set l o').set a oa).set b ob := by rw [set_comm _ _ _ (Ne.symm h2), set_over _ _ _ _ h]
theorem set_over3 (σ : St) {l a b c : Nat} (o o' oa ob oc : MObj) (h : l ≠ a) (h2 : l ≠ b) (h3 : l ≠ c) : ((((σ.set l o).set a oa).set b ob).set c oc).set l o' = (((σ.set l o').set a oa).set b ob).set c oc := by rw [set_comm _ _ _ (Ne.symm h3), set_over2 _ _ _ _ _ h h2]
theorem getD_app {α : Type} {l r : List α} {n : Nat} {d : α} (h : n < l.length) : (l ++ r).getD n d = l.getD n d := by simp [List.getD, List.getElem?_append_left h]
theorem toNat_succ (n : Nat) : ((n : Int) + 1).toNat = n + 1 := by omega
theorem dec_and {p q : Prop} [Decidable p] [Decidable q] : (decide p && decide q) = decide (p ∧ q) := by simp
theorem dec_or {p q : Prop} [Decidable p] [Decidable q] : (decide p || decide q) = decide (p ∨ q) := by simp
theorem map_and {b : Bool} {o : Bool} : (some o).map (fun c => b && c) = some (b && o) := rfl
theorem eqV_eql {C : Prop} {b : Bool} : eqV .eql C b = some (C, .bool b) := rfl
theorem eqV_neq {C : Prop} {b : Bool} : eqV .neq C b = some (C, .bool (!b)) := rfl
theorem mbcall_append {s x : Operand} {t xt : TypeId} : R (mbcall P f .append [s, x] [t, xt] σ k) = R (mappend P t xt (E (mval f s)) (E (mval f x)) σ k) := congrArg R rfl
theorem mbcall_len {x : Operand} {t : TypeId} : R (mbcall P f .len [x] [t] σ k) = R (mpure σ k (E (mlen P t (mval f x)))) := congrArg R (by simp [mbcall, mbuiltin, E])
theorem mbcall_min {x y : Operand} {t u : TypeId} : R (mbcall P f .min [x, y] [t, u] σ k) = R (mpure σ k (E (mmin2 (mval f x) (mval f y)))) := congrArg R (by simp [mbcall, mbuiltin, E])
theorem mbcall_cap {x : Operand} {t : TypeId} : R (mbcall P f .cap [x] [t] σ k) = R (mpure σ k (E (mcap P t (mval f x)))) := congrArg R (by simp [mbcall, mbuiltin, E])
theorem mbcall_max {x y : Operand} {t u : TypeId} : R (mbcall P f .max [x, y] [t, u] σ k) = R (mpure σ k (E (mmax2 (mval f x) (mval f y)))) := congrArg R (by simp [mbcall, mbuiltin, E])
def mcv (P : Program) (s d : TypeId) (ks kd : TK) (x : MV) (σ : St) (k : MV → St → Prop) : Prop :=
 match ks, kd, x with
 | .str, .slice el, .str b => ((td P el).k = .int .u8 ∧ b.size ≤ 140737488355328) ∧ ∀ l, σ l = none → k (.vec 1 l 0 b.size) (σ.set l (.row el 1 (b.toList.map fun c => [.int .u8 (c.toNat : Int)])))
 | .slice el, .str, .str _ => False
 | .slice el, .str, x => match msrc σ 1 x with
  | some ys => ((td P el).k = .int .u8 ∧ ys.all isByte = true) ∧ k (.str (bytesOf ys)) σ
  | none => False
 | _, _, x => mpure σ k (mconv P s d x)
theorem mconvert_go {s d : TypeId} {x : MV} : R (mconvert P s d x σ k) = R (mcv P s d (E (td P s).k) (E (td P d).k) x σ k) := congrArg R (by unfold mconvert mcv E; rfl)
theorem mcv_int {s d : TypeId} {i j j' : IntKind} {n : Int} : R (mcv P s d (.int j) (.int i) (.int j' n) σ k) = R (mpure σ k (E (mconv P s d (.int j' n)))) := congrArg R rfl
theorem mcv_ss {s d : TypeId} {b : ByteArray} : R (mcv P s d .str .str (.str b) σ k) = R (mpure σ k (E (mconv P s d (.str b)))) := congrArg R rfl
theorem mcv_sb {s d el : TypeId} {b : ByteArray} : R (mcv P s d .str (.slice el) (.str b) σ k) = R (owes (E ((td P el).k = .int .u8 ∧ b.size ≤ 140737488355328)) (mnew (E σ) (fun l => mlet (E (.vec 1 l 0 b.size)) (σ.set l (.row el 1 (b.toList.map fun c => [.int .u8 (c.toNat : Int)]))) k))) := congrArg R rfl
def mcvs (P : Program) (el : TypeId) (o : Option (List (List MV))) (σ : St) (k : MV → St → Prop) : Prop := match o with
 | some ys => owes ((td P el).k = .int .u8 ∧ ys.all isByte = true) (mlet (.str (bytesOf ys)) σ k)
 | none => False
theorem mcv_bv {s d el : TypeId} {e l lo n : Nat} : R (mcv P s d (.slice el) .str (.vec e l lo n) σ k) = R (mcvs P el (E (msrc σ 1 (.vec e l lo n))) σ k) := congrArg R (by unfold mcv mcvs E; simp only; split <;> rfl)
theorem mcv_bl {s d el : TypeId} {e : Nat} {xs : List (List MV)} {t : Bool} : R (mcv P s d (.slice el) .str (.lst e xs t) σ k) = R (mcvs P el (E (msrc σ 1 (.lst e xs t))) σ k) := congrArg R (by unfold mcv mcvs E; simp only; split <;> rfl)
theorem mcv_bn {s d el : TypeId} : R (mcv P s d (.slice el) .str .nils σ k) = R (mcvs P el (E (msrc σ 1 .nils)) σ k) := congrArg R (by unfold mcv mcvs E; simp only; split <;> rfl)
theorem mcvs_some {el : TypeId} {ys : List (List MV)} : R (mcvs P el (some ys) σ k) = R (owes (E ((td P el).k = .int .u8 ∧ ys.all isByte = true)) (mlet (E (.str (bytesOf ys))) σ k)) := congrArg R rfl
attribute [go_sem] mone_t mone_f mzapp_go mzap_nil TK.isInt mconvert_go mcv_int mcv_ss mcv_sb mcv_bv mcv_bl mcv_bn mcvs_some mconv mcap
def mapp (P : Program) (d : TK) (xt : TypeId) (s : MV) (ys : Option (List (List MV))) (σ : St) (k : MV → St → Prop) : Prop :=
 match d with
 | .slice el => match ys with
  | some ys => match s with
   | .nils => owes ((td P xt).k.isSrc = true ∧ (td P el).zok = true ∧ Fits ys.length (td P el).bytes) (mnew σ fun l => mlet (.vec (td P el).size l 0 ys.length) (σ.set l (.row el (td P el).size ys)) k)
   | .lst e xs true => owes ((td P xt).k.isSrc = true ∧ (td P el).zok = true ∧ e = (td P el).size ∧ (xs = [] ∨ 0 < ys.length) ∧ Fits (xs.length + ys.length) (td P el).bytes)
     (mnew σ fun l => mlet (.vec (td P el).size l 0 (xs.length + ys.length)) (σ.set l (.row el (td P el).size (xs ++ ys))) k)
   | .vec e l lo n => match σ l with
    | some (.row tt e' xs) => owes ((td P xt).k.isSrc = true ∧ (td P el).zok = true ∧ e = (td P el).size ∧ e' = (td P el).size ∧ tt = el ∧ lo = 0 ∧ lo + n ≤ xs.length ∧ Fits (n + ys.length) (td P el).bytes)
      (mnew σ fun l' => mlet (.vec (td P el).size l' 0 (n + ys.length)) ((σ.del l).set l' (.row el (td P el).size (appRow xs lo n ys))) k)
    | _ => False
   | _ => False
  | none => False
 | _ => False
def srcE : TK → Option TypeId
 | .slice el => some el
 | _ => none
def msrcO (P : Program) (σ : St) (x : MV) : Option TypeId → Option (List (List MV))
 | some el => msrc σ (td P el).size x
 | none => none
theorem mappend_go {t xt : TypeId} {s x : MV} : R (mappend P t xt s x σ k) = R (mapp P (E (td P t).k) xt s (E (msrcO P σ x (srcE (td P t).k))) σ k) := congrArg R (by
 unfold mappend mapp msrcO srcE owes mnew mlet E
 cases (td P t).k <;> rfl)
theorem mapp_nils {el xt : TypeId} {ys : List (List MV)} : R (mapp P (.slice el) xt .nils (some ys) σ k) = R (owes (E ((td P xt).k.isSrc = true ∧ (td P el).zok = true ∧ Fits ys.length (td P el).bytes)) (mnew (E σ) (fun l => mlet (E (.vec (td P el).size l 0 ys.length)) (σ.set l (.row el (td P el).size ys)) k))) := congrArg R rfl
theorem mapp_lst {el xt : TypeId} {ys xs : List (List MV)} {e : Nat} : R (mapp P (.slice el) xt (.lst e xs true) (some ys) σ k) = R (owes (E ((td P xt).k.isSrc = true ∧ (td P el).zok = true ∧ e = (td P el).size ∧ (xs = [] ∨ 0 < ys.length) ∧ Fits (xs.length + ys.length) (td P el).bytes))
     (mnew (E σ) (fun l => mlet (E (.vec (td P el).size l 0 (xs.length + ys.length))) (σ.set l (.row el (td P el).size (xs ++ ys))) k))) := rfl
def mappv (P : Program) (el xt : TypeId) (e l lo n : Nat) (o : Option MObj) (ys : List (List MV)) (σ : St) (k : MV → St → Prop) : Prop :=
 match o with
 | some (.row tt e' xs) => owes ((td P xt).k.isSrc = true ∧ (td P el).zok = true ∧ e = (td P el).size ∧ e' = (td P el).size ∧ tt = el ∧ lo = 0 ∧ lo + n ≤ xs.length ∧ Fits (n + ys.length) (td P el).bytes)
      (mnew σ fun l' => mlet (.vec (td P el).size l' 0 (n + ys.length)) ((σ.del l).set l' (.row el (td P el).size (appRow xs lo n ys))) k)
 | _ => False
theorem mapp_vec {el xt : TypeId} {ys : List (List MV)} {e l lo n : Nat} : R (mapp P (.slice el) xt (.vec e l lo n) (some ys) σ k) = R (mappv P el xt e l lo n (E (σ l)) ys σ k) := congrArg R rfl
def mif (c : Prop) (A B : Prop) : Prop := (c → A) ∧ (¬ c → B)
theorem mif_yes {c A B : Prop} (h : c) : R (mif c A B) = R A := by simp [mif, h]
theorem mif_no {c A B : Prop} (h : ¬ c) : R (mif c A B) = R B := by simp [mif, h]
theorem mif_go {c A B : Prop} (h1 : c → R A) (h2 : ¬ c → R B) : R (mif c A B) := ⟨h1, h2⟩
theorem mif_true {A B : Prop} : R (mif True A B) = R A := by simp [mif]
theorem mif_false {A B : Prop} : R (mif False A B) = R B := by simp [mif]
theorem mappv_row {el xt tt : TypeId} {ys xs : List (List MV)} {e e' l lo n : Nat} : R (mappv P el xt e l lo n (some (.row tt e' xs)) ys σ k) = R (mif (E (lo + n = xs.length))
      (owes (E ((td P xt).k.isSrc = true ∧ (td P el).zok = true ∧ e = (td P el).size ∧ e' = (td P el).size ∧ tt = el ∧ lo = 0 ∧ Fits (n + ys.length) (td P el).bytes))
       (mnew (E σ) (fun l' => mlet (E (.vec (td P el).size l' 0 (n + ys.length))) ((σ.del l).set l' (.row el (td P el).size (xs.drop lo ++ ys))) k)))
      (owes (E ((td P xt).k.isSrc = true ∧ (td P el).zok = true ∧ e = (td P el).size ∧ e' = (td P el).size ∧ tt = el ∧ lo = 0 ∧ lo + n ≤ xs.length ∧ Fits (n + ys.length) (td P el).bytes))
       (mnew (E σ) (fun l' => mlet (E (.vec (td P el).size l' 0 (n + ys.length))) ((σ.del l).set l' (.row el (td P el).size (appRow xs lo n ys))) k)))) := by
 apply congrArg R
 simp only [mappv, mif, E]
 by_cases h : lo + n = xs.length
 ·simp only [h, true_implies, not_true_eq_false, false_implies, and_true, Nat.le_refl, true_and, appRow_end h]
 ·simp only [h, false_implies, not_false_eq_true, true_implies, true_and]
theorem retQ_normal {rs : List ResultVar} {Q : MV → St → Prop} {n : Nat} {l : List (Nat × MV)} : R (retQ P rs Q .normal ⟨n, l, []⟩ σ) = R (mresults P ⟨n, l, []⟩ σ rs fun vs => Q (oneOf vs) σ) := congrArg R rfl
theorem retQ_ret {rs : List ResultVar} {Q : MV → St → Prop} {n : Nat} {l : List (Nat × MV)} : R (retQ P rs Q .ret ⟨n, l, []⟩ σ) = R (mresults P ⟨n, l, []⟩ σ rs fun vs => Q (oneOf vs) σ) := congrArg R rfl
theorem retQ_normalD {rs : List ResultVar} {Q : MV → St → Prop} {n : Nat} {l : List (Nat × MV)} {g : FuncId} {ms : List MV} {d : List (FuncId × List MV)} : R (retQ P rs Q .normal ⟨n, l, (g, ms) :: d⟩ σ) = R (MDefers P g ms σ fun σ' => mleave P n l rs Q d σ') := congrArg R rfl
theorem retQ_retD {rs : List ResultVar} {Q : MV → St → Prop} {n : Nat} {l : List (Nat × MV)} {g : FuncId} {ms : List MV} {d : List (FuncId × List MV)} : R (retQ P rs Q .ret ⟨n, l, (g, ms) :: d⟩ σ) = R (MDefers P g ms σ fun σ' => mleave P n l rs Q d σ') := congrArg R rfl
theorem mleave_nil {rs : List ResultVar} {Q : MV → St → Prop} {n : Nat} {l : List (Nat × MV)} : R (mleave P n l rs Q [] σ) = R (mresults P ⟨n, l, []⟩ σ rs fun vs => Q (oneOf vs) σ) := congrArg R rfl
theorem mleave_cons {rs : List ResultVar} {Q : MV → St → Prop} {n : Nat} {l : List (Nat × MV)} {g : FuncId} {ms : List MV} {d : List (FuncId × List MV)} : R (mleave P n l rs Q ((g, ms) :: d) σ) = R (MDefers P g ms σ fun σ' => mleave P n l rs Q d σ') := congrArg R rfl
theorem mresults_nil {K : List MV → Prop} : R (mresults P f σ [] K) = R (K []) := congrArg R rfl
theorem mresults_tmp {K : List MV → Prop} {t : Nat} {rs : List ResultVar} : R (mresults P f σ (.tmp t :: rs) K) = R (mlet (E (f.get t)) σ (fun v _ => mresults P f σ rs fun vs => K (v :: vs))) := congrArg R rfl
theorem mresults_cell {K : List MV → Prop} {a : Nat} {t : TypeId} {rs : List ResultVar} : R (mresults P f σ (.cell a t :: rs) K) = R (mload P t (E (f.get a)) σ (fun v _ => mresults P f σ rs fun vs => K (v :: vs))) := congrArg R rfl
theorem oneOf_one {v : MV} : oneOf [v] = v := rfl
theorem oneOf_two {v w : MV} {vs : List MV} : oneOf (v :: w :: vs) = .tup (v :: w :: vs) := rfl
theorem oneOf_nil : oneOf [] = .tup [] := rfl
theorem cells_agg {cs : List MV} : (MV.agg cs).cells = cs := rfl
theorem cells_int {i : IntKind} {n : Int} : (MV.int i n).cells = [.int i n] := rfl
theorem cells_bool {b : Bool} : (MV.bool b).cells = [.bool b] := rfl
theorem cells_str {s : ByteArray} : (MV.str s).cells = [.str s] := rfl
theorem cells_nilp : MV.nilp.cells = [.nilp] := rfl
theorem cells_ptr {l i o : Nat} : (MV.ptr l i o).cells = [.ptr l i o] := rfl
theorem cells_cptr {cs : List MV} : (MV.cptr cs).cells = [.cptr cs] := rfl
theorem cells_nils : MV.nils.cells = [.nils] := rfl
theorem cells_lst {e : Nat} {xs : List (List MV)} {t : Bool} : (MV.lst e xs t).cells = [.lst e xs t] := rfl
theorem cells_vec {e l lo n : Nat} : (MV.vec e l lo n).cells = [.vec e l lo n] := rfl
theorem cells_nilm : MV.nilm.cells = [.nilm] := rfl
theorem cells_mapv {l : Nat} : (MV.mapv l).cells = [.mapv l] := rfl
theorem cells_nilfn : MV.nilfn.cells = [.nilfn] := rfl
theorem cells_fn {fn : Fn} {a b : List MV} : (MV.fn fn a b).cells = [.fn fn a b] := rfl
theorem weak_int {k k' : IntKind} {a b : Int} : Weak (.int k a) (.int k' b) ↔ k = k' ∧ a = b := ⟨fun h => by cases h; exact ⟨rfl, rfl⟩, fun ⟨h, g⟩ => h ▸ g ▸ .same _⟩
theorem weak_same {m : MV} : Weak m m ↔ True := ⟨fun _ => trivial, fun _ => .same m⟩
theorem all_nil {p : MV → Bool} : List.all [] p = true := rfl
theorem fa_nil {α : Type} {p : α → Prop} : (∀ c, c ∈ ([] : List α) → p c) ↔ True := by simp
theorem fa_cons {α : Type} {p : α → Prop} {a : α} {l : List α} : (∀ c, c ∈ a :: l → p c) ↔ p a ∧ ∀ c, c ∈ l → p c := by simp
theorem cell_int {i : IntKind} {n : Int} : (MV.int i n).isCell = true := rfl
theorem cell_bool {b : Bool} : (MV.bool b).isCell = true := rfl
theorem cell_str {s : ByteArray} : (MV.str s).isCell = true := rfl
theorem cell_nilp : MV.nilp.isCell = true := rfl
theorem cell_ptr {l i o : Nat} : (MV.ptr l i o).isCell = true := rfl
theorem cell_cptr {cs : List MV} : (MV.cptr cs).isCell = true := rfl
theorem cell_nils : MV.nils.isCell = true := rfl
theorem cell_lst {e : Nat} {xs : List (List MV)} {t : Bool} : (MV.lst e xs t).isCell = true := rfl
theorem cell_vec {e l lo n : Nat} : (MV.vec e l lo n).isCell = true := rfl
theorem cell_nilm : MV.nilm.isCell = true := rfl
theorem cell_mapv {l : Nat} : (MV.mapv l).isCell = true := rfl
theorem cell_nilfn : MV.nilfn.isCell = true := rfl
theorem cell_fn {fn : Fn} {a b : List MV} : (MV.fn fn a b).isCell = true := rfl
theorem cell_nili : MV.nili.isCell = true := rfl
theorem cell_iface {t : TypeId} {v : MV} : (MV.iface t v).isCell = true := rfl
theorem cells_nili : MV.nili.cells = [.nili] := rfl
theorem cells_iface {t : TypeId} {v : MV} : (MV.iface t v).cells = [.iface t v] := rfl
end
section
variable {P : Program} {f : FR} {σ : St} {k : MV → St → Prop} {K : FR → St → Prop}
theorem mstep_makeMap {dst : Option Tmp} {t : TypeId} : R (mstep P f σ dst K (.makeMap t none)) = R (mnew (E σ) fun l => K (mput f dst (.mapv l)) (σ.set l (.mp []))) := congrArg R rfl
theorem mstep_insert {dst : Option Tmp} {t : TypeId} {m x y : Operand} : R (mstep P f σ dst K (.insert t m x y)) = R (minsert P t (E (mval f m)) (E (mval f x)) (E (mval f y)) (E (mapOf σ (mval f m))) σ fun v σ' => K (mput f dst v) σ') := congrArg R rfl
theorem mstep_mapUpdate {dst : Option Tmp} {t : TypeId} {m x y : Operand} : R (mstep P f σ dst K (.mapUpdate t m x y)) = R (minsert P t (E (mval f m)) (E (mval f x)) (E (mval f y)) (E (mapOf σ (mval f m))) σ fun v σ' => K (mput f dst v) σ') := congrArg R rfl
theorem mstep_lookup {dst : Option Tmp} {t : TypeId} {m x : Operand} {ok : Bool} : R (mstep P f σ dst K (.lookup t m x ok)) = R (mlookup P t (E (mval f m)) (E (mval f x)) ok (E (mapOf σ (mval f m))) σ fun v σ' => K (mput f dst v) σ') := congrArg R rfl
def minsertK (P : Program) (d : TK) (l : Nat) (kd : IntKind) (n : Int) (y : MV) (es : List (MV × MV)) (σ : St) (k : MV → St → Prop) : Prop := match d with
 | .map kt _ => owes ((td P kt).k = .int kd ∧ (es.all fun p => isK kd p.1) = true) (mlet .junk (σ.set l (.mp (iput kd n y es))) k)
 | _ => False
theorem minsert_go {t : TypeId} {l : Nat} {kd : IntKind} {n : Int} {y : MV} {es : List (MV × MV)} : R (minsert P t (.mapv l) (.int kd n) y (some (.mp es)) σ k) = R (minsertK P (E (td P t).k) l kd n y es σ k) := congrArg R (by
 unfold minsert minsertK owes mlet E
 cases (td P t).k <;> rfl)
theorem minsertK_go {kt et : TypeId} {l : Nat} {kd : IntKind} {n : Int} {y : MV} {es : List (MV × MV)} : R (minsertK P (.map kt et) l kd n y es σ k) = R (owes (E ((td P kt).k = .int kd ∧ (es.all fun p => isK kd p.1) = true)) (mlet (E .junk) (σ.set l (.mp (iput kd n y es))) k)) := congrArg R rfl
def mlookupK (P : Program) (d : TK) (kd : IntKind) (n : Int) (ok : Bool) (es : List (MV × MV)) (σ : St) (k : MV → St → Prop) : Prop := match d with
 | .map kt et => owes ((td P kt).k = .int kd ∧ (td P et).zok = true ∧ (es.all fun p => isK kd p.1) = true) (mlet (if ok = true then .tup [(iget n es).getD (zval (td P et)), .bool (iget n es).isSome] else (iget n es).getD (zval (td P et))) σ k)
 | _ => False
theorem mlookup_go {t : TypeId} {l : Nat} {kd : IntKind} {n : Int} {ok : Bool} {es : List (MV × MV)} : R (mlookup P t (.mapv l) (.int kd n) ok (some (.mp es)) σ k) = R (mlookupK P (E (td P t).k) kd n ok es σ k) := congrArg R (by
 unfold mlookup mlookupK owes mlet E
 cases (td P t).k <;> rfl)
theorem mlookupK_go {kt et : TypeId} {kd : IntKind} {n : Int} {ok : Bool} {es : List (MV × MV)} : R (mlookupK P (.map kt et) kd n ok es σ k) = R (owes (E ((td P kt).k = .int kd ∧ (td P et).zok = true ∧ (es.all fun p => isK kd p.1) = true)) (mlet (E (if ok = true then .tup [(iget n es).getD (zval (td P et)), .bool (iget n es).isSome] else (iget n es).getD (zval (td P et)))) σ k)) := congrArg R rfl
theorem mapOf_map {l : Nat} : mapOf σ (.mapv l) = σ l := rfl
theorem iput_nil {kd : IntKind} {n : Int} {v : MV} : iput kd n v [] = [(.int kd n, v)] := rfl
theorem iput_hit {kd kd' : IntKind} {n : Int} {u v : MV} {r : List (MV × MV)} : iput kd n v ((.int kd' n, u) :: r) = (.int kd' n, v) :: r := by simp [iput]
theorem iput_miss {kd kd' : IntKind} {n m : Int} {u v : MV} {r : List (MV × MV)} (h : m ≠ n) : iput kd n v ((.int kd' m, u) :: r) = (.int kd' m, u) :: iput kd n v r := by simp [iput, h]
theorem iget_nil {n : Int} : iget n [] = none := rfl
theorem iget_hit {kd : IntKind} {n : Int} {u : MV} {r : List (MV × MV)} : iget n ((.int kd n, u) :: r) = some u := by simp [iget]
theorem iget_miss {kd : IntKind} {n m : Int} {u : MV} {r : List (MV × MV)} (h : m ≠ n) : iget n ((.int kd m, u) :: r) = iget n r := by simp [iget, h]
theorem isK_go {kd : IntKind} {n : Int} : isK kd (.int kd n) = true := by simp [isK]
end
attribute [go_sem ↓] lget_hit lget_nil lget_miss mcode_show mops_show gdst_show gdst_zero gdst_succ mcode_skip mcode_seq mcode_cond mcode_block mcode_scope mcode_label scopeQ_normal scopeQ_ret scopeQ_exit mcode_ret mcode_exit mcode_draw mcode_region mcode_loop thenQ_normal thenQ_ret thenQ_exit blockQ_normal blockQ_ret blockQ_hit blockQ_miss mops_nil mops_cons mops_guard mstep_defer mstep_slice mstep_clear mstep_append mstep_makeMap mstep_insert mstep_mapUpdate mstep_lookup mstep_go mop_move mop_assign mop_pick mop_nilCheck mop_binOp mop_unOp mop_convert mop_makeFunc mop_slice mop_fieldAddr mop_field mop_indexAddr mop_indexAddrG mop_index mop_extract mop_build mop_load mop_store mop_alloc mop_box mop_buildSlice mbuildSlice_eq mop_makeSlice mop_call mop_builtin mbcall_append mbcall_len mbcall_cap mbcall_min mbcall_max retQ_normal retQ_ret retQ_normalD retQ_retD mleave_nil mleave_cons mresults_nil mresults_tmp mresults_cell
attribute [go_sem] minsert_go minsertK_go mlookup_go mlookupK_go mapOf_map iput_nil iput_hit iput_miss iget_nil iget_hit iget_miss isK_go zval R_true R_not R_or R_eq R_and R_ex E_eq mfork_true mfork_false mfork_yes mfork_no mgfork_dy mgfork_dn mgfork_ey mgfork_en mgfork_skip mgfork_tt mgfork_tf mgfork_ft mgfork_ff gval_some mput_some mput_none get_mk mval_tmp mval_const mval_func ofV_bool ofV_int ofV_str ofV_nilp ofV_nils ofV_nilm ofV_nilfn ofV_nili mvs_beyond mvs_within mvs_lst mvs_str mvslice_row mvsl_slice mclr_vec mclear_row mclearK_slice mcallv_fn mdefv_fn mlet_go owes_true owes_go mpure_some mload_ptr mload_cptr mloadAt_row mstore_ptr mstoreAt_row set_hit set_miss del_miss none_apply set_set qpick_y qpick_n qpick_t qpick_f not_dec mfork_nn qnil_ptr qnil_cptr qextract_tup mbox_go mbs_slice mbin_add mbin_sub mbin_mul mbin_quo mbin_rem mbin_and mbin_or mbin_xor mbin_andNot mbin_eql mbin_neq mbin_lss mbin_leq mbin_gtr mbin_geq mbin_shl mbin_shr mbin_seql mbin_sneq mbin_sadd mbin_slss mbin_sgtr mbin_beql mbin_bneq mbin_pn mbin_np mbin_cn mbin_nn mbin_sl mbin_sn mbin_fz mbin_fn TK.isFn take_map' drop_map' app_map' List.length_take List.length_drop List.length_append getD_app toNat_succ if_pos if_neg set_over set_over2 set_over3 Fits del_set_hit none_del del_set_other eqV_eql eqV_neq mbin_agg maggEq_some dec_and dec_or meqs meqFields map_and mappend_go srcE msrcO mapp_nils mapp_lst mapp_vec mif_true mif_false mif_yes mif_no appRow mappv_row oneOf_one oneOf_two oneOf_nil cells_agg cells_int cells_bool cells_str cells_nilp cells_ptr cells_cptr cells_nils cells_lst cells_vec cells_nilm cells_mapv cells_nilfn cells_fn args0 mslice mfieldAddr mindexAddr mpart mindex mfield laid buildFrom mbuild mlen mmin2 mmax2 mun mconv msrc TK.isAgg TK.isSrc TK.isPtr TK.isSl TK.isBool cell_int cell_bool cell_str cell_nilp cell_ptr cell_cptr cell_nils cell_lst cell_vec cell_nilm cell_mapv cell_nilfn cell_fn cell_nili cell_iface cells_nili cells_iface fa_nil fa_cons List.map_cons List.map_nil List.length_cons List.length_nil List.length_map Int.toNat_natCast List.drop_succ_cons List.drop_zero List.drop_nil List.take_succ_cons List.take_zero List.take_nil List.getD_cons_zero List.getD_cons_succ List.getElem?_cons_zero List.getElem?_cons_succ List.set_cons_zero List.set_cons_succ List.all_cons List.all_nil List.cons_append List.nil_append List.append_nil List.toList_toArray Option.map_some Option.map_none Bool.and_self Bool.and_true Bool.true_and beq_self_eq_true IntWalk.i64_in IntWalk.u8_in IntWalk.u32_in IntWalk.i32_in IntWalk.u64_in decide_true decide_false Bool.not_true Bool.not_false if_true if_false and_true true_and and_self ne_eq not_true_eq_false not_false_eq_true eq_self reduceCtorEq MV.bool.injEq Nat.zero_add Nat.add_zero
end Go.Proofs.YtjljgahfkcdhfaaGreatDoor
end
