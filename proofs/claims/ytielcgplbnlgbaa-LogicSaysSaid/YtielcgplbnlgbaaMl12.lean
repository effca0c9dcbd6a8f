/- What simp goes by. -/
import Derived.Test.YtielcgplbnlgbaaMl11
set_option linter.unusedVariables false
set_option linter.unusedSimpArgs false
namespace Go.Proofs.Ytielcgplbnlgbaa
section
variable {P : Program} {f : FR} {σ : St} {k : MV → St → Prop} {t : TypeId}

theorem mbin_add {i : IntKind} {a b : Int} : mbin P t .add (.int i a) (.int i b) = some (True, .int i (i.wrap (a + b))) := by simp [mbin, intBin]
theorem mbin_sub {i : IntKind} {a b : Int} : mbin P t .sub (.int i a) (.int i b) = some (True, .int i (i.wrap (a - b))) := by simp [mbin, intBin]
theorem mbin_mul {i : IntKind} {a b : Int} : mbin P t .mul (.int i a) (.int i b) = some (True, .int i (i.wrap (a * b))) := by simp [mbin, intBin]
theorem mbin_quo {i : IntKind} {a b : Int} : mbin P t .quo (.int i a) (.int i b) = some (b ≠ 0, .int i (i.wrap (a.tdiv b))) := by simp [mbin, intBin]
theorem mbin_rem {i : IntKind} {a b : Int} : mbin P t .rem (.int i a) (.int i b) = some (b ≠ 0, .int i (a.tmod b)) := by simp [mbin, intBin]
theorem mbin_and {i : IntKind} {a b : Int} : mbin P t .and (.int i a) (.int i b) = some (True, .int i (andK i a b)) := by simp only [mbin, if_true, intBin]
theorem mbin_or {i : IntKind} {a b : Int} : mbin P t .or (.int i a) (.int i b) = some (True, .int i (orK i a b)) := by simp only [mbin, if_true, intBin]
theorem mbin_xor {i : IntKind} {a b : Int} : mbin P t .xor (.int i a) (.int i b) = some (True, .int i (xorK i a b)) := by simp only [mbin, if_true, intBin]
theorem mbin_andNot {i : IntKind} {a b : Int} : mbin P t .andNot (.int i a) (.int i b) = some (True, .int i (andNotK i a b)) := by simp only [mbin, if_true, intBin]
theorem mbin_eql {i : IntKind} {a b : Int} : mbin P t .eql (.int i a) (.int i b) = some (True, .bool (decide (a = b))) := by simp [mbin, intBin]; rfl
theorem mbin_neq {i : IntKind} {a b : Int} : mbin P t .neq (.int i a) (.int i b) = some (True, .bool (decide (¬ a = b))) := by simp [mbin, intBin]; rfl
theorem mbin_lss {i : IntKind} {a b : Int} : mbin P t .lss (.int i a) (.int i b) = some (True, .bool (decide (a < b))) := by simp [mbin, intBin]
theorem mbin_leq {i : IntKind} {a b : Int} : mbin P t .leq (.int i a) (.int i b) = some (True, .bool (decide (a ≤ b))) := by simp [mbin, intBin]
theorem mbin_gtr {i : IntKind} {a b : Int} : mbin P t .gtr (.int i a) (.int i b) = some (True, .bool (decide (b < a))) := by simp [mbin, intBin]
theorem mbin_geq {i : IntKind} {a b : Int} : mbin P t .geq (.int i a) (.int i b) = some (True, .bool (decide (b ≤ a))) := by simp [mbin, intBin]
theorem mbin_shl {i j : IntKind} {a b : Int} : mbin P t .shl (.int i a) (.int j b) = some (0 ≤ b, .int i (i.wrap (a * 2 ^ (min b.toNat i.bits)))) := by simp [mbin, intShift]
theorem mbin_shr {i j : IntKind} {a b : Int} : mbin P t .shr (.int i a) (.int j b) = some (0 ≤ b, .int i (a.fdiv (2 ^ (min b.toNat i.bits)))) := by simp [mbin, intShift]

theorem toList_eq_iff (x y : ByteArray) : x.toList = y.toList ↔ x = y := by
  rw [ByteArray.toList_eq, ByteArray.toList_eq]
  obtain ⟨⟨a⟩⟩ := x
  obtain ⟨⟨b⟩⟩ := y
  simp
theorem toList_beq (x y : ByteArray) : (x.toList == y.toList) = decide (x = y) := by
  rw [Bool.eq_iff_iff]; simp [toList_eq_iff]
theorem mbin_seql {x y : ByteArray} : mbin P t .eql (.str x) (.str y) = some (True, .bool (decide (x = y))) := by simp only [mbin, strBin, toList_beq]
theorem mbin_sneq {x y : ByteArray} : mbin P t .neq (.str x) (.str y) = some (True, .bool (decide (¬ x = y))) := by simp only [mbin, strBin, toList_beq]; simp
theorem mbin_sadd {x y : ByteArray} : mbin P t .add (.str x) (.str y) = some (((x.size + y.size : Nat) : Int) ≤ 9223372036854775807, .str (x ++ y)) := by simp only [mbin, strBin]
theorem mbin_slss {x y : ByteArray} : mbin P t .lss (.str x) (.str y) = some (True, .bool (Op.bytesLess x.toList y.toList)) := by simp only [mbin, strBin]
theorem mbin_sgtr {x y : ByteArray} : mbin P t .gtr (.str x) (.str y) = some (True, .bool (!(Op.bytesLess x.toList y.toList || decide (x = y)))) := by simp only [mbin, strBin, toList_beq]
theorem mbin_beql {x y : Bool} : mbin P t .eql (.bool x) (.bool y) = some ((td P t).k.isBool = true, .bool (x == y)) := rfl
theorem mbin_bneq {x y : Bool} : mbin P t .neq (.bool x) (.bool y) = some ((td P t).k.isBool = true, .bool (!(x == y))) := rfl
theorem mbin_pn {op : BinOp} {l i o : Nat} : mbin P t op (.ptr l i o) .nilp = eqV op ((td P t).k.isPtr = true) false := rfl
theorem mbin_np {op : BinOp} {l i o : Nat} : mbin P t op .nilp (.ptr l i o) = eqV op ((td P t).k.isPtr = true) false := rfl
theorem mbin_cn {op : BinOp} {cs : List MV} : mbin P t op (.cptr cs) .nilp = eqV op ((td P t).k.isPtr = true) false := rfl
theorem mbin_nn {op : BinOp} : mbin P t op .nilp .nilp = eqV op ((td P t).k.isPtr = true) true := rfl
def maggEq (P : Program) (op : BinOp) (t : TypeId) (o : Option Bool) : PV := match o with
  | some b => eqV op (eqPlain P t = true) b
  | none => none
theorem mbin_agg {op : BinOp} {xs ys : List MV} : mbin P t op (.agg xs) (.agg ys) = maggEq P op t (meqs P 6 t (.agg xs) (.agg ys)) := rfl
theorem maggEq_some {op : BinOp} {b : Bool} : maggEq P op t (some b) = eqV op (eqPlain P t = true) b := rfl
theorem set_none_intro {σ : St} {l k : Nat} {o : MObj} {p : Prop} (h : l ≠ k → k ≠ l → σ l = none → p) : (σ.set k o) l = none → p := fun hn =>
  have e : l ≠ k ∧ σ l = none := (set_none σ k l o).mp hn
  h e.1 (Ne.symm e.1) e.2
theorem del_set_hit (σ : St) (l : Nat) (o : MObj) : (σ.set l o).del l = σ.del l := by
  funext k; simp only [St.set, St.del]; split <;> rfl
theorem none_del (l : Nat) : St.none.del l = St.none := by
  funext k; simp only [St.none, St.del]; split <;> rfl
theorem take_map' {α β : Type} {f : α → β} {l : List α} {n : Nat} : (l.map f).take n = (l.take n).map f := by rw [List.map_take]
theorem drop_map' {α β : Type} {f : α → β} {l : List α} {n : Nat} : (l.map f).drop n = (l.drop n).map f := by rw [List.map_drop]
theorem app_map' {α β : Type} {f : α → β} {l r : List α} : l.map f ++ r.map f = (l ++ r).map f := by rw [List.map_append]
theorem set_over (σ : St) {l a : Nat} (o o' oa : MObj) (h : l ≠ a) : ((σ.set l o).set a oa).set l o' = (σ.set l o').set a oa := by rw [set_comm _ _ _ (Ne.symm h), set_set]
theorem set_over2 (σ : St) {l a b : Nat} (o o' oa ob : MObj) (h : l ≠ a) (h2 : l ≠ b) : (((σ.set l o).set a oa).set b ob).set l o' = ((σ.set l o').set a oa).set b ob := by rw [set_comm _ _ _ (Ne.symm h2), set_over _ _ _ _ h]
theorem set_over3 (σ : St) {l a b c : Nat} (o o' oa ob oc : MObj) (h : l ≠ a) (h2 : l ≠ b) (h3 : l ≠ c) : ((((σ.set l o).set a oa).set b ob).set c oc).set l o' = (((σ.set l o').set a oa).set b ob).set c oc := by rw [set_comm _ _ _ (Ne.symm h3), set_over2 _ _ _ _ _ h h2]
theorem getD_app {α : Type} {l r : List α} {n : Nat} {d : α} (h : n < l.length) : (l ++ r).getD n d = l.getD n d := by simp [List.getD, List.getElem?_append_left h]
theorem toNat_succ (n : Nat) : ((n : Int) + 1).toNat = n + 1 := by omega
theorem dec_and {p q : Prop} [Decidable p] [Decidable q] : (decide p && decide q) = decide (p ∧ q) := by simp
theorem dec_or {p q : Prop} [Decidable p] [Decidable q] : (decide p || decide q) = decide (p ∨ q) := by simp
theorem map_and {b : Bool} {o : Bool} : (some o).map (fun c => b && c) = some (b && o) := rfl
theorem eqV_eql {C : Prop} {b : Bool} : eqV .eql C b = some (C, .bool b) := rfl
theorem eqV_neq {C : Prop} {b : Bool} : eqV .neq C b = some (C, .bool (!b)) := rfl

/-! ### Calls of builtins -/
theorem mbcall_append {s x : Operand} {t xt : TypeId} : R (mbcall P f .append [s, x] [t, xt] σ k) = R (mappend P t xt (E (mval f s)) (E (mval f x)) σ k) := rfl
theorem mbcall_len {x : Operand} {t : TypeId} : R (mbcall P f .len [x] [t] σ k) = R (mpure σ k (E (mlen P t (mval f x)))) := congrArg R (by simp [mbcall, mbuiltin, E])
theorem mbcall_min {x y : Operand} {t u : TypeId} : R (mbcall P f .min [x, y] [t, u] σ k) = R (mpure σ k (E (mmin2 (mval f x) (mval f y)))) := congrArg R (by simp [mbcall, mbuiltin, E])
theorem mbcall_cap {x : Operand} {t : TypeId} : R (mbcall P f .cap [x] [t] σ k) = R (mpure σ k (E (mcap P t (mval f x)))) := congrArg R (by simp [mbcall, mbuiltin, E])
theorem mbcall_max {x y : Operand} {t u : TypeId} : R (mbcall P f .max [x, y] [t, u] σ k) = R (mpure σ k (E (mmax2 (mval f x) (mval f y)))) := congrArg R (by simp [mbcall, mbuiltin, E])

/-- A conversion, the kinds at hand. -/
def mcv (P : Program) (s d : TypeId) (ks kd : TK) (x : MV) (σ : St) (k : MV → St → Prop) : Prop :=
  match ks, kd, x with
  | .str, .slice el, .str b => ((td P el).k = .int .u8 ∧ b.size ≤ 140737488355328) ∧ ∀ l, σ l = none → k (.vec 1 l 0 b.size) (σ.set l (.row el 1 (b.toList.map fun c => [.int .u8 (c.toNat : Int)])))
  | .slice el, .str, .str _ => False
  | .slice el, .str, x => match msrc σ 1 x with
    | some ys => ((td P el).k = .int .u8 ∧ ys.all isByte = true) ∧ k (.str (bytesOf ys)) σ
    | none => False
  | _, _, x => mpure σ k (mconv P s d x)
theorem mconvert_go {s d : TypeId} {x : MV} : R (mconvert P s d x σ k) = R (mcv P s d (E (td P s).k) (E (td P d).k) x σ k) := congrArg R (by unfold mconvert mcv E; rfl)
theorem mcv_int {s d : TypeId} {i j j' : IntKind} {n : Int} : R (mcv P s d (.int j) (.int i) (.int j' n) σ k) = R (mpure σ k (E (mconv P s d (.int j' n)))) := rfl
theorem mcv_ss {s d : TypeId} {b : ByteArray} : R (mcv P s d .str .str (.str b) σ k) = R (mpure σ k (E (mconv P s d (.str b)))) := rfl
theorem mcv_sb {s d el : TypeId} {b : ByteArray} : R (mcv P s d .str (.slice el) (.str b) σ k) = R (owes (E ((td P el).k = .int .u8 ∧ b.size ≤ 140737488355328)) (mnew (E σ) (fun l => mlet (E (.vec 1 l 0 b.size)) (σ.set l (.row el 1 (b.toList.map fun c => [.int .u8 (c.toNat : Int)]))) k))) := rfl
def mcvs (P : Program) (el : TypeId) (o : Option (List (List MV))) (σ : St) (k : MV → St → Prop) : Prop := match o with
  | some ys => owes ((td P el).k = .int .u8 ∧ ys.all isByte = true) (mlet (.str (bytesOf ys)) σ k)
  | none => False
theorem mcv_bv {s d el : TypeId} {e l lo n : Nat} : R (mcv P s d (.slice el) .str (.vec e l lo n) σ k) = R (mcvs P el (E (msrc σ 1 (.vec e l lo n))) σ k) := congrArg R (by unfold mcv mcvs E; simp only; split <;> rfl)
theorem mcv_bl {s d el : TypeId} {e : Nat} {xs : List (List MV)} {t : Bool} : R (mcv P s d (.slice el) .str (.lst e xs t) σ k) = R (mcvs P el (E (msrc σ 1 (.lst e xs t))) σ k) := congrArg R (by unfold mcv mcvs E; simp only; split <;> rfl)
theorem mcv_bn {s d el : TypeId} : R (mcv P s d (.slice el) .str .nils σ k) = R (mcvs P el (E (msrc σ 1 .nils)) σ k) := congrArg R (by unfold mcv mcvs E; simp only; split <;> rfl)
theorem mcvs_some {el : TypeId} {ys : List (List MV)} : R (mcvs P el (some ys) σ k) = R (owes (E ((td P el).k = .int .u8 ∧ ys.all isByte = true)) (mlet (E (.str (bytesOf ys))) σ k)) := rfl
attribute [go_sem] mone_t mone_f mzapp_go mzap_nil TK.isInt mconvert_go mcv_int mcv_ss mcv_sb mcv_bv mcv_bl mcv_bn mcvs_some mconv mcap

/-- append, its parts at hand. -/
def mapp (P : Program) (d : TK) (xt : TypeId) (s : MV) (ys : Option (List (List MV))) (σ : St) (k : MV → St → Prop) : Prop :=
  match d with
  | .slice el => match ys with
    | some ys => match s with
      | .nils => owes ((td P xt).k.isSrc = true ∧ (td P el).zok = true ∧ Fits ys.length (td P el).bytes) (mnew σ fun l => mlet (.vec (td P el).size l 0 ys.length) (σ.set l (.row el (td P el).size ys)) k)
      | .lst e xs true => owes ((td P xt).k.isSrc = true ∧ (td P el).zok = true ∧ e = (td P el).size ∧ (xs = [] ∨ 0 < ys.length) ∧ Fits (xs.length + ys.length) (td P el).bytes)
          (mnew σ fun l => mlet (.vec (td P el).size l 0 (xs.length + ys.length)) (σ.set l (.row el (td P el).size (xs ++ ys))) k)
      | .vec e l lo n => match σ l with
        | some (.row tt e' xs) => owes ((td P xt).k.isSrc = true ∧ (td P el).zok = true ∧ e = (td P el).size ∧ e' = (td P el).size ∧ tt = el ∧ lo + n ≤ xs.length ∧ Fits (n + ys.length) (td P el).bytes)
            (mnew σ fun l' => mlet (.vec (td P el).size l' 0 (n + ys.length)) ((σ.del l).set l' (.row el (td P el).size (appRow xs lo n ys))) k)
        | _ => False
      | _ => False
    | none => False
  | _ => False
def srcE : TK → Option TypeId
  | .slice el => some el
  | _ => none
def msrcO (P : Program) (σ : St) (x : MV) : Option TypeId → Option (List (List MV))
  | some el => msrc σ (td P el).size x
  | none => none
theorem mappend_go {t xt : TypeId} {s x : MV} : R (mappend P t xt s x σ k) = R (mapp P (E (td P t).k) xt s (E (msrcO P σ x (srcE (td P t).k))) σ k) := congrArg R (by
  unfold mappend mapp msrcO srcE owes mnew mlet E
  cases (td P t).k <;> rfl)
theorem mapp_nils {el xt : TypeId} {ys : List (List MV)} : R (mapp P (.slice el) xt .nils (some ys) σ k) = R (owes (E ((td P xt).k.isSrc = true ∧ (td P el).zok = true ∧ Fits ys.length (td P el).bytes)) (mnew (E σ) (fun l => mlet (E (.vec (td P el).size l 0 ys.length)) (σ.set l (.row el (td P el).size ys)) k))) := rfl
theorem mapp_lst {el xt : TypeId} {ys xs : List (List MV)} {e : Nat} : R (mapp P (.slice el) xt (.lst e xs true) (some ys) σ k) = R (owes (E ((td P xt).k.isSrc = true ∧ (td P el).zok = true ∧ e = (td P el).size ∧ (xs = [] ∨ 0 < ys.length) ∧ Fits (xs.length + ys.length) (td P el).bytes))
          (mnew (E σ) (fun l => mlet (E (.vec (td P el).size l 0 (xs.length + ys.length))) (σ.set l (.row el (td P el).size (xs ++ ys))) k))) := rfl
def mappv (P : Program) (el xt : TypeId) (e l lo n : Nat) (o : Option MObj) (ys : List (List MV)) (σ : St) (k : MV → St → Prop) : Prop :=
  match o with
  | some (.row tt e' xs) => owes ((td P xt).k.isSrc = true ∧ (td P el).zok = true ∧ e = (td P el).size ∧ e' = (td P el).size ∧ tt = el ∧ lo + n ≤ xs.length ∧ Fits (n + ys.length) (td P el).bytes)
            (mnew σ fun l' => mlet (.vec (td P el).size l' 0 (n + ys.length)) ((σ.del l).set l' (.row el (td P el).size (appRow xs lo n ys))) k)
  | _ => False
theorem mapp_vec {el xt : TypeId} {ys : List (List MV)} {e l lo n : Nat} : R (mapp P (.slice el) xt (.vec e l lo n) (some ys) σ k) = R (mappv P el xt e l lo n (E (σ l)) ys σ k) := rfl
/-- Two cases of what is done. -/
def mif (c : Prop) (A B : Prop) : Prop := (c → A) ∧ (¬ c → B)
theorem mif_yes {c A B : Prop} (h : c) : R (mif c A B) = R A := by simp [mif, h]
theorem mif_no {c A B : Prop} (h : ¬ c) : R (mif c A B) = R B := by simp [mif, h]
theorem mif_go {c A B : Prop} (h1 : c → R A) (h2 : ¬ c → R B) : R (mif c A B) := ⟨h1, h2⟩
theorem mif_true {A B : Prop} : R (mif True A B) = R A := by simp [mif]
theorem mif_false {A B : Prop} : R (mif False A B) = R B := by simp [mif]
theorem mappv_row {el xt tt : TypeId} {ys xs : List (List MV)} {e e' l lo n : Nat} : R (mappv P el xt e l lo n (some (.row tt e' xs)) ys σ k) = R (mif (E (lo + n = xs.length))
            (owes (E ((td P xt).k.isSrc = true ∧ (td P el).zok = true ∧ e = (td P el).size ∧ e' = (td P el).size ∧ tt = el ∧ Fits (n + ys.length) (td P el).bytes))
              (mnew (E σ) (fun l' => mlet (E (.vec (td P el).size l' 0 (n + ys.length))) ((σ.del l).set l' (.row el (td P el).size (xs.drop lo ++ ys))) k)))
            (owes (E ((td P xt).k.isSrc = true ∧ (td P el).zok = true ∧ e = (td P el).size ∧ e' = (td P el).size ∧ tt = el ∧ lo + n ≤ xs.length ∧ Fits (n + ys.length) (td P el).bytes))
              (mnew (E σ) (fun l' => mlet (E (.vec (td P el).size l' 0 (n + ys.length))) ((σ.del l).set l' (.row el (td P el).size (appRow xs lo n ys))) k)))) := by
  apply congrArg R
  simp only [mappv, mif, E]
  by_cases h : lo + n = xs.length
  · simp only [h, true_implies, not_true_eq_false, false_implies, and_true, Nat.le_refl, true_and, appRow_end h]
  · simp only [h, false_implies, not_false_eq_true, true_implies, true_and]

/-! ### Results -/
theorem retQ_normal {rs : List ResultVar} {Q : MV → St → Prop} {n : Nat} {l : List (Nat × MV)} : R (retQ P rs Q .normal ⟨n, l, []⟩ σ) = R (mresults P ⟨n, l, []⟩ σ rs fun vs => Q (oneOf vs) σ) := rfl
theorem retQ_ret {rs : List ResultVar} {Q : MV → St → Prop} {n : Nat} {l : List (Nat × MV)} : R (retQ P rs Q .ret ⟨n, l, []⟩ σ) = R (mresults P ⟨n, l, []⟩ σ rs fun vs => Q (oneOf vs) σ) := rfl
theorem retQ_normalD {rs : List ResultVar} {Q : MV → St → Prop} {n : Nat} {l : List (Nat × MV)} {g : FuncId} {ms : List MV} {d : List (FuncId × List MV)} : R (retQ P rs Q .normal ⟨n, l, (g, ms) :: d⟩ σ) = R (MDefers P g ms σ fun σ' => mleave P n l rs Q d σ') := rfl
theorem retQ_retD {rs : List ResultVar} {Q : MV → St → Prop} {n : Nat} {l : List (Nat × MV)} {g : FuncId} {ms : List MV} {d : List (FuncId × List MV)} : R (retQ P rs Q .ret ⟨n, l, (g, ms) :: d⟩ σ) = R (MDefers P g ms σ fun σ' => mleave P n l rs Q d σ') := rfl
theorem mleave_nil {rs : List ResultVar} {Q : MV → St → Prop} {n : Nat} {l : List (Nat × MV)} : R (mleave P n l rs Q [] σ) = R (mresults P ⟨n, l, []⟩ σ rs fun vs => Q (oneOf vs) σ) := rfl
theorem mleave_cons {rs : List ResultVar} {Q : MV → St → Prop} {n : Nat} {l : List (Nat × MV)} {g : FuncId} {ms : List MV} {d : List (FuncId × List MV)} : R (mleave P n l rs Q ((g, ms) :: d) σ) = R (MDefers P g ms σ fun σ' => mleave P n l rs Q d σ') := rfl
theorem mresults_nil {K : List MV → Prop} : R (mresults P f σ [] K) = R (K []) := rfl
theorem mresults_tmp {K : List MV → Prop} {t : Nat} {rs : List ResultVar} : R (mresults P f σ (.tmp t :: rs) K) = R (mlet (E (f.get t)) σ (fun v _ => mresults P f σ rs fun vs => K (v :: vs))) := rfl
theorem mresults_cell {K : List MV → Prop} {a : Nat} {t : TypeId} {rs : List ResultVar} : R (mresults P f σ (.cell a t :: rs) K) = R (mload P t (E (f.get a)) σ (fun v _ => mresults P f σ rs fun vs => K (v :: vs))) := rfl
theorem oneOf_one {v : MV} : oneOf [v] = v := rfl
theorem oneOf_two {v w : MV} {vs : List MV} : oneOf (v :: w :: vs) = .tup (v :: w :: vs) := rfl
theorem oneOf_nil : oneOf [] = .tup [] := rfl

theorem cells_agg {cs : List MV} : (MV.agg cs).cells = cs := rfl
theorem cells_int {i : IntKind} {n : Int} : (MV.int i n).cells = [.int i n] := rfl
theorem cells_bool {b : Bool} : (MV.bool b).cells = [.bool b] := rfl
theorem cells_str {s : ByteArray} : (MV.str s).cells = [.str s] := rfl
theorem cells_nilp : MV.nilp.cells = [.nilp] := rfl
theorem cells_ptr {l i o : Nat} : (MV.ptr l i o).cells = [.ptr l i o] := rfl
theorem cells_cptr {cs : List MV} : (MV.cptr cs).cells = [.cptr cs] := rfl
theorem cells_nils : MV.nils.cells = [.nils] := rfl
theorem cells_lst {e : Nat} {xs : List (List MV)} {t : Bool} : (MV.lst e xs t).cells = [.lst e xs t] := rfl
theorem cells_vec {e l lo n : Nat} : (MV.vec e l lo n).cells = [.vec e l lo n] := rfl
theorem cells_nilm : MV.nilm.cells = [.nilm] := rfl
theorem cells_mapv {l : Nat} : (MV.mapv l).cells = [.mapv l] := rfl
theorem cells_nilfn : MV.nilfn.cells = [.nilfn] := rfl
theorem cells_fn {fn : Fn} {a b : List MV} : (MV.fn fn a b).cells = [.fn fn a b] := rfl
theorem getD_map {α : Type} {f : α → List MV} {l : List α} {n : Nat} (h : n < l.length) : (l.map f).getD n [] = f (l[n]'h) := by simp [List.getD, h]
theorem weak_int {k k' : IntKind} {a b : Int} : Weak (.int k a) (.int k' b) ↔ k = k' ∧ a = b := ⟨fun h => by cases h; exact ⟨rfl, rfl⟩, fun ⟨h, g⟩ => h ▸ g ▸ .same _⟩
theorem weak_bool {a b : Bool} : Weak (.bool a) (.bool b) ↔ a = b := ⟨fun h => by cases h; rfl, fun h => h ▸ .same _⟩
theorem weak_str {a b : ByteArray} : Weak (.str a) (.str b) ↔ a = b := ⟨fun h => by cases h; rfl, fun h => h ▸ .same _⟩
theorem weak_same {m : MV} : Weak m m ↔ True := ⟨fun _ => trivial, fun _ => .same m⟩
theorem weak_junk {m : MV} : Weak m .junk ↔ True := ⟨fun _ => trivial, fun _ => .junk m⟩
theorem all_nil {p : MV → Bool} : List.all [] p = true := rfl
theorem fa_nil {α : Type} {p : α → Prop} : (∀ c, c ∈ ([] : List α) → p c) ↔ True := by simp
theorem fa_cons {α : Type} {p : α → Prop} {a : α} {l : List α} : (∀ c, c ∈ a :: l → p c) ↔ p a ∧ ∀ c, c ∈ l → p c := by simp
theorem cell_int {i : IntKind} {n : Int} : (MV.int i n).isCell = true := rfl
theorem cell_bool {b : Bool} : (MV.bool b).isCell = true := rfl
theorem cell_str {s : ByteArray} : (MV.str s).isCell = true := rfl
theorem cell_nilp : MV.nilp.isCell = true := rfl
theorem cell_ptr {l i o : Nat} : (MV.ptr l i o).isCell = true := rfl
theorem cell_cptr {cs : List MV} : (MV.cptr cs).isCell = true := rfl
theorem cell_nils : MV.nils.isCell = true := rfl
theorem cell_lst {e : Nat} {xs : List (List MV)} {t : Bool} : (MV.lst e xs t).isCell = true := rfl
theorem cell_vec {e l lo n : Nat} : (MV.vec e l lo n).isCell = true := rfl
theorem cell_nilm : MV.nilm.isCell = true := rfl
theorem cell_mapv {l : Nat} : (MV.mapv l).isCell = true := rfl
theorem cell_nilfn : MV.nilfn.isCell = true := rfl
theorem cell_fn {fn : Fn} {a b : List MV} : (MV.fn fn a b).isCell = true := rfl
theorem cell_nili : MV.nili.isCell = true := rfl
theorem cell_iface {t : TypeId} {v : MV} : (MV.iface t v).isCell = true := rfl
theorem cells_nili : MV.nili.cells = [.nili] := rfl
theorem cells_iface {t : TypeId} {v : MV} : (MV.iface t v).cells = [.iface t v] := rfl

end

attribute [go_sem ↓] lget_hit lget_nil lget_miss mcode_show mops_show gdst_show gdst_zero gdst_succ mcode_skip mcode_seq mcode_cond mcode_block mcode_ret mcode_exit mcode_draw mcode_region mcode_loop thenQ_normal thenQ_ret thenQ_exit blockQ_normal blockQ_ret blockQ_hit blockQ_miss mops_nil mops_cons mops_guard mstep_defer mstep_slice mstep_clear mstep_append mstep_go mop_move mop_assign mop_pick mop_nilCheck mop_binOp mop_unOp mop_convert mop_makeFunc mop_slice mop_fieldAddr mop_field mop_indexAddr mop_index mop_extract mop_build mop_load mop_store mop_alloc mop_box mop_buildSlice mbuildSlice_eq mop_makeSlice mop_call mop_builtin mbcall_append mbcall_len mbcall_cap mbcall_min mbcall_max retQ_normal retQ_ret retQ_normalD retQ_retD mleave_nil mleave_cons mresults_nil mresults_tmp mresults_cell

attribute [go_sem] R_true R_not R_or R_eq R_and R_ex E_eq mfork_true mfork_false mfork_yes mfork_no mgfork_dy mgfork_dn mgfork_ey mgfork_en mgfork_tt mgfork_tf mgfork_ft mgfork_ff gval_some mput_some mput_none get_mk mval_tmp mval_const mval_func ofV_bool ofV_int ofV_str ofV_nilp ofV_nils ofV_nilm ofV_nilfn ofV_nili mvs_beyond mvs_within mvs_lst mvs_str mvslice_row mvsl_slice mclr_vec mclear_row mclearK_slice mcallv_fn mdefv_fn mlet_go owes_true owes_go mpure_some mload_ptr mload_cptr mloadAt_row mstore_ptr mstoreAt_row set_hit set_miss del_miss none_apply set_set qpick_y qpick_n qpick_t qpick_f not_dec mfork_nn qnil_ptr qnil_cptr qextract_tup mbox_go mbs_slice mbin_add mbin_sub mbin_mul mbin_quo mbin_rem mbin_and mbin_or mbin_xor mbin_andNot mbin_eql mbin_neq mbin_lss mbin_leq mbin_gtr mbin_geq mbin_shl mbin_shr mbin_seql mbin_sneq mbin_sadd mbin_slss mbin_sgtr mbin_beql mbin_bneq mbin_pn mbin_np mbin_cn mbin_nn take_map' drop_map' app_map' List.length_take List.length_drop List.length_append getD_app toNat_succ if_pos if_neg set_over set_over2 set_over3 Fits del_set_hit none_del del_set_other eqV_eql eqV_neq mbin_agg maggEq_some dec_and dec_or meqs meqFields map_and mappend_go srcE msrcO mapp_nils mapp_lst mapp_vec mif_true mif_false mif_yes mif_no appRow mappv_row oneOf_one oneOf_two oneOf_nil cells_agg cells_int cells_bool cells_str cells_nilp cells_ptr cells_cptr cells_nils cells_lst cells_vec cells_nilm cells_mapv cells_nilfn cells_fn args0 mslice mfieldAddr mindexAddr mpart mindex mfield laid buildFrom mbuild mlen mmin2 mmax2 mun mconv msrc TK.isAgg TK.isSrc TK.isPtr TK.isBool cell_int cell_bool cell_str cell_nilp cell_ptr cell_cptr cell_nils cell_lst cell_vec cell_nilm cell_mapv cell_nilfn cell_fn cell_nili cell_iface cells_nili cells_iface fa_nil fa_cons List.map_cons List.map_nil List.length_cons List.length_nil List.length_map Int.toNat_natCast List.drop_succ_cons List.drop_zero List.drop_nil List.take_succ_cons List.take_zero List.take_nil List.getD_cons_zero List.getD_cons_succ List.getElem?_cons_zero List.getElem?_cons_succ List.set_cons_zero List.set_cons_succ List.all_cons List.all_nil List.cons_append List.nil_append List.append_nil List.toList_toArray Option.map_some Option.map_none Bool.and_self Bool.and_true Bool.true_and beq_self_eq_true IntWalk.i64_in IntWalk.u8_in IntWalk.u32_in IntWalk.i32_in IntWalk.u64_in decide_true decide_false Bool.not_true Bool.not_false if_true if_false and_true true_and and_self ne_eq not_true_eq_false not_false_eq_true eq_self reduceCtorEq MV.bool.injEq Nat.zero_add Nat.add_zero

end Go.Proofs.Ytielcgplbnlgbaa
