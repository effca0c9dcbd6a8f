/- Parts of the proof, joined. Each part says what it proves, and under which conditions it does: those that its theorems name. -/
import Derived.Test.YtfbodefnblpflaaGreatDoorMcl
import Derived.Test.YtfbodefnblpflaaGreatDoorMcm
import Derived.OpenShut
import Derived.ChangeSame
import Derived.Carry
import Derived.RowKit
import Derived.JoinedOf
import Derived.JoinedAt
set_option linter.unusedVariables false
set_option linter.unusedSimpArgs false
set_option maxHeartbeats 4000000
section
namespace Go.Proofs.YtfbodefnblpflaaGreatDoor
section
variable {P : Program} {C : YC} {f : FR} {σ : St} {t : Option Nat} {Q : YQ} {q : MQ} {c : Code}
theorem mwalk (h : R (mcode P (@OfNat.ofNat Code (nat_lit 0) (@_root_.id (OfNat Code (nat_lit 0)) (OfNat.mk c))) f σ q)) : mwp P c f σ q := mcode_sound c f σ q h
theorem ywalk (h : R (mcode P (@OfNat.ofNat Code (nat_lit 0) (@_root_.id (OfNat Code (nat_lit 0)) (OfNat.mk c))) f σ (fun e f' σ' => Q e f' σ' t))) : ywp P C c f σ t Q := ywp_of (mcode_sound c f σ _ h)
theorem thenY_normal {k : FR → St → Option Nat → Prop} : R (thenY k Q .normal f σ t) = R (k f σ t) := congrArg R rfl
theorem thenY_ret {k : FR → St → Option Nat → Prop} : R (thenY k Q .ret f σ t) = R (Q .ret f σ t) := congrArg R rfl
theorem thenY_exit {k : FR → St → Option Nat → Prop} {id : Nat} : R (thenY k Q (.exit id) f σ t) = R (Q (.exit id) f σ t) := congrArg R rfl
theorem blockY_normal {id : Nat} : R (blockY id Q .normal f σ t) = R (Q .normal f σ t) := congrArg R rfl
theorem blockY_ret {id : Nat} : R (blockY id Q .ret f σ t) = R (Q .ret f σ t) := congrArg R rfl
theorem blockY_exit {id : Nat} : R (blockY id Q (.exit id) f σ t) = R (Q .normal f σ t) := congrArg R (by simp [blockY])
theorem onlyN_normal {k : FR → St → Prop} : R (onlyN k .normal f σ) = R (k f σ) := congrArg R rfl
theorem onlyNY_normal {k : FR → St → Option Nat → Prop} : R (onlyNY k .normal f σ t) = R (k f σ t) := congrArg R rfl
theorem roundQ_normal {fc : FR} {n : St → Prop} : R (roundQ q fc n .normal f σ) = R (Gh f σ fun _ σ1 => n σ1) := congrArg R rfl
theorem roundQ_ret {fc : FR} {n : St → Prop} : R (roundQ q fc n .ret f σ) = R (Gh f σ fun _ σ1 => q .ret fc σ1) := congrArg R rfl
theorem roundQ_exit {fc : FR} {n : St → Prop} {id : Nat} : R (roundQ q fc n (.exit id) f σ) = R (Gh f σ fun _ σ1 => q (.exit id) fc σ1) := congrArg R rfl
theorem roundY_normal {fc : FR} {n : St → Option Nat → Prop} : R (roundY Q fc n .normal f σ t) = R (Gh f σ fun _ σ1 => n σ1 t) := congrArg R rfl
theorem roundY_ret {fc : FR} {n : St → Option Nat → Prop} : R (roundY Q fc n .ret f σ t) = R (Gh f σ fun _ σ1 => Q .ret fc σ1 t) := congrArg R rfl
theorem roundY_exit {fc : FR} {n : St → Option Nat → Prop} {id : Nat} : R (roundY Q fc n (.exit id) f σ t) = R (Gh f σ fun _ σ1 => Q (.exit id) fc σ1 t) := congrArg R rfl
theorem retY_normal {n : Nat} : R (retY n .normal f σ t) = R (f.d = [] ∧ (t = some n ∨ t = none)) := congrArg R rfl
theorem retY_ret {n : Nat} : R (retY n .ret f σ t) = R (f.d = [] ∧ (t = some n ∨ t = none)) := congrArg R rfl
def noDef (l : List Oper) : Bool := l.all fun o => match o.op with | .defer _ => false | _ => true
theorem noDef_spec {l : List Oper} (h : noDef l = true) : ∀ o, o ∈ l → ∀ c, o.op ≠ .defer c := fun o ho c e => by
 have := List.all_eq_true.1 h o ho
 rw [e] at this
 cases this
theorem ywp_yield {id : Nat} {ops : Array Oper} (pre : List Oper) (y : Oper) (post : List Oper) {o : Operand} {args : Array Operand} {ts : Array TypeId} {i : Nat} {x : List MV} (ho : ops.toList = pre ++ y :: post) (hd : (noDef pre && noDef post) = true)
  (hy : y.op = .call ⟨.value o, args, ts⟩) (hg : y.guard = none) (ht : t = some i) (hx : C.xs[i]? = some x) (hno : ∀ m, m ∈ x → NoObj m) (hspec : YSpec P C.l C.xs C.Y C.Yx C.Φ0 C.σ0 C.n0)
  (h : R (mops P (@OfNat.ofNat (Array Oper) (nat_lit 0) (@_root_.id (OfNat (Array Oper) (nat_lit 0)) (OfNat.mk ops))) (fun f1 σ1 => mval f1 o = .fn (.yield C.l) [] [] ∧ args.toList.map (mval f1) = x ∧
   mops P (@OfNat.ofNat (Array Oper) (nat_lit 0) (@_root_.id (OfNat (Array Oper) (nat_lit 0)) (OfNat.mk ops))) (fun f2 σ2 => Q .normal f2 σ2 (some (i + 1))) (@OfNat.ofNat (List Oper) (nat_lit 0) (@_root_.id (OfNat (List Oper) (nat_lit 0)) (OfNat.mk post))) (mput f1 y.dst (.bool true)) σ1 ∧
   mops P (@OfNat.ofNat (Array Oper) (nat_lit 0) (@_root_.id (OfNat (Array Oper) (nat_lit 0)) (OfNat.mk ops))) (fun f2 σ2 => Q .normal f2 σ2 none) (@OfNat.ofNat (List Oper) (nat_lit 0) (@_root_.id (OfNat (List Oper) (nat_lit 0)) (OfNat.mk post))) (mput f1 y.dst (.bool false)) σ1)
   (@OfNat.ofNat (List Oper) (nat_lit 0) (@_root_.id (OfNat (List Oper) (nat_lit 0)) (OfNat.mk pre))) f σ)) : ywp P C (.region id ops false) f σ t Q := by
 have hd := Bool.and_eq_true_iff.1 hd
 exact ywp_region pre y post ho (noDef_spec hd.1) (noDef_spec hd.2) hy hg ht hx hno hspec h
end
attribute [go_sem ↓] thenY_normal thenY_ret thenY_exit blockY_normal blockY_ret blockY_exit onlyN_normal onlyNY_normal roundQ_normal roundQ_ret roundQ_exit roundY_normal roundY_ret roundY_exit retY_normal retY_ret
end Go.Proofs.YtfbodefnblpflaaGreatDoor
end

section
namespace Go.Proofs.YtfbodefnblpflaaGreatDoor
set_option maxRecDepth 100000
set_option maxHeartbeats 4000000
theorem wrap32' {n : Nat} (h : n < 4294967296) : IntKind.u32.wrap (n : Int) = (n : Int) := by
 simp only [IntKind.wrap, IntKind.signed, IntKind.bits]
 simp
 omega
theorem and32 (a b : Nat) (ha : a < 4294967296) (hb : b < 4294967296) : andK .u32 (a : Int) (b : Int) = ((a &&& b : Nat) : Int) := by
 have hab : a &&& b < 4294967296 := Nat.lt_of_le_of_lt Nat.and_le_left ha
 unfold andK
 have e : (BitVec.ofInt IntKind.u32.bits (a : Int) &&& BitVec.ofInt IntKind.u32.bits (b : Int)).toNat = a &&& b := by
  rw [BitVec.toNat_and]
  simp only [BitVec.ofInt_natCast, BitVec.toNat_ofNat, IntKind.bits]
  rw [Nat.mod_eq_of_lt (by omega), Nat.mod_eq_of_lt (by omega)]
 rw [e]
 exact wrap32' hab
theorem or32 (a b : Nat) (ha : a < 4294967296) (hb : b < 4294967296) : orK .u32 (a : Int) (b : Int) = ((a ||| b : Nat) : Int) := by
 have hab : a ||| b < 2 ^ 32 := Nat.or_lt_two_pow (by omega) (by omega)
 unfold orK
 have e : (BitVec.ofInt IntKind.u32.bits (a : Int) ||| BitVec.ofInt IntKind.u32.bits (b : Int)).toNat = a ||| b := by
  rw [BitVec.toNat_or]
  simp only [BitVec.ofInt_natCast, BitVec.toNat_ofNat, IntKind.bits]
  rw [Nat.mod_eq_of_lt (by omega), Nat.mod_eq_of_lt (by omega)]
 rw [e]
 exact wrap32' hab
theorem andNot32 (a b : Nat) (ha : a < 4294967296) (hb : b < 4294967296) : andNotK .u32 (a : Int) (b : Int) = ((a &&& (4294967295 - b) : Nat) : Int) := by
 have hab : a &&& (4294967295 - b) < 4294967296 := Nat.lt_of_le_of_lt Nat.and_le_left ha
 unfold andNotK
 have e : (BitVec.ofInt IntKind.u32.bits (a : Int) &&& ~~~BitVec.ofInt IntKind.u32.bits (b : Int)).toNat = a &&& (4294967295 - b) := by
  rw [BitVec.toNat_and, BitVec.toNat_not]
  simp only [BitVec.ofInt_natCast, BitVec.toNat_ofNat, IntKind.bits]
  rw [Nat.mod_eq_of_lt (by omega), Nat.mod_eq_of_lt (by omega)]
 rw [e]
 exact wrap32' hab
theorem pbit_call (n : Nat) (h : n < 32) : MCalls Tryz.prog 196 [.int .i64 (n : Int)] St.none (fun r _ => r = .int .u32 ((2 ^ n : Nat) : Int)) := by
 refine (MCalls.body 12 [.tmp 2] Tryz.func196 rfl rfl rfl rfl ?_)
 repeat' (first | (with_reducible first | (refine wN fun _ hnl => ?_; revert hnl; (repeat refine wS fun _ _ => ?_); intro hnl) | refine wE ?_ | (refine wK ?_ ?_ <;> intro h) | (refine wB ?_ ?_ <;> intro h <;> simp only [h])) | simp (maxSteps := 4000000) (disch := first | decide | assumption | omega | (simp only [wL]; omega)) only [go_sem, simprocAttr, Tryz.f196])
 rw [Nat.min_eq_left (by omega), Int.one_mul, show (2 : Int) ^ n = ((2 ^ n : Nat) : Int) by simp]
 exact congrArg _ (wrap32' (Nat.pow_lt_pow_right (a := 2) (n := 32) (by decide) h))
theorem low9 (m : Nat) (h : m < 4294967296) : m &&& (4294967295 - 511) = 0 ↔ m ≤ 511 := by
 have e : ∀ i, (4294967295 - 511 : Nat).testBit i = (decide (9 ≤ i) && decide (i < 32)) := by
  intro i
  by_cases hi : i < 32
  ·have : ∀ i, i < 32 → (4294967295 - 511 : Nat).testBit i = (decide (9 ≤ i) && decide (i < 32)) := by decide
   exact this i hi
  ·rw [Nat.testBit_lt_two_pow (Nat.lt_of_lt_of_le (show 4294967295 - 511 < 2 ^ 32 by decide) (Nat.pow_le_pow_right (by decide) (by omega))), decide_eq_false hi, Bool.and_false]
 constructor
 ·intro h0
  refine Classical.byContradiction fun hn => ?_
  have h1 : m / 2 ^ 9 ≠ 0 := by omega
  obtain ⟨i, hi⟩ := Nat.exists_testBit_of_ne_zero h1
  rw [Nat.testBit_div_two_pow] at hi
  have hi32 : i + 9 < 32 := by
   refine Classical.byContradiction fun hc => ?_
   rw [Nat.testBit_lt_two_pow (Nat.lt_of_lt_of_le (show m < 2 ^ 32 from h) (Nat.pow_le_pow_right (by decide) (by omega)))] at hi
   cases hi
  have h2 := congrArg (fun x => Nat.testBit x (i + 9)) h0
  simp only [Nat.testBit_and, Nat.zero_testBit, e, hi] at h2
  rw [decide_eq_true (by omega), decide_eq_true hi32] at h2
  cases h2
 ·intro hm
  refine Nat.eq_of_testBit_eq fun i => ?_
  rw [Nat.testBit_and, Nat.zero_testBit, e]
  by_cases hi : 9 ≤ i
  ·rw [Nat.testBit_lt_two_pow (Nat.lt_of_lt_of_le (show m < 2 ^ 9 by omega) (Nat.pow_le_pow_right (by decide) hi)), Bool.false_and]
  ·rw [decide_eq_false hi, Bool.false_and, Bool.and_false]
theorem pmcheck_call (m : UInt32) : MCalls Tryz.prog 102 [.int .u32 (m.toNat : Int)] St.none (fun r _ => r = .bool (decide (m.toNat ≤ 511))) := by
 refine (MCalls.body 5 [.tmp 2] Tryz.func102 rfl rfl rfl rfl ?_)
 have hm := m.toNat_lt
 have h : MCalls Tryz.prog 157 [.int .u32 (m.toNat : Int), .int .u32 511] St.none (fun r _ => r = .bool (decide (m.toNat ≤ 511))) := by
  refine (MCalls.body 9 [.tmp 4] Tryz.func157 rfl rfl rfl rfl ?_)
  have e : andNotK .u32 (m.toNat : Int) 511 = _ := andNot32 m.toNat 511 hm (by decide)
  repeat' (first | (with_reducible first | (refine wN fun _ hnl => ?_; revert hnl; (repeat refine wS fun _ _ => ?_); intro hnl) | refine wE ?_ | (refine wK ?_ ?_ <;> intro h) | (refine wB ?_ ?_ <;> intro h <;> simp only [h])) | simp (maxSteps := 4000000) (disch := first | decide | assumption | omega | (simp only [wL]; omega)) only [go_sem, simprocAttr, Tryz.f157, e])
  exact decide_eq_decide.mpr ⟨fun h => (low9 m.toNat hm).1 (by exact_mod_cast h), fun h => by rw [(low9 m.toNat hm).2 h]; rfl⟩
 repeat' (first | (with_reducible first | refine up h ?_) | (with_reducible first | (refine wN fun _ hnl => ?_; revert hnl; (repeat refine wS fun _ _ => ?_); intro hnl) | refine wE ?_ | (refine wK ?_ ?_ <;> intro h) | (refine wB ?_ ?_ <;> intro h <;> simp only [h])) | simp (maxSteps := 4000000) (disch := first | decide | assumption | omega | (simp only [wL]; omega)) only [go_sem, simprocAttr, Tryz.f102])
theorem and_pow (m k : Nat) : m &&& 2 ^ k = if m.testBit k = true then 2 ^ k else 0 := by
 refine Nat.eq_of_testBit_eq fun i => ?_
 rw [Nat.testBit_and, Nat.testBit_two_pow]
 by_cases h : k = i
 ·subst h
  cases hb : m.testBit k
  ·simp
  ·simp [Nat.testBit_two_pow]
 ·cases m.testBit k
  ·simp [h]
  ·simp [h, Nat.testBit_two_pow]
theorem pmlab_call (m : UInt32) : MCalls Tryz.prog 150 [.int .u32 (m.toNat : Int)] St.none (fun r _ => r = .bool (bit m.toNat 8)) := by
 refine (MCalls.body 6 [.tmp 2] Tryz.func150 rfl rfl rfl rfl ?_)
 have hm := m.toNat_lt
 have e : andK .u32 (m.toNat : Int) 256 = _ := and32 m.toNat 256 hm (by decide)
 repeat' (first | (with_reducible first | (refine wN fun _ hnl => ?_; revert hnl; (repeat refine wS fun _ _ => ?_); intro hnl) | refine wE ?_ | (refine wK ?_ ?_ <;> intro h) | (refine wB ?_ ?_ <;> intro h <;> simp only [h])) | simp (maxSteps := 4000000) (disch := first | decide | assumption | omega | (simp only [wL]; omega)) only [go_sem, simprocAttr, Tryz.f150, e])
 rw [show (256 : Nat) = 2 ^ 8 by decide, and_pow]
 unfold bit
 cases m.toNat.testBit 8 <;> rfl
theorem pof_call (L : List Nat) (hL : ∀ i, i ∈ L → i < 32) (t : Bool) (hl : L.length ≤ 1000000) : MCalls Tryz.prog 188 [.lst 1 (L.map fun (i : Nat) => [.int .i64 (i : Int)]) t] St.none (fun r _ => r = .int .u32 ((L.foldl (fun s n => s ||| 2 ^ n) 0 : Nat) : Int)) := by
 refine (MCalls.body 18 [.tmp 2] Tryz.func188 rfl rfl rfl rfl ?_)
 repeat' (first | (with_reducible first | (refine wN fun _ hnl => ?_; revert hnl; (repeat refine wS fun _ _ => ?_); intro hnl) | refine wE ?_ | (refine wK ?_ ?_ <;> intro h) | (refine wB ?_ ?_ <;> intro h <;> simp only [h])) | simp (maxSteps := 4000000) (disch := first | decide | assumption | omega | (simp only [wL]; omega)) only [go_sem, simprocAttr, Tryz.f188])
 refine mloop_intro (α := Nat) (fun k => ⟨18, [(8, .int .i64 (k : Int)), (7, .int .i64 (L.length : Int)), (6, .lst 1 (L.map fun (i : Nat) => [.int .i64 (i : Int)]) t), (3, .int .u32 (((L.take k).foldl (fun s n => s ||| 2 ^ n) 0 : Nat) : Int))], []⟩) (fun _ => St.none)
  (fun k => k ≤ L.length ∧ (L.take k).foldl (fun s n => s ||| 2 ^ n) 0 < 4294967296) (fun k => L.length - k) (.of (.less ?_ (St.le_refl _)) ⟨0, rfl, rfl, Nat.zero_le _, by simp⟩) ?_
 ·simp (maxSteps := 4000000) (disch := first | decide | assumption | omega | (simp only [wL]; omega)) only [go_sem, simprocAttr, weak_int, weak_same]
  all_goals rfl
 ·rintro k ⟨hk, hlt⟩
  by_cases hkl : k < L.length
  ·have hb := pbit_call (L.getD k 0) (hL _ (getD_mem 0 hkl))
   have hp : 2 ^ L.getD k 0 < 4294967296 := Nat.pow_lt_pow_right (a := 2) (n := 32) (by decide) (hL _ (getD_mem 0 hkl))
   have hs : (L.take (k + 1)).foldl (fun s n => s ||| 2 ^ n) 0 = (L.take k).foldl (fun s n => s ||| 2 ^ n) 0 ||| 2 ^ L.getD k 0 := by
    rw [List.take_succ_eq_append_getElem hkl, ors_snoc, getD_of_lt 0 hkl]
   have ho := or32 ((L.take k).foldl (fun s n => s ||| 2 ^ n) 0) (2 ^ L.getD k 0) hlt hp
   obtain ⟨s, hse⟩ : ∃ s, (L.take k).foldl (fun s n => s ||| 2 ^ n) 0 = s := ⟨_, rfl⟩
   obtain ⟨x, hx⟩ : ∃ x, L.getD k 0 = x := ⟨_, rfl⟩
   rw [hse] at hs ho hlt ⊢
   rw [hx] at hs ho hb hp
   obtain ⟨p, hpe⟩ : ∃ p, 2 ^ x = p := ⟨_, rfl⟩
   rw [hpe] at hs ho hb hp
   repeat' (first | (with_reducible first | refine up hb ?_) | (with_reducible first | (refine wN fun _ hnl => ?_; revert hnl; (repeat refine wS fun _ _ => ?_); intro hnl) | refine wE ?_ | (refine wK ?_ ?_ <;> intro h) | (refine wB ?_ ?_ <;> intro h <;> simp only [h])) | simp (maxSteps := 4000000) (disch := first | decide | assumption | omega | (simp only [wL]; omega)) only [go_sem, simprocAttr, getD_mapd (0 : Nat), hx, ho])
   refine .of (.less (l1 := [(8, .int .i64 ((k + 1 : Nat) : Int)), (7, .int .i64 (L.length : Int)), (6, .lst 1 (L.map fun (i : Nat) => [.int .i64 (i : Int)]) t), (3, .int .u32 (((L.take (k + 1)).foldl (fun s n => s ||| 2 ^ n) 0 : Nat) : Int))]) ?_ (St.le_refl _)) ⟨k + 1, rfl, rfl, ⟨by omega, by rw [hs]; exact Nat.or_lt_two_pow (n := 32) (by omega) (by omega)⟩, by omega⟩
   rw [hs]
   simp (maxSteps := 4000000) (disch := first | decide | assumption | omega | (simp only [wL]; omega)) only [go_sem, simprocAttr, weak_int, weak_same]
   all_goals rfl
  ·have : k = L.length := by omega
   subst this
   rw [List.take_length] at hlt ⊢
   repeat' (first | (with_reducible first | (refine wN fun _ hnl => ?_; revert hnl; (repeat refine wS fun _ _ => ?_); intro hnl) | refine wE ?_ | (refine wK ?_ ?_ <;> intro h) | (refine wB ?_ ?_ <;> intro h <;> simp only [h])) | simp (maxSteps := 4000000) (disch := first | decide | assumption | omega | (simp only [wL]; omega)) only [go_sem, simprocAttr])
theorem pmake_call (L : List Nat) (hL : ∀ i, i ∈ L → i < 8) (t : Bool) (hl : L.length ≤ 1000000) (hs : L.foldl (fun s n => s ||| 2 ^ n) 0 < 256) : MCalls Tryz.prog 166 [.bool false, .lst 1 (L.map fun (i : Nat) => [.int .i64 (i : Int)]) t] St.none (fun r _ => r = .int .u32 ((L.foldl (fun s n => s ||| 2 ^ n) 0 : Nat) : Int)) := by
 refine (MCalls.body 13 [.tmp 4] Tryz.func166 rfl rfl rfl rfl ?_)
 have h := pof_call L (fun i hi => Nat.lt_of_lt_of_le (hL i hi) (by decide)) t hl
 obtain ⟨s, hse⟩ : ∃ s, L.foldl (fun s n => s ||| 2 ^ n) 0 = s := ⟨_, rfl⟩
 rw [hse] at h hs ⊢
 have ha : andK .u32 (s : Int) 255 = _ := and32 s 255 (by omega) (by decide)
 have he : s &&& 255 = s := by
  rw [show (255 : Nat) = 2 ^ 8 - 1 by decide, Nat.and_two_pow_sub_one_eq_mod]
  exact Nat.mod_eq_of_lt hs
 rw [he] at ha
 repeat' (first | (with_reducible first | refine up h ?_) | (with_reducible first | (refine wN fun _ hnl => ?_; revert hnl; (repeat refine wS fun _ _ => ?_); intro hnl) | refine wE ?_ | (refine wK ?_ ?_ <;> intro h) | (refine wB ?_ ?_ <;> intro h <;> simp only [h])) | simp (maxSteps := 4000000) (disch := first | decide | assumption | omega | (simp only [wL]; omega)) only [go_sem, simprocAttr, Tryz.f166, ha])
def dbT : List Int := [0, 1, 28, 2, 29, 14, 24, 3, 30, 22, 20, 15, 25, 17, 4, 8, 31, 27, 13, 23, 21, 19, 16, 7, 26, 12, 18, 6, 11, 5, 10, 9]
def tzI (x : Nat) : Int := (IntKind.u32.wrap (andK IntKind.u32 (x : Int) (IntKind.u32.wrap (0 - (x : Int))) * 125613361)).fdiv (2 ^ min 27 32)
theorem tz_tab : ∀ x : Nat, x < 256 → x ≠ 0 → 0 ≤ tzI x ∧ tzI x < 32 ∧ dbT[(tzI x).toNat]? = some (((bitsL x).headD 0 : Nat) : Int) := by decide +kernel
theorem GT_tz (i : Nat) : GT 0 i = (dbT[i]?).map (Value.int .u8) := by
 unfold GT
 rw [if_pos rfl, List.getElem?_map]; rfl
theorem R_mpure {C : Prop} {v : MV} {σ : St} {k : MV → St → Prop} (hC : C) (hk : R (k v σ)) : R (mpure σ k (some (C, v))) := ⟨hC, hk⟩
theorem gidx_tz (x : Nat) (h : x < 256) (h0 : x ≠ 0) : gidx Tryz.prog 211 0 (.int .u32 (tzI x)) = some ((td Tryz.prog 5).ok = true ∧ (td Tryz.prog 5).size = 1 ∧ 0 ≤ tzI x ∧ tzI x < 32 ∧ (ofV (.int .u8 (((bitsL x).headD 0 : Nat) : Int))).isCell = true, .cptr [.int .u8 (((bitsL x).headD 0 : Nat) : Int)]) := by
 unfold gidx
 rw [td211]
 simp only
 rw [GT_tz, (tz_tab x h h0).2.2]
 rfl
theorem headD_lt {x : Nat} (h : x < 256) (h0 : x ≠ 0) : (bitsL x).headD 0 < 8 := by
 rw [bits_low x h h0]
 have : (bitsL x).headD 0 ∈ bitsL x := by
  have := bits_low x h h0
  rw [this]; simp
 simpa using bitsL_lt this
theorem ptz_call (x : Nat) (h0 : 0 < x) (h : x < 256) : MCalls Tryz.prog 193 [.int .u32 (x : Int)] St.none (fun r _ => r = .int .i64 (((bitsL x).headD 0 : Nat) : Int)) := by
 refine (MCalls.body 14 [.tmp 2] Tryz.func193 rfl rfl rfl rfl ?_)
 have hg := gidx_tz x h (by omega)
 have ht := tz_tab x h (by omega)
 have hh := headD_lt h (by omega)
 obtain ⟨d, hd⟩ : ∃ d, (bitsL x).headD 0 = d := ⟨_, rfl⟩
 rw [hd] at hg ht hh ⊢
 repeat' (first | (with_reducible first | (refine wN fun _ hnl => ?_; revert hnl; (repeat refine wS fun _ _ => ?_); intro hnl) | refine wE ?_ | (refine wK ?_ ?_ <;> intro h) | (refine wB ?_ ?_ <;> intro h <;> simp only [h])) | simp (maxSteps := 4000000) (disch := first | decide | assumption | omega | (simp only [wL]; omega)) only [go_sem, simprocAttr, Tryz.f193])
 change R (mpure _ _ (gidx _ _ _ (.int .u32 (tzI x))))
 rw [hg]
 refine R_mpure ⟨by rw [td5], by rw [td5], ht.1, ht.2.1, rfl⟩ ?_
 generalize tzI x = w
 repeat' (first | (with_reducible first | (refine wN fun _ hnl => ?_; revert hnl; (repeat refine wS fun _ _ => ?_); intro hnl) | refine wE ?_ | (refine wK ?_ ?_ <;> intro h) | (refine wB ?_ ?_ <;> intro h <;> simp only [h])) | simp (maxSteps := 4000000) (disch := first | decide | assumption | omega | (simp only [wL]; omega)) only [go_sem, simprocAttr])
end Go.Proofs.YtfbodefnblpflaaGreatDoor
end

section
namespace Go.Proofs.YtfbodefnblpflaaGreatDoor
set_option maxRecDepth 100000
set_option maxHeartbeats 4000000
theorem indexV_call (p : VA → Bool) (g : FuncId) (l : List VA) (hl : l.length ≤ 1000000) (t : Bool) (hg : ∀ x, x ∈ l → MCalls Tryz.prog g [.agg x.c] St.none (fun r _ => r = .bool (p x))) :
  MCalls Tryz.prog 195 [.lst 3 (l.map VA.c) t, .fn (.func g) [] []] St.none (fun r _ => r = .int .i64 (if l.any p then (l.findIdx p : Int) else -1)) := by
 refine (MCalls.body 19 [.tmp 4] Tryz.func195 rfl rfl rfl rfl ?_)
 repeat' (first | (with_reducible first | (refine wN fun _ hnl => ?_; revert hnl; (repeat refine wS fun _ _ => ?_); intro hnl) | refine wE ?_ | (refine wK ?_ ?_ <;> intro h) | (refine wB ?_ ?_ <;> intro h <;> simp only [h])) | simp (maxSteps := 4000000) (disch := first | decide | assumption | omega | (simp only [wL]; omega)) only [go_sem, simprocAttr, Tryz.f195])
 refine mloop_intro (α := Nat) (fun k => ⟨19, [(8, .int .i64 (k : Int)), (7, .int .i64 (l.length : Int)), (6, .lst 3 (l.map VA.c) t), (0, .lst 3 (l.map VA.c) t), (1, .fn (.func g) [] [])], []⟩) (fun _ => St.none)
  (fun k => k ≤ l.length ∧ (l.take k).any p = false) (fun k => l.length - k) (.of (.less ?_ (St.le_refl _)) ⟨0, rfl, rfl, by simp⟩) ?_
 ·simp (maxSteps := 4000000) (disch := first | decide | assumption | omega | (simp only [wL]; omega)) only [go_sem, simprocAttr, weak_int, weak_same]
  all_goals rfl
 ·rintro k ⟨h1, h2⟩
  by_cases hk : k < l.length
  ·have hgk := hg _ (getD_mem va0 hk)
   cases hp : p (l.getD k va0)
   ·rw [hp] at hgk
    repeat' (first | (with_reducible refine use_pure hgk ?_) | (with_reducible first | (refine wN fun _ hnl => ?_; revert hnl; (repeat refine wS fun _ _ => ?_); intro hnl) | refine wE ?_ | (refine wK ?_ ?_ <;> intro h) | (refine wB ?_ ?_ <;> intro h <;> simp only [h])) | simp (maxSteps := 4000000) (disch := first | decide | assumption | omega | (simp only [wL]; omega)) only [go_sem, simprocAttr, getD_mapd va0])
    refine .of (.less (l1 := [(8, .int .i64 ((k + 1 : Nat) : Int)), (7, .int .i64 (l.length : Int)), (6, .lst 3 (l.map VA.c) t), (0, .lst 3 (l.map VA.c) t), (1, .fn (.func g) [] [])]) ?_ (St.le_refl _)) ⟨k + 1, rfl, rfl, ⟨by omega, ?_⟩, by omega⟩
    ·simp (maxSteps := 4000000) (disch := first | decide | assumption | omega | (simp only [wL]; omega)) only [go_sem, simprocAttr, weak_int, weak_same]
     all_goals omega
    ·rw [any_take_succ hk, h2, ← getD_of_lt va0 hk, hp]; rfl
   ·rw [hp] at hgk
    have hany : l.any p = true := List.any_eq_true.2 ⟨_, getD_mem va0 hk, hp⟩
    have hf : l.findIdx p = k := by
     rw [List.findIdx_eq hk]
     refine ⟨by rw [← getD_of_lt va0 hk]; exact hp, fun j hj => ?_⟩
     have := List.any_eq_false.1 h2 l[j] (by rw [List.mem_take_iff_getElem]; exact ⟨j, by omega, rfl⟩)
     simpa using this
    rw [hany, hf]
    repeat' (first | (with_reducible refine use_pure hgk ?_) | (with_reducible first | (refine wN fun _ hnl => ?_; revert hnl; (repeat refine wS fun _ _ => ?_); intro hnl) | refine wE ?_ | (refine wK ?_ ?_ <;> intro h) | (refine wB ?_ ?_ <;> intro h <;> simp only [h])) | simp (maxSteps := 4000000) (disch := first | decide | assumption | omega | (simp only [wL]; omega)) only [go_sem, simprocAttr, getD_mapd va0])
  ·have : k = l.length := by omega
   subst this
   rw [List.take_length] at h2
   rw [h2]
   repeat' (first | (with_reducible first | (refine wN fun _ hnl => ?_; revert hnl; (repeat refine wS fun _ _ => ?_); intro hnl) | refine wE ?_ | (refine wK ?_ ?_ <;> intro h) | (refine wB ?_ ?_ <;> intro h <;> simp only [h])) | simp (maxSteps := 4000000) (disch := first | decide | assumption | omega | (simp only [wL]; omega)) only [go_sem, simprocAttr, getD_mapd va0])
theorem containsV_call (p : VA → Bool) (g : FuncId) (l : List VA) (hl : l.length ≤ 1000000) (t : Bool) (hg : ∀ x, x ∈ l → MCalls Tryz.prog g [.agg x.c] St.none (fun r _ => r = .bool (p x))) :
  MCalls Tryz.prog 186 [.lst 3 (l.map VA.c) t, .fn (.func g) [] []] St.none (fun r _ => r = .bool (l.any p)) := by
 refine (MCalls.body 9 [.tmp 4] Tryz.func186 rfl rfl rfl rfl ?_)
 have hi := indexV_call p g l hl t hg
 cases hany : l.any p
 ·rw [hany] at hi
  simp only [Bool.false_eq_true, if_false] at hi
  repeat' (first | (with_reducible refine use_pure hi ?_) | (with_reducible first | (refine wN fun _ hnl => ?_; revert hnl; (repeat refine wS fun _ _ => ?_); intro hnl) | refine wE ?_ | (refine wK ?_ ?_ <;> intro h) | (refine wB ?_ ?_ <;> intro h <;> simp only [h])) | simp (maxSteps := 4000000) (disch := first | decide | assumption | omega | (simp only [wL]; omega)) only [go_sem, simprocAttr, Tryz.f186])
 ·rw [hany] at hi
  simp only [if_true] at hi
  repeat' (first | (with_reducible refine use_pure hi ?_) | (with_reducible first | (refine wN fun _ hnl => ?_; revert hnl; (repeat refine wS fun _ _ => ?_); intro hnl) | refine wE ?_ | (refine wK ?_ ?_ <;> intro h) | (refine wB ?_ ?_ <;> intro h <;> simp only [h])) | simp (maxSteps := 4000000) (disch := first | decide | assumption | omega | (simp only [wL]; omega)) only [go_sem, simprocAttr, Tryz.f186])
  simp
theorem chunks_va : ∀ (l : List VA), chunks 3 l.length ((l.map VA.c).flatten) = l.map VA.c
 | [] => rfl
 | v :: l => by
  simp only [List.map_cons, List.flatten_cons, List.length_cons, chunks, List.cons_append, List.nil_append, List.take_succ_cons, List.take_zero, List.drop_succ_cons, List.drop_zero]
  rw [chunks_va l]
theorem chunks_fc (f : F8) : chunks 3 8 (fc f) = f.l.map VA.c := by
 have := chunks_va f.l
 rwa [f.h] at this
theorem shr16 (n : Nat) : ((n : Int)).fdiv (2 ^ min 16 32) = ((n / 65536 : Nat) : Int) := by
 rw [show (2 : Int) ^ min 16 32 = 65536 by decide, Int.fdiv_eq_ediv_of_nonneg _ (by decide)]
 omega
theorem pccheck1_call (v : VA) : MCalls Tryz.prog 187 [.agg v.c] St.none (fun r _ => r = .bool (!vaOk v)) := by
 refine MCalls.drops (MCalls.body 6 [.tmp 2] Tryz.func187 rfl rfl rfl rfl ?_)
 have h := vcheck_call v.kd v.n v.s
 repeat' (first | (with_reducible first | refine up h ?_) | (with_reducible first | (refine wN fun _ hnl => ?_; revert hnl; (repeat refine wS fun _ _ => ?_); intro hnl) | refine wE ?_ | (refine wK ?_ ?_ <;> intro h) | (refine wB ?_ ?_ <;> intro h <;> simp only [h])) | simp (maxSteps := 4000000) (disch := first | decide | assumption | omega | (simp only [wL]; omega)) only [go_sem, simprocAttr, Tryz.f187])
 all_goals first | exact ⟨_, St.le_refl _, rfl⟩ | exact ⟨_, St.le_refl _⟩
theorem any_not {α : Type} (p : α → Bool) (l : List α) : (!(l.any fun x => !p x)) = l.all p := by
 induction l with
 | nil => rfl
 | cons x l ih => simp only [List.any_cons, List.all_cons, Bool.not_or, Bool.not_not, ih]
theorem pccheck_call (c : CA) : MCalls Tryz.prog 165 [.agg c.c] St.none (fun r _ => r = .bool (cardOk c)) := by
 refine MCalls.drops (MCalls.of_body 31 [.tmp 2] Tryz.func165 rfl rfl rfl rfl ?_)
 have hlt := c.lab.toNat_lt
 have hsh := shr16 c.lab.toNat
 by_cases h : 1 ≤ c.id ∧ c.id < idMax ∧ 1 ≤ c.ver ∧ c.ver ≤ big ∧ c.lab.toNat < 65536
 ·have e : cardOk c = !(c.f.l.any fun v => !vaOk v) := by unfold cardOk; rw [decide_eq_true h, Bool.true_and, any_not]
  rw [e]
  obtain ⟨h1, h2, h3, h4, h5⟩ := h
  unfold idMax at h2
  unfold big at h4
  have hdv : c.lab.toNat / 65536 = 0 := by omega
  rw [hdv] at hsh
  have hc := containsV_call (fun v => !vaOk v) 187 c.f.l (by rw [c.f.h]; decide) true (fun v _ => pccheck1_call v)
  refine mwp_seq (mwalk ?_)
  repeat' (first | (with_reducible first | (refine wT ?_; (first | ((fail_if_success (have := nl1)); refine wN fun nl1 hnl => ?_) | refine wN fun _ hnl => ?_); revert hnl; (repeat refine wS fun _ _ => ?_); intro hnl) | refine wE ?_ | (refine wK ?_ ?_ <;> intro h) | (refine wB ?_ ?_ <;> intro h <;> simp only [h])) | simp (maxSteps := 4000000) (disch := first | decide | assumption | omega | (simp only [wL]; omega)) only [go_sem, simprocAttr, Tryz.f165, fc_len, fc_cell])
  refine R_of (mwp_seq (mwalk ?_))
  repeat' (first | (with_reducible first | (refine wT ?_; (first | ((fail_if_success (have := nl1)); refine wN fun nl1 hnl => ?_) | refine wN fun _ hnl => ?_); revert hnl; (repeat refine wS fun _ _ => ?_); intro hnl) | refine wE ?_ | (refine wK ?_ ?_ <;> intro h) | (refine wB ?_ ?_ <;> intro h <;> simp only [h])) | simp (maxSteps := 4000000) (disch := first | decide | assumption | omega | (simp only [wL]; omega)) only [go_sem, simprocAttr, fc_len, fc_cell, hsh])
  refine R_of (mwp_gh (.step (Ghost.freeze (l1 := [(1, .cptr c.c)]) (σ1 := St.none) (St.none.set nl1 (.row 117 27 [c.c])) (St.le_refl _) (St.none_le _) (fun k o hk => by simp [St.none] at hk) (fun p hp => ?_)) (.done (mwalk ?_))))
  ·simp only [List.mem_singleton] at hp
   subst hp
   exact .ptr (set_hit _ _ _) (by simp)
  ·repeat' (first | (with_reducible first | refine up hc ?_) | (with_reducible first | (refine wT ?_; (first | ((fail_if_success (have := nl1)); refine wN fun nl1 hnl => ?_) | refine wN fun _ hnl => ?_); revert hnl; (repeat refine wS fun _ _ => ?_); intro hnl) | refine wE ?_ | (refine wK ?_ ?_ <;> intro h) | (refine wB ?_ ?_ <;> intro h <;> simp only [h])) | simp (maxSteps := 4000000) (disch := first | decide | assumption | omega | (simp only [wL]; omega)) only [go_sem, simprocAttr, fc_len, fc_cell, fc_take', chunks_fc])
   all_goals first | exact ⟨_, St.le_refl _, rfl⟩ | exact ⟨_, St.le_refl _⟩
 ·have e : cardOk c = false := by unfold cardOk; rw [decide_eq_false h, Bool.false_and]
  rw [e]
  unfold idMax big at h
  refine mwp_seq (mwalk ?_)
  repeat' (first | (with_reducible first | (refine wT ?_; (first | ((fail_if_success (have := nl1)); refine wN fun nl1 hnl => ?_) | refine wN fun _ hnl => ?_); revert hnl; (repeat refine wS fun _ _ => ?_); intro hnl) | refine wE ?_ | (refine wK ?_ ?_ <;> intro h) | (refine wB ?_ ?_ <;> intro h <;> simp only [h])) | simp (maxSteps := 4000000) (disch := first | decide | assumption | omega | (simp only [wL]; omega)) only [go_sem, simprocAttr, Tryz.f165, fc_len, fc_cell])
  refine R_of (mwp_seq (mwalk ?_))
  repeat' (first | (with_reducible first | (refine wT ?_; (first | ((fail_if_success (have := nl1)); refine wN fun nl1 hnl => ?_) | refine wN fun _ hnl => ?_); revert hnl; (repeat refine wS fun _ _ => ?_); intro hnl) | refine wE ?_ | (refine wK ?_ ?_ <;> intro h) | (refine wB ?_ ?_ <;> intro h <;> simp only [h])) | simp (maxSteps := 4000000) (disch := first | decide | assumption | omega | (simp only [wL]; omega)) only [go_sem, simprocAttr, fc_len, fc_cell, hsh])
  all_goals first | exact ⟨_, St.le_refl _, rfl⟩ | exact ⟨_, St.le_refl _⟩ | (exfalso; omega)
theorem pl_value : eqPlain Tryz.prog 24 = true := by decide +kernel
theorem mbn_value (a b : VA) : mbin Tryz.prog 24 .neq (.agg a.c) (.agg b.c) = some (True, .bool (!decide (a = b))) := mb_neq (meq_val 4 a b) pl_value
theorem shr_bit (m : UInt32) (i : Nat) (h : i < 8) : andK .u32 ((m.toNat : Int).fdiv (2 ^ min i 32)) 1 = if bit m.toNat i = true then 1 else 0 := by
 rw [Nat.min_eq_left (by omega), show (2 : Int) ^ i = ((2 ^ i : Nat) : Int) by simp, Int.fdiv_eq_ediv_of_nonneg _ (Int.natCast_nonneg _)]
 rw [show (m.toNat : Int) / ((2 ^ i : Nat) : Int) = ((m.toNat / 2 ^ i : Nat) : Int) by simp]
 have hm := m.toNat_lt
 have e : andK .u32 ((m.toNat / 2 ^ i : Nat) : Int) 1 = _ := and32 (m.toNat / 2 ^ i) 1 (Nat.lt_of_le_of_lt (Nat.div_le_self _ _) hm) (by decide)
 rw [e, Nat.and_one_is_mod]
 unfold bit
 rw [Nat.testBit_eq_decide_div_mod_eq]
 have := Nat.mod_two_eq_zero_or_one (m.toNat / 2 ^ i)
 rcases this with h | h <;> rw [h] <;> rfl
theorem pcpatch_call (p : PA) : MCalls Tryz.prog 100 [.agg p.c] St.none (fun r _ => r = .int .i64 (patchErr p)) := by
 refine MCalls.drops (MCalls.body 55 [.tmp 2] Tryz.func100 rfl rfl rfl rfl ?_)
 have hm := pmcheck_call p.mask
 have hl := pmlab_call p.mask
 have hmt := p.mask.toNat_lt
 have hlt := p.lab.toNat_lt
 have hsh := shr16 p.lab.toNat
 by_cases h0 : p.mask.toNat = 0 ∨ 511 < p.mask.toNat
 ·have e : patchErr p = 11 := by unfold patchErr; rw [if_pos h0]
  rw [e]
  repeat' (first | (with_reducible first | refine up hm ?_ | refine up hl ?_) | (with_reducible first | (refine wT ?_; (first | ((fail_if_success (have := nl1)); refine wN fun nl1 hnl => ?_) | refine wN fun _ hnl => ?_); revert hnl; (repeat refine wS fun _ _ => ?_); intro hnl) | refine wE ?_ | (refine wK ?_ ?_ <;> intro h) | (refine wB ?_ ?_ <;> intro h <;> simp only [h])) | simp (maxSteps := 4000000) (disch := first | decide | assumption | omega | (simp only [wL]; omega)) only [go_sem, simprocAttr, Tryz.f100, fc_len, fc_cell])
  all_goals first | exact ⟨_, St.le_refl _, rfl⟩ | exact ⟨_, St.le_refl _⟩ | (exfalso; omega)
 ·by_cases h1 : 65536 ≤ p.lab.toNat ∨ p.lab.toNat ≠ 0 ∧ bit p.mask.toNat 8 = false
  ·have e : patchErr p = 1 := by unfold patchErr; rw [if_neg h0, if_pos h1]
   rw [e]
   generalize bit p.mask.toNat 8 = b8 at hl h1
   cases b8
   all_goals
    repeat' (first | (with_reducible first | refine up hm ?_ | refine up hl ?_) | (with_reducible first | (refine wT ?_; (first | ((fail_if_success (have := nl1)); refine wN fun nl1 hnl => ?_) | refine wN fun _ hnl => ?_); revert hnl; (repeat refine wS fun _ _ => ?_); intro hnl) | refine wE ?_ | (refine wK ?_ ?_ <;> intro h) | (refine wB ?_ ?_ <;> intro h <;> simp only [h])) | simp (maxSteps := 4000000) (disch := first | decide | assumption | omega | (simp only [wL]; omega)) only [go_sem, simprocAttr, Tryz.f100, fc_len, fc_cell, hsh])
    all_goals first | exact ⟨_, St.le_refl _, rfl⟩ | exact ⟨_, St.le_refl _⟩ | (exfalso; simp only [reduceCtorEq, and_false, or_false, and_true] at h1; omega)
  ·have hbad := fun i => patchErr_bad (i := i) h0 h1
   have hgood := patchErr_good h0 h1
   have h1' : p.lab.toNat < 65536 := by omega
   have h1'' : p.lab.toNat = 0 ∨ bit p.mask.toNat 8 = true := by
    cases hb : bit p.mask.toNat 8
    ·rw [hb] at h1; left; simp at h1; omega
    ·right; rfl
   clear h1
   generalize bit p.mask.toNat 8 = b8 at hl h1''
   cases b8
   all_goals
    repeat' (first | (with_reducible first | refine up hm ?_ | refine up hl ?_) | (with_reducible first | (refine wT ?_; (first | ((fail_if_success (have := nl1)); refine wN fun nl1 hnl => ?_) | refine wN fun _ hnl => ?_); revert hnl; (repeat refine wS fun _ _ => ?_); intro hnl) | refine wE ?_ | (refine wK ?_ ?_ <;> intro h) | (refine wB ?_ ?_ <;> intro h <;> simp only [h])) | simp (maxSteps := 4000000) (disch := first | decide | assumption | omega | (simp only [wL]; omega)) only [go_sem, simprocAttr, Tryz.f100, fc_len, fc_cell, fc_take', hsh])
    all_goals try (exfalso; simp only [reduceCtorEq, or_false] at h1''; omega)
    all_goals
     refine mloop_intro (α := Nat) (fun i => ⟨55, [(33, .int .i64 (i : Int)), (32, .agg (fc p.f)), (1, .ptr nl1 0 0)], []⟩) (fun _ => St.none.set nl1 (.row 27 26 [p.c])) (fun i => i ≤ 8 ∧ ∀ j, j < i → (vaOk (p.f.get j) && (decide ((p.f.get j).kd = 0) || bit p.mask.toNat j)) = true) (fun i => 8 - i) (.of (.less ?_ (St.le_refl _)) ⟨0, rfl, rfl, Nat.zero_le _, fun j h => absurd h (Nat.not_lt_zero _)⟩) ?_
     ·simp (maxSteps := 4000000) (disch := first | decide | assumption | omega | (simp only [wL]; omega)) only [go_sem, simprocAttr, weak_int, weak_same]
      all_goals rfl
     ·rintro i ⟨hi, hq⟩
      by_cases h8 : i < 8
      ·have hc := vcheck_call (p.f.get i).kd (p.f.get i).n (p.f.get i).s
       have hbad := hbad i h8
       have hsb := shr_bit p.mask i h8
       have hv : mbin Tryz.prog 24 .neq (.agg (p.f.get i).c) (.agg [.int .i64 0, .int .i64 0, .str ⟨#[]⟩]) = some (True, .bool (!decide (p.f.get i = va0))) := mbn_value (p.f.get i) va0
       have hz : vaOk (p.f.get i) = true → decide (p.f.get i = va0) = decide ((p.f.get i).kd = 0) := fun hok => by
        refine decide_eq_decide.mpr ⟨fun h => by rw [h]; rfl, fun h => va_zero hok h⟩
       obtain ⟨x, hx⟩ : ∃ x, p.f.get i = x := ⟨_, rfl⟩
       have hat := fc_at (f := p.f) h8
       rw [hx] at hc hbad hv hz hat
       obtain ⟨bx, hbx⟩ : ∃ b, bit p.mask.toNat i = b := ⟨_, rfl⟩
       rw [hbx] at hbad hsb
       cases hok : vaOk x <;> (have hc : MCalls Tryz.prog 151 [.agg x.c] St.none (fun r _ => r = .bool (vaOk x)) := hc) <;> rw [hok] at hc hbad hz
       ·rw [hbad (Bool.false_and _)]
        clear hbad hgood hq hz
        repeat' (first | (with_reducible first | refine up hc ?_) | (with_reducible first | (refine wT ?_; (first | ((fail_if_success (have := nl1)); refine wN fun nl1 hnl => ?_) | refine wN fun _ hnl => ?_); revert hnl; (repeat refine wS fun _ _ => ?_); intro hnl) | refine wE ?_ | (refine wK ?_ ?_ <;> intro h) | (refine wB ?_ ?_ <;> intro h <;> simp only [h])) | simp (maxSteps := 4000000) (disch := first | decide | assumption | omega | (simp only [wL]; omega)) only [go_sem, simprocAttr, fc_len, fc_cell, fc_take', hat])
        all_goals first | exact ⟨_, St.le_refl _, rfl⟩ | exact ⟨_, St.le_refl _⟩
       ·rw [hz rfl] at hv
        obtain ⟨bk, hbk⟩ : ∃ b, decide (x.kd = 0) = b := ⟨_, rfl⟩
        rw [hbk] at hv hbad
        cases hgg : (bk || bx)
        ·rw [hbad (by rw [hgg]; rfl)]
         clear hbad hgood hq hz
         simp only [Bool.or_eq_false_iff] at hgg
         obtain ⟨rfl, rfl⟩ := hgg
         rw [if_neg (by simp)] at hsb
         repeat' (first | (with_reducible first | refine up hc ?_) | (with_reducible first | (refine wT ?_; (first | ((fail_if_success (have := nl1)); refine wN fun nl1 hnl => ?_) | refine wN fun _ hnl => ?_); revert hnl; (repeat refine wS fun _ _ => ?_); intro hnl) | refine wE ?_ | (refine wK ?_ ?_ <;> intro h) | (refine wB ?_ ?_ <;> intro h <;> simp only [h])) | simp (maxSteps := 4000000) (disch := first | decide | assumption | omega | (simp only [wL]; omega)) only [go_sem, simprocAttr, fc_len, fc_cell, fc_take', hat, hv, hsb])
         all_goals first | exact ⟨_, St.le_refl _, rfl⟩ | exact ⟨_, St.le_refl _⟩
        ·clear hbad hgood hz
         have hnext : ∀ j, j < i + 1 → (vaOk (p.f.get j) && (decide ((p.f.get j).kd = 0) || bit p.mask.toNat j)) = true := fun j hj => by
          by_cases hji : j = i
          ·rw [hji, hx, hok, hbk, hbx, hgg]; rfl
          ·exact hq j (by omega)
         clear hq
         cases bk <;> cases bx
         ·simp at hgg
         all_goals
          simp only [if_true, Bool.false_eq_true, if_false] at hsb
          repeat' (first | (with_reducible first | refine up hc ?_) | (with_reducible first | (refine wT ?_; (first | ((fail_if_success (have := nl1)); refine wN fun nl1 hnl => ?_) | refine wN fun _ hnl => ?_); revert hnl; (repeat refine wS fun _ _ => ?_); intro hnl) | refine wE ?_ | (refine wK ?_ ?_ <;> intro h) | (refine wB ?_ ?_ <;> intro h <;> simp only [h])) | simp (maxSteps := 4000000) (disch := first | decide | assumption | omega | (simp only [wL]; omega)) only [go_sem, simprocAttr, fc_len, fc_cell, fc_take', hat, hv, hsb])
          all_goals
           refine .of (.less ?_ (St.set_le (St.none_le _) (by simp [St.set, *]))) ⟨i + 1, rfl, rfl, ⟨by omega, hnext⟩, by omega⟩
           simp (maxSteps := 4000000) (disch := first | decide | assumption | omega | (simp only [wL]; omega)) only [go_sem, simprocAttr, weak_int, weak_same]
           all_goals rfl
      ·have : i = 8 := by omega
       subst this
       rw [hgood hq]
       repeat' (first | (with_reducible first | (refine wT ?_; (first | ((fail_if_success (have := nl1)); refine wN fun nl1 hnl => ?_) | refine wN fun _ hnl => ?_); revert hnl; (repeat refine wS fun _ _ => ?_); intro hnl) | refine wE ?_ | (refine wK ?_ ?_ <;> intro h) | (refine wB ?_ ?_ <;> intro h <;> simp only [h])) | simp (maxSteps := 4000000) (disch := first | decide | assumption | omega | (simp only [wL]; omega)) only [go_sem, simprocAttr])
       all_goals first | exact ⟨_, St.le_refl _, rfl⟩ | exact ⟨_, St.le_refl _⟩
end Go.Proofs.YtfbodefnblpflaaGreatDoor
end

section
namespace Go.Proofs.YtfbodefnblpflaaGreatDoor
set_option maxRecDepth 100000
theorem MCalls.seenO {P : Program} {g : FuncId} {ms : List MV} {σ : St} {X : MV} {l : Nat} {o : MObj} (h : MCalls P g ms σ fun v σ' => View (σ'.del l) v X ∧ σ' l = some o) : MCalls P g ms σ fun v σ' => v = X ∧ σ' = St.none.set l o := by
 refine MCalls.ghost (h.mono fun v σ' ⟨hv, ho⟩ => ⟨X, St.none.set l o, ?_, rfl, rfl⟩)
 refine Ghost.freeze (σ'.del l) (fun k o hk => ?_) (St.set_le (St.none_le _) ho) (fun k o hk => ?_) (fun p hp => ?_)
 ·simp only [St.del] at hk
  split at hk
  ·cases hk
  ·exact hk
 ·simp only [St.set] at hk
  split at hk
  ·rename_i e; simp [St.del, e]
  ·cases hk
 ·simp only [List.mem_singleton] at hp
  subst hp
  simpa [lget] using hv
theorem le2 {σ : St} {l k : Nat} {o o' : MObj} (h1 : σ l = some o) (h2 : σ k = some o') : ((St.none.set l o).set k o').le σ := St.set_le (St.set_le (St.none_le _) h1) h2
theorem tk_app {α : Type} {f : α → List MV} {l : List α} {ex : List (List MV)} : (l.map f ++ ex).take l.length = l.map f := by rw [List.take_append_of_le_length (by simp), List.take_of_length_le (by simp)]
theorem dr_app {α : Type} {f : α → List MV} {l : List α} {ex : List (List MV)} : (l.map f ++ ex).drop (l.length + 1) = ex.drop 1 := by
 rw [List.drop_append, List.drop_eq_nil_of_le (by simp), List.nil_append]; congr 1; simp
theorem viewR {α : Type} {f : α → List MV} {l : List α} {ex : List (List MV)} {σ : St} {q e : Nat} {t : TypeId} (h : σ q = some (.row t e (l.map f ++ ex))) : View σ (.vec e q 0 l.length) (.lst e (l.map f) false) := by
 have := View.vec (n := l.length) (lo := 0) h (by simp)
 rwa [List.drop_zero, tk_app] at this
theorem ite_imp {c P Q : Prop} [Decidable c] : (if c then P else Q) ↔ (c → P) ∧ (¬ c → Q) := by split <;> simp [*]
theorem repOk_sub {a : RE} (hok : repOk a = true) (h1 : a.code = 0) (h2 : a.kd = 3) : predErr a.fl = 0 := by
 have h := (decide_eq_true_iff (p := _)).1 hok
 have h := h.2.2.2.2.2.2.2.2.2.2.2.2
 rw [if_pos ⟨h1, h2⟩] at h
 exact h.2.2.1
theorem okR_y {α : Type} {d x : α} {s : RD} (h : s.e = 0) : okR d (x, s) = (x, s) := okR_ok h
theorem okR_n {α : Type} {d x : α} {s : RD} (h : s.e ≠ 0) : okR d (x, s) = (d, s) := okR_no h
theorem vre {σ : St} {a : RE} {m : MV} (h : View σ m (.lst 5 (a.fl.map ND.c) false)) : View σ (.agg (a.k m)) (.agg a.c) :=
 View.aggL ⟨.same _, .same _, .same _, .same _, .same _, .same _, .same _, .same _, h, .same _, trivial⟩ rfl
theorem items_empty {p : PG} : (p.items.length : Int) = 0 ↔ p.items = [] := by
 rw [← List.length_eq_zero_iff]; omega
theorem items_snoc {l : List IT} {i : Nat} (h : i < l.length) : ((l.take (i + 1)).map itemB).flatten = ((l.take i).map itemB).flatten ++ itemB (l.getD i it0) := by
 rw [List.take_succ_eq_append_getElem h, List.map_append, List.flatten_append, ← getD_of_lt it0 h]; simp
theorem pageOk_items {p : PG} (hp : pageOk p = true) (hc : p.code = 0) (hr : p.reset = false) : tokOk p.to = true ∧ itemsOk 0 p.items = true ∧ p.items.length ≤ 16 := by
 unfold pageOk at hp
 rw [if_neg (by omega), if_neg (by rw [hr]; simp)] at hp
 simp only [Bool.and_eq_true, decide_eq_true_eq] at hp
 exact ⟨tokGo_to hp.2.1.1, hp.2.1.2, hp.2.2⟩
theorem pageOk_to {p : PG} (hp : pageOk p = true) (hc : p.code = 0) : tokOk p.to = true := by
 cases hr : p.reset
 ·exact (pageOk_items hp hc hr).1
 ·unfold pageOk at hp
  rw [if_neg (by omega), if_pos hr] at hp
  simp only [Bool.and_eq_true, decide_eq_true_eq] at hp
  exact hp.2.1.2
theorem itemsOk_at {l : List IT} : ∀ {last : Int} {i : Nat}, itemsOk last l = true → i < l.length → ∃ k, itOk k (l.getD i it0) = true := by
 induction l with
 | nil => intro _ _ _ h; simp at h
 | cons x l ih =>
  intro last i h hi
  simp only [itemsOk, Bool.and_eq_true] at h
  cases i with
  | zero => exact ⟨last, h.1⟩
  | succ i =>
   have := ih (i := i) h.2 (by simpa using hi)
   simpa using this
theorem itOk_card {k : Int} {x : IT} (h : itOk k x = true) (h2 : x.kd ≠ 2) : cardOk x.c = true := by
 unfold itOk at h
 rw [Bool.and_eq_true] at h
 have h := h.2
 split at h
 ·exact h
 ·simp [h2] at h
theorem vpg {σ : St} {p : PG} {m : MV} (h : View σ m (.lst 28 (IT.ks p.items) false)) : View σ (.agg (p.k m)) (.agg p.c) :=
 View.aggL ⟨.same _, .same _, .same _, .same _, .same _, .same _, .same _, .same _, .same _, .same _, h, trivial⟩ rfl
theorem kn_one {g g' : FuncId} {ms ms' : List MV} {F F' : Fact} (h : kn [(g, ms, F)] g' ms' = some F') : F' = F := by
 unfold kn at h
 simp only [List.find?_singleton] at h
 split at h
 ·simp at h; exact h.symm
 ·cases h
theorem le4 {σ : St} {a b c d : Nat} {oa ob oc od : MObj} (h1 : σ a = some oa) (h2 : σ b = some ob) (h3 : σ c = some oc) (h4 : σ d = some od) : ((((St.none.set a oa).set b ob).set c oc).set d od).le σ :=
 St.set_le (St.set_le (St.set_le (St.set_le (St.none_le _) h1) h2) h3) h4
theorem fl_empty {l : List ND} : (l.length : Int) = 0 ↔ l = [] := by
 rw [← List.length_eq_zero_iff]; omega
theorem cmdOk_1 {c : CM} (h : c.kd = 1) : cmdOk c = (decide ({ c with e := ed0 } = { cm0 with kd := c.kd }) && decide (editErr c.e = 0)) := by
 unfold cmdOk
 rw [if_pos h, Bool.decide_and]
 congr 1
 refine decide_eq_decide.mpr ?_
 simp [cm_iff, h, cm0]
theorem cmdOk_5 {c : CM} (h : c.kd = 5) : cmdOk c = (decide ({ c with keep := 0 } = { cm0 with kd := c.kd }) && decide (0 ≤ c.keep ∧ c.keep ≤ 1099511627776)) := by
 unfold cmdOk big
 rw [if_neg (by omega), if_pos h, Bool.decide_and]
 congr 1
 refine decide_eq_decide.mpr ?_
 simp [cm_iff, h, cm0]
theorem cmdOk_r {c : CM} (h1 : c.kd ≠ 1) (h5 : c.kd ≠ 5) (h : c.dev < 0 ∨ 6 ≤ c.dev ∨ c.req < 1 ∨ 1099511627776 < c.req) : cmdOk c = false := by
 unfold cmdOk big
 rw [if_neg h1, if_neg h5, if_pos h]
theorem cmdOk_2 {c : CM} (h : c.kd = 2) (hr : ¬ (c.dev < 0 ∨ 6 ≤ c.dev ∨ c.req < 1 ∨ 1099511627776 < c.req)) : cmdOk c = (decide ({ c with dev := 0, req := 0, id := 0, base := 0, p := pa0 } = { cm0 with kd := c.kd }) && decide (1 ≤ c.id ∧ c.id < 1073741824 ∧ 1 ≤ c.base ∧ c.base ≤ 1099511627776 ∧ patchErr c.p = 0)) := by
 unfold cmdOk big idMax
 rw [if_neg (by omega), if_neg (by omega), if_neg hr, if_pos h, Bool.decide_and]
 congr 1
 refine decide_eq_decide.mpr ?_
 simp [cm_iff, h, cm0]
theorem cmdOk_3 {c : CM} (h : c.kd = 3) (hr : ¬ (c.dev < 0 ∨ 6 ≤ c.dev ∨ c.req < 1 ∨ 1099511627776 < c.req)) : cmdOk c = (decide ({ c with dev := 0, req := 0, fl := [], mask := 0 } = { cm0 with kd := c.kd }) && decide (predErr c.fl = 0 ∧ c.mask.toNat ≤ 511)) := by
 unfold cmdOk big
 rw [if_neg (by omega), if_neg (by omega), if_neg hr, if_neg (by omega), if_pos h, Bool.decide_and]
 congr 1
 refine decide_eq_decide.mpr ?_
 simp [cm_iff, h, cm0]
theorem cmdOk_4 {c : CM} (h : c.kd = 4) (hr : ¬ (c.dev < 0 ∨ 6 ≤ c.dev ∨ c.req < 1 ∨ 1099511627776 < c.req)) : cmdOk c = decide ({ c with dev := 0, req := 0 } = { cm0 with kd := c.kd }) := by
 unfold cmdOk big
 rw [if_neg (by omega), if_neg (by omega), if_neg hr, if_neg (by omega), if_neg (by omega)]
 refine decide_eq_decide.mpr ?_
 simp [cm_iff, h, cm0]
theorem cmdOk_o {c : CM} (h1 : c.kd ≠ 1) (h5 : c.kd ≠ 5) (h2 : c.kd ≠ 2) (h3 : c.kd ≠ 3) (h4 : c.kd ≠ 4) : cmdOk c = false := by
 unfold cmdOk
 rw [if_neg h1, if_neg h5, if_neg h2, if_neg h3]
 split
 ·rfl
 ·refine decide_eq_false fun h => h4 ?_
  rw [h]
theorem Views.fc {σ : St} {f : F8} {a b : List MV} (h : Views σ a b) : Views σ (fc f ++ a) (fc f ++ b) := Views.app (Views.same _) h
theorem vcm {σ : St} {c : CM} {m : MV} (h : View σ m (.lst 5 (c.fl.map ND.c) false)) : View σ (.agg (c.k m)) (.agg c.c) :=
 View.aggL ⟨.same _, .same _, .same _, .same _, .same _, .same _, Views.fc ⟨.same _, .same _, .same _, .same _, .same _, .same _, .same _, Views.fc ⟨h, .same _, trivial⟩⟩⟩ (CM.cell c)
theorem cmdOk_e {c : CM} (hok : cmdOk c = true) (h : c.kd = 1) : editErr c.e = 0 := by
 rw [cmdOk_1 h, Bool.and_eq_true, decide_eq_true_eq, decide_eq_true_eq] at hok
 exact hok.2
theorem cmdOk_rng {c : CM} (hok : cmdOk c = true) (h1 : c.kd ≠ 1) (h5 : c.kd ≠ 5) : ¬ (c.dev < 0 ∨ 6 ≤ c.dev ∨ c.req < 1 ∨ 1099511627776 < c.req) := fun h => by
 rw [cmdOk_r h1 h5 h] at hok; cases hok
theorem cmdOk_p {c : CM} (hok : cmdOk c = true) (h : c.kd = 2) : patchErr c.p = 0 := by
 rw [cmdOk_2 h (cmdOk_rng hok (by omega) (by omega)), Bool.and_eq_true, decide_eq_true_eq, decide_eq_true_eq] at hok
 exact hok.2.2.2.2.2
theorem cmdOk_f {c : CM} (hok : cmdOk c = true) (h : c.kd = 3) : predErr c.fl = 0 := by
 rw [cmdOk_3 h (cmdOk_rng hok (by omega) (by omega)), Bool.and_eq_true, decide_eq_true_eq, decide_eq_true_eq] at hok
 exact hok.2.1
abbrev MS.c (m : MS) : List MV := m.k (.lst 5 (m.cmd.fl.map ND.c) false) (.lst 5 (m.rep.fl.map ND.c) false) (.lst 28 (IT.ks m.page.items) false)
theorem MS.cell (m : MS) : m.c.all MV.isCell = true := by
 simp only [MS.c, MS.k, List.all_cons, fc_all]; rfl
theorem vms {σ : St} {m : MS} {f g i : MV} (hf : View σ f (.lst 5 (m.cmd.fl.map ND.c) false)) (hg : View σ g (.lst 5 (m.rep.fl.map ND.c) false)) (hi : View σ i (.lst 28 (IT.ks m.page.items) false)) : View σ (.agg (m.k f g i)) (.agg m.c) := by
 refine View.aggL ?_ (MS.cell m)
 repeat (first | exact trivial | refine ⟨.same _, ?_⟩ | refine Views.fc ?_ | refine ⟨hf, ?_⟩ | refine ⟨hg, ?_⟩ | refine ⟨hi, ?_⟩)
structure Sm (m : MS) : Prop where
 f : m.cmd.fl.length ≤ 1000000
 g : m.rep.fl.length ≤ 1000000
 i : m.page.items.length ≤ 1000000
theorem msgOk_1 {m : MS} (h : m.kd = 1) : msgOk m = ((cmdOk m.cmd && decide (m.cmd.kd ≠ 1 ∧ m.cmd.kd ≠ 5)) && decide (({ ms0 with kd := m.kd, cmd := m.cmd } : MS) = m)) := by
 unfold msgOk
 rw [if_pos h, Bool.decide_and, h]
 cases cmdOk m.cmd <;> simp [eq_comm, Bool.and_comm]
theorem msgOk_2 {m : MS} (h : m.kd = 2) : msgOk m = ((tokOk m.tok && decide (1 ≤ m.size ∧ m.size ≤ 16)) && decide (({ ms0 with kd := m.kd, tok := m.tok, size := m.size } : MS) = m)) := by
 unfold msgOk
 rw [if_neg (by omega), if_pos h, Bool.decide_and, h]
 cases tokOk m.tok <;> simp [eq_comm, Bool.and_comm]
theorem msgOk_3 {m : MS} (h : m.kd = 3) : msgOk m = (repOk m.rep && decide (({ ms0 with kd := m.kd, rep := m.rep } : MS) = m)) := by
 unfold msgOk
 rw [if_neg (by omega), if_neg (by omega), if_pos h, h]
 cases repOk m.rep <;> simp [eq_comm]
theorem msgOk_4 {m : MS} (h : m.kd = 4) : msgOk m = (pageOk m.page && decide (({ ms0 with kd := m.kd, page := m.page } : MS) = m)) := by
 unfold msgOk
 rw [if_neg (by omega), if_neg (by omega), if_neg (by omega), if_pos h, h]
 cases pageOk m.page <;> simp [eq_comm]
theorem msgOk_5 {m : MS} (h : m.kd = 5) : msgOk m = (decide (1 ≤ m.code ∧ m.code ≤ 16) && decide (({ ms0 with kd := m.kd, code := m.code } : MS) = m)) := by
 unfold msgOk
 rw [if_neg (by omega), if_neg (by omega), if_neg (by omega), if_neg (by omega), if_pos h, Bool.decide_and, h]
 simp [eq_comm, Bool.and_comm]
theorem msgOk_o {m : MS} (h1 : m.kd ≠ 1) (h2 : m.kd ≠ 2) (h3 : m.kd ≠ 3) (h4 : m.kd ≠ 4) (h5 : m.kd ≠ 5) : msgOk m = false := by
 unfold msgOk
 rw [if_neg h1, if_neg h2, if_neg h3, if_neg h4, if_neg h5]
instance {r : RD} [Sh r] : Sh (cmdR r).2 := Sh.sk cmdR_sk
end Go.Proofs.YtfbodefnblpflaaGreatDoor
end

section
namespace Go.Proofs.YtfbodefnblpflaaGreatDoor
theorem app_flat' {α : Type} (D ex Y : List α) (m y : Nat) (h1 : D.length = m) (h2 : Y.length = y) : List.take m (D ++ ex) ++ Y ++ List.drop (m + y) (D ++ ex) = (D ++ Y) ++ ex.drop y := by
 subst h1 h2
 rw [List.take_left, List.drop_append, List.drop_eq_nil_of_le (by omega), List.nil_append, Nat.add_sub_cancel_left]
abbrev T.kl (t : T) : List (List MV) := t.kids.map fun k => [.lst 5 (k.fl.map ND.c) false]
theorem kid_end {t : T} (h : t.ok) {i : Nat} (hi : i < t.kids.length) :
  endS t.fl ((1 + ((t.kids.take i).map T.fl).flatten.length : Nat) : Int) = ((1 + ((t.kids.take (i + 1)).map T.fl).flatten.length : Nat) : Int) ∧
  (t.fl.take (1 + ((t.kids.take (i + 1)).map T.fl).flatten.length)).drop (1 + ((t.kids.take i).map T.fl).flatten.length) = (t.kids.getD i (.leaf nd0)).fl ∧
  1 + ((t.kids.take i).map T.fl).flatten.length ≤ 1 + ((t.kids.take (i + 1)).map T.fl).flatten.length ∧ 1 + ((t.kids.take (i + 1)).map T.fl).flatten.length ≤ t.fl.length ∧ (t.kids.getD i (.leaf nd0)).fl.length ≤ t.fl.length := by
 obtain ⟨h1, h2⟩ := T.ok_kids h
 obtain ⟨k, hk⟩ : ∃ k, t.kids.getD i (.leaf nd0) = k := ⟨_, rfl⟩
 have hg : t.kids[i] = k := by rw [← hk, getD_of_lt _ hi]
 have hko := h2 k (by rw [← hk]; exact getD_mem _ hi)
 have e1 : ((t.kids.take (i + 1)).map T.fl).flatten = ((t.kids.take i).map T.fl).flatten ++ k.fl := by
  rw [List.take_succ_eq_append_getElem hi, hg]; simp
 have e2 : t.fl = (t.root :: ((t.kids.take i).map T.fl).flatten) ++ (k.fl ++ ((t.kids.drop (i + 1)).map T.fl).flatten) := by
  rw [T.fl_kids]
  conv => lhs; rw [← List.take_append_drop i t.kids, List.drop_eq_getElem_cons hi, hg]
  simp
 have e3 : (t.root :: ((t.kids.take i).map T.fl).flatten).length = 1 + ((t.kids.take i).map T.fl).flatten.length := by rw [List.length_cons]; omega
 rw [e1, List.length_append, hk]
 generalize hA : t.root :: ((t.kids.take i).map T.fl).flatten = A at e2 e3
 have e4 := endS_fl hko A ((t.kids.drop (i + 1)).map T.fl).flatten
 rw [← e2, e3] at e4
 refine ⟨by rw [e4, Nat.add_assoc], ?_, by omega, by rw [e2]; simp only [List.length_append]; omega, by rw [e2]; simp only [List.length_append]; omega⟩
 rw [← Nat.add_assoc, ← e3, e2, ← List.append_assoc, ← List.length_append, List.take_left, List.drop_left]
set_option maxHeartbeats 2000000 in
theorem rkids_call (t : T) (h : t.ok) (hl : t.fl.length ≤ 1000) (tt : Bool) : MCalls Tryz.prog 171 [.lst 5 (t.fl.map ND.c) tt, .int .i64 0] St.none (fun r _ => r = .lst 1 t.kl false) := by
 refine MCalls.seen (MCalls.body 44 [.tmp 4] Tryz.func171 rfl rfl rfl rfl ?_)
 have hpos := t.fl_pos
 have hf0 : (t.fl.getD 0 nd0) = t.root := by rw [T.fl_kids]; rfl
 obtain ⟨h1, h2⟩ := T.ok_kids h
 have hb2 : t.kids.length ≤ 2 := by have := parts_cases t.root.op; omega
 repeat' (first | (with_reducible first | (refine wT ?_; (first | ((fail_if_success (have := nl1)); refine wN fun nl1 hnl => ?_) | ((fail_if_success (have := nl2)); refine wN fun nl2 hnl => ?_) | ((fail_if_success (have := nl3)); refine wN fun nl3 hnl => ?_) | ((fail_if_success (have := nl4)); refine wN fun nl4 hnl => ?_) | ((fail_if_success (have := nl5)); refine wN fun nl5 hnl => ?_) | refine wN fun _ hnl => ?_); revert hnl; (repeat refine wS fun _ _ => ?_); intro hnl) | refine wD (by decide +kernel) ?_ | refine wI (fun h => ?_) fun h => ?_ | refine wF (fun h => ?_) fun h => ?_ | refine wG (fun h => ?_) fun h => ?_ | refine wH (fun h => ?_) fun h => ?_ | ((first | refine mfork_bool (fun h => ?_) fun h => ?_ | refine mgfork_bool (fun h => ?_) fun h => ?_) <;> simp only [h])) | simp (maxSteps := 4000000) (disch := first | decide | assumption | omega | (simp only [wL]; omega)) only [go_sem, simprocAttr, Tryz.f171, getD_mapd nd0])
 refine mloop_intro (α := Nat × Nat × List (List MV)) (fun a => ⟨44, [(7, .int .i64 (a.1 : Int)), (6, .int .i64 ((1 + ((t.kids.take a.1).map T.fl).flatten.length : Nat) : Int)), (5, .vec 1 a.2.1 0 a.1), (0, .lst 5 (t.fl.map ND.c) tt), (1, .int .i64 0)], []⟩)
  (fun a => St.none.set a.2.1 (.row 30 1 ((t.kl.take a.1) ++ a.2.2))) (fun a => a.1 ≤ t.kids.length) (fun a => t.kids.length - a.1) ?_ ?_
 ·refine .of (.less ?_ (St.le_refl _)) ⟨(0, nl1, []), rfl, rfl, Nat.zero_le _⟩
  simp (maxSteps := 4000000) (disch := first | decide | assumption | omega | (simp only [wL]; omega)) only [go_sem, simprocAttr, weak_int, weak_same]
  all_goals first | exact ⟨rfl, rfl⟩ | rfl
 ·rintro ⟨i, q, ex⟩ hi
  simp only at hi ⊢
  by_cases hlt : i < t.kids.length
  ·obtain ⟨k1, k2, k3, k4, k5⟩ := kid_end h hlt
   have hm : min i t.kids.length = i := Nat.min_eq_left hi
   have e1 : List.map (fun k => [MV.lst 5 (List.map ND.c k.fl) false]) (t.kids.take (i + 1)) = List.map (fun k => [MV.lst 5 (List.map ND.c k.fl) false]) (t.kids.take i) ++ [[.lst 5 ((t.kids.getD i (.leaf nd0)).fl.map ND.c) false]] := by
    rw [List.take_succ_eq_append_getElem hlt, List.map_append, ← getD_of_lt (.leaf nd0) hlt]; rfl
   repeat' (first | (with_reducible refine use_pure (rparts_call _) ?_) | (with_reducible refine use_pure (rend_call _ (by omega) _ _) ?_) | (with_reducible first | (refine wT ?_; (first | ((fail_if_success (have := nl1)); refine wN fun nl1 hnl => ?_) | ((fail_if_success (have := nl2)); refine wN fun nl2 hnl => ?_) | ((fail_if_success (have := nl3)); refine wN fun nl3 hnl => ?_) | ((fail_if_success (have := nl4)); refine wN fun nl4 hnl => ?_) | ((fail_if_success (have := nl5)); refine wN fun nl5 hnl => ?_) | refine wN fun _ hnl => ?_); revert hnl; (repeat refine wS fun _ _ => ?_); intro hnl) | refine wD (by decide +kernel) ?_ | refine wI (fun h => ?_) fun h => ?_ | refine wF (fun h => ?_) fun h => ?_ | refine wG (fun h => ?_) fun h => ?_ | refine wH (fun h => ?_) fun h => ?_ | ((first | refine mfork_bool (fun h => ?_) fun h => ?_ | refine mgfork_bool (fun h => ?_) fun h => ?_) <;> simp only [h])) | simp (maxSteps := 4000000) (disch := first | decide | assumption | omega | (simp only [wL]; omega)) only [go_sem, simprocAttr, getD_mapd nd0, hf0, k1, k2, hm])
   ·have hex : ex = [] := List.eq_nil_of_length_eq_zero (by omega)
    subst hex
    refine .of (Ghost.nest (t := 30) (t1 := 115) (e1 := 5) (ys := (t.kids.getD i (.leaf nd0)).fl.map ND.c) (n1 := (t.kids.getD i (.leaf nd0)).fl.length) (q := nl5) (m := nl3) (pre := List.map (fun k => [MV.lst 5 (List.map ND.c k.fl) false]) (t.kids.take i)) (post := []) St.none (by first | (simp (maxSteps := 4000000) (disch := first | decide | assumption | omega | (simp only [wL]; omega)) only [go_sem, simprocAttr]; done) | (simp (maxSteps := 4000000) (disch := first | decide | assumption | omega | (simp only [wL]; omega)) only [go_sem, simprocAttr]; rfl)) ((set_hit _ _ _).trans ?_) (by rw [List.length_map]) (St.none_le _) rfl (by assumption) ?_) ⟨(i + 1, nl5, []), rfl, ?_, by simp only; omega, by simp only; omega⟩
    ·rw [List.append_nil]
    ·simp (maxSteps := 4000000) (disch := first | decide | assumption | omega | (simp only [wL]; omega)) only [go_sem, simprocAttr, weak_int, weak_same]
     all_goals rfl
    ·simp only
     rw [e1, List.append_nil]
   ·refine .of (Ghost.nest (t := 30) (t1 := 115) (e1 := 5) (ys := (t.kids.getD i (.leaf nd0)).fl.map ND.c) (n1 := (t.kids.getD i (.leaf nd0)).fl.length) (q := nl5) (m := nl3) (pre := List.map (fun k => [MV.lst 5 (List.map ND.c k.fl) false]) (t.kids.take i)) (post := ex.drop 1) St.none (by first | (simp (maxSteps := 4000000) (disch := first | decide | assumption | omega | (simp only [wL]; omega)) only [go_sem, simprocAttr]; done) | (simp (maxSteps := 4000000) (disch := first | decide | assumption | omega | (simp only [wL]; omega)) only [go_sem, simprocAttr]; rfl)) ((set_hit _ _ _).trans ?_) (by rw [List.length_map]) (St.none_le _) rfl (by assumption) ?_) ⟨(i + 1, nl5, ex.drop 1), rfl, ?_, by simp only; omega, by simp only; omega⟩
    ·rw [app_flat' (List.map (fun k => [MV.lst 5 (List.map ND.c (T.fl k)) false]) (t.kids.take i)) ex [[MV.vec 5 nl3 0 (t.kids.getD i (T.leaf nd0)).fl.length]] i 1 (by rw [List.length_map, List.length_take]; omega) rfl, List.append_assoc]
     rfl
    ·simp (maxSteps := 4000000) (disch := first | decide | assumption | omega | (simp only [wL]; omega)) only [go_sem, simprocAttr, weak_int, weak_same]
     all_goals rfl
    ·simp only
     rw [e1, List.append_assoc]
     rfl
  ·have : i = t.kids.length := by omega
   subst this
   repeat' (first | (with_reducible refine use_pure (rparts_call _) ?_) | (with_reducible first | (refine wT ?_; (first | ((fail_if_success (have := nl1)); refine wN fun nl1 hnl => ?_) | ((fail_if_success (have := nl2)); refine wN fun nl2 hnl => ?_) | ((fail_if_success (have := nl3)); refine wN fun nl3 hnl => ?_) | ((fail_if_success (have := nl4)); refine wN fun nl4 hnl => ?_) | ((fail_if_success (have := nl5)); refine wN fun nl5 hnl => ?_) | refine wN fun _ hnl => ?_); revert hnl; (repeat refine wS fun _ _ => ?_); intro hnl) | refine wD (by decide +kernel) ?_ | refine wI (fun h => ?_) fun h => ?_ | refine wF (fun h => ?_) fun h => ?_ | refine wG (fun h => ?_) fun h => ?_ | refine wH (fun h => ?_) fun h => ?_ | ((first | refine mfork_bool (fun h => ?_) fun h => ?_ | refine mgfork_bool (fun h => ?_) fun h => ?_) <;> simp only [h])) | simp (maxSteps := 4000000) (disch := first | decide | assumption | omega | (simp only [wL]; omega)) only [go_sem, simprocAttr, getD_mapd nd0, hf0, List.take_length])
   have hv := View.vec (σ := St.none.set q (.row 30 1 (t.kl ++ ex))) (l := q) (lo := 0) (n := t.kids.length) (set_hit _ _ _) (by rw [List.length_append, List.length_map]; omega)
   have e : ((t.kl ++ ex).drop 0).take t.kids.length = t.kl := by
    rw [List.drop_zero, List.take_append_of_le_length (by rw [List.length_map]; omega), List.take_of_length_le (by rw [List.length_map]; omega)]
   rw [e] at hv
   exact hv
end Go.Proofs.YtfbodefnblpflaaGreatDoor
end

section
namespace Go.Proofs.YtfbodefnblpflaaGreatDoor
open Go.ChangeShapes Go.WideShapes Go.RowKit
def tiles (P : Program) : List (Nat × TypeId) → Nat → Nat → Bool
 | [], o, n => o == n
 | (off, ft) :: r, o, n => off == o && tiles P r (o + (td P ft).size) n
def shp (P : Program) : Nat → TypeId → Bool
 | 0, _ => false
 | n + 1, t => (td P t).ok && match (td P t).k with
  | .bool | .int _ | .str => (td P t).size == 1
  | .slice e => (td P t).size == 1 && decide (0 < (td P e).size) && (td P e).ok && shp P n e
  | .struct fs => tiles P fs 0 (td P t).size && fs.all fun f => (td P f.2).ok && shp P n f.2
  | .array m e => (td P t).size == m * (td P e).size && (td P e).ok && shp P n e
  | _ => false
def CT (P : Program) : Nat → TypeId → List MV → Prop
 | 0, _, _ => False
 | n + 1, t, cs => match (td P t).k with
  | .bool => ∃ b, cs = [.bool b]
  | .int k => ∃ v, cs = [.int k v] ∧ k.min ≤ v ∧ v ≤ k.max
  | .str => ∃ s : ByteArray, cs = [.str s] ∧ s.size ≤ maxLen
  | .slice e => ∃ xs, cs = [.lst (td P e).size xs false] ∧ xs.length ≤ maxLen ∧ ∀ x, x ∈ xs → CT P n e x
  | .struct fs => cs.length = (td P t).size ∧ ∀ f, f ∈ fs → CT P n f.2 ((cs.drop f.1).take (td P f.2).size)
  | .array m e => cs.length = (td P t).size ∧ ∀ i, i < m → CT P n e ((cs.drop (i * (td P e).size)).take (td P e).size)
  | _ => False
def AT (P : Program) (n : Nat) (t : TypeId) (m : MV) : Prop := if (td P t).k.isAgg = true then ∃ cs, m = .agg cs ∧ CT P n t cs else CT P n t [m]
def phi0 (w : World) : Phi := ⟨fun a => w.cell? a, fun _ => none, 0⟩
def GTok (w : World) : Prop := ∀ g i v, GT g i = some v → w.cell? ⟨g, i, none⟩ = some v
theorem inv0 (w : World) (hG : GTok w) : Inv (phi0 w) w St.none where
 own := fun l o h => by simp [St.none] at h
 inj := fun l l' o o' p p' R h => by simp [St.none] at h
 snap := fun a v h => h
 apart := fun l o p R a v h => by simp [St.none] at h
 fresh := ⟨⟨0, fun _ _ => rfl⟩, hG⟩
def RelL (Φ : Phi) (cs : List Value) (ms : List MV) : Prop := cs.length = ms.length ∧ ∀ (i : Nat) v m, cs[i]? = some v → ms[i]? = some m → m.isCell = true ∧ Rel Φ v m
theorem RelL.one {Φ : Phi} {v : Value} {m : MV} (hc : m.isCell = true) (h : Rel Φ v m) : RelL Φ [v] [m] :=
 ⟨rfl, fun i v' m' h1 h2 => by
  cases i with
  | zero => simp at h1 h2; subst h1 h2; exact ⟨hc, h⟩
  | succ i => simp at h1⟩
theorem RelL.app {Φ : Phi} {c1 c2 : List Value} {m1 m2 : List MV} (h1 : RelL Φ c1 m1) (h2 : RelL Φ c2 m2) : RelL Φ (c1 ++ c2) (m1 ++ m2) :=
 ⟨by simp [h1.1, h2.1], fun i v m hv hm => by
  rw [List.getElem?_append] at hv hm
  rw [h1.1] at hv
  split at hv <;> rename_i hi
  ·rw [if_pos hi] at hm; exact h1.2 i v m hv hm
  ·rw [if_neg hi] at hm; exact h2.2 _ v m hv hm⟩
section
variable {H : Type} {enc : TypeId × Value → H} {P : Program} {w : World} {base : Nat} {spare : Nat → Bool} {held : Bool}
theorem td_und {t : TypeId} (h : (td P t).ok = true) : ∃ i d, P.info? t = some i ∧ P.underlying t = some d ∧ (td P t).size = P.cellsOf t ∧ (td P t).k = tkOf d := by
 obtain ⟨i, d, h1, h2, h3, h4, h5⟩ := td_info h
 exact ⟨i, d, h1, h2, by rw [h3]; simp [Program.cellsOf, h1], h5⟩
theorem cells_size {t : TypeId} (h : (td P t).ok = true) : P.cellsOf t = (td P t).size := by
 obtain ⟨_, _, _, _, h, _⟩ := td_und h
 exact h.symm
theorem tile_fields {Φ : Phi} {n : Nat} {cs : List Value} {size : Nat} (hlen : cs.length = size) : ∀ (fs : List (Nat × TypeId)) (o : Nat), o ≤ size → tiles P fs o size = true →
  (∀ f, f ∈ fs → ∃ ms, RelL Φ ((cs.drop f.1).take (td P f.2).size) ms ∧ CT P n f.2 ms) → (∀ f, f ∈ fs → ∀ ms, CT P n f.2 ms → ms.length = (td P f.2).size) →
  ∃ ms, RelL Φ (cs.drop o) ms ∧ ∀ f, f ∈ fs → o ≤ f.1 ∧ CT P n f.2 ((ms.drop (f.1 - o)).take (td P f.2).size)
 | [], o, ho, ht, _, _ => by
  simp only [tiles, beq_iff_eq] at ht
  refine ⟨[], ?_, fun f h => by cases h⟩
  rw [ht, ← hlen, List.drop_length]
  exact ⟨rfl, fun i v m h => by simp at h⟩
 | (off, ft) :: r, o, ho, ht, hf, hl => by
  simp only [tiles, Bool.and_eq_true, beq_iff_eq] at ht
  obtain ⟨rfl, ht⟩ := ht
  obtain ⟨m1, r1, c1⟩ := hf (off, ft) (List.mem_cons_self ..)
  have e1 := hl (off, ft) (List.mem_cons_self ..) m1 c1
  simp only at r1 c1 e1
  have hle : off + (td P ft).size ≤ size := by
   have := r1.1
   simp only [List.length_take, List.length_drop, hlen] at this
   omega
  obtain ⟨m2, r2, c2⟩ := tile_fields hlen r (off + (td P ft).size) hle ht (fun f h => hf f (List.mem_cons_of_mem _ h)) (fun f h => hl f (List.mem_cons_of_mem _ h))
  refine ⟨m1 ++ m2, ?_, fun f h => ?_⟩
  ·have : cs.drop off = (cs.drop off).take (td P ft).size ++ cs.drop (off + (td P ft).size) := by
    rw [← List.drop_drop, List.take_append_drop]
   rw [this]
   exact r1.app r2
  ·rcases List.mem_cons.1 h with rfl | h
   ·refine ⟨Nat.le_refl _, ?_⟩
    simp only [Nat.sub_self, List.drop_zero]
    rw [List.take_append_of_le_length (by omega), List.take_of_length_le (by omega)]
    exact c1
   ·obtain ⟨h1, h2⟩ := c2 f h
    refine ⟨by omega, ?_⟩
    have : (m1 ++ m2).drop (f.1 - off) = m2.drop (f.1 - (off + (td P ft).size)) := by
     rw [List.drop_append, List.drop_eq_nil_of_le (by omega), List.nil_append]
     congr 1
     omega
    rw [this]
    exact h2
theorem ct_len : ∀ (n : Nat) (t : TypeId) (cs : List MV), shp P n t = true → CT P n t cs → cs.length = (td P t).size
 | 0, _, _, h, _ => by cases h
 | n + 1, t, cs, h, hc => by
  simp only [shp, Bool.and_eq_true] at h
  obtain ⟨_, h⟩ := h
  simp only [CT] at hc
  split at hc
  ·rename_i hk; rw [hk] at h; simp only [beq_iff_eq] at h; obtain ⟨b, rfl⟩ := hc; exact h.symm
  ·rename_i hk; rw [hk] at h; simp only [beq_iff_eq] at h; obtain ⟨b, rfl, _⟩ := hc; exact h.symm
  ·rename_i hk; rw [hk] at h; simp only [beq_iff_eq] at h; obtain ⟨b, rfl, _⟩ := hc; exact h.symm
  ·rename_i hk; rw [hk] at h; simp only [Bool.and_eq_true, beq_iff_eq] at h; obtain ⟨b, rfl, _⟩ := hc; exact h.1.1.1.symm
  ·exact hc.1
  ·exact hc.1
  ·exact hc.elim
theorem tiles_le : ∀ (fs : List (Nat × TypeId)) (o m : Nat), tiles P fs o m = true → o ≤ m ∧ ∀ f, f ∈ fs → f.1 + (td P f.2).size ≤ m
 | [], o, m, h => by
  simp only [tiles, beq_iff_eq] at h
  exact ⟨by omega, fun f hf => by cases hf⟩
 | (off, ft) :: r, o, m, h => by
  simp only [tiles, Bool.and_eq_true, beq_iff_eq] at h
  obtain ⟨rfl, h⟩ := h
  obtain ⟨h1, h2⟩ := tiles_le r _ m h
  refine ⟨by omega, fun f hf => ?_⟩
  rcases List.mem_cons.1 hf with rfl | hf
  ·exact h1
  ·exact h2 f hf
theorem tiles_range (e : TypeId) : ∀ (k i : Nat), tiles P ((List.range' i k).map fun j => (j * (td P e).size, e)) (i * (td P e).size) ((i + k) * (td P e).size) = true
 | 0, i => by simp [tiles]
 | k + 1, i => by
  have := tiles_range e k (i + 1)
  rw [List.range'_succ]
  simp only [List.map_cons, tiles, beq_self_eq_true, Bool.true_and]
  rw [show i * (td P e).size + (td P e).size = (i + 1) * (td P e).size by rw [Nat.add_mul, Nat.one_mul], show i + (k + 1) = i + 1 + k by omega]
  exact this
theorem trod_open : ∀ (n : Nat) (t : TypeId) (fuel : Nat) (cs : List Value) (x : DataW H × List MemPlace), shp P n t = true → cs.length = (td P t).size → DataW.trod enc P w base spare held fuel t cs = some x →
  ∃ ms, RelL (phi0 w) cs ms ∧ CT P n t ms
 | 0, _, _, _, _, h, _, _ => by cases h
 | n + 1, t, fuel, cs, x, h, hlen, hx => by
  simp only [shp, Bool.and_eq_true] at h
  obtain ⟨hok, h⟩ := h
  obtain ⟨i, d, hi, hd, hsz, hk⟩ := td_und hok
  split at h <;> rename_i hkk
  ·have ht := und_bool hkk
   obtain ⟨b, rfl, _⟩ := DataW.trod_bool ht hx
   exact ⟨[.bool b], .one rfl (.bool b), by simp only [CT, hkk]; exact ⟨b, rfl⟩⟩
  ·rename_i k
   have ht := und_int hkk
   obtain ⟨v, rfl, _, hw⟩ := DataW.trod_int ht hx
   simp only [Lit.wf, Bool.and_eq_true, decide_eq_true_eq] at hw
   exact ⟨[.int k v], .one rfl (.int k v), by simp only [CT, hkk]; exact ⟨v, rfl, hw⟩⟩
  ·have ht := und_str hkk
   obtain ⟨s, rfl, _, hw⟩ := DataW.trod_string ht hx
   exact ⟨[.str s], .one rfl (.str s), by simp only [CT, hkk]; exact ⟨s, rfl, hw⟩⟩
  ·rename_i e
   have ht := und_slice hkk
   simp only [Bool.and_eq_true, decide_eq_true_eq] at h
   obtain ⟨⟨⟨_, h0⟩, heok⟩, h⟩ := h
   have hce := cells_size heok
   rcases DataW.trod_slice ht hx with ⟨rfl, _⟩ | ⟨a, len, cap, elems, rest, m, _, rfl, _, _, hlc, hcm, hel, hget, _⟩
   ·exact ⟨[.lst (td P e).size [] false], .one rfl (.lstn _ _), by simp only [CT, hkk]; exact ⟨[], rfl, by simp, fun x h => by cases h⟩⟩
   ·have key : ∀ i : Nat, ∃ q : List Value × List MV, i < len → w.cells? base (a.add (i * (td P e).size)) (td P e).size = some q.1 ∧ RelL (phi0 w) q.1 q.2 ∧ CT P n e q.2 ∧ q.2.length = (td P e).size := by
     intro i
     by_cases hi : i < len
     ·have := hget i hi
      rw [hce] at this
      obtain ⟨y, hy⟩ : ∃ y, elems[i]? = some y := ⟨elems[i]'(by omega), by simp⟩
      rw [hy] at this
      cases hc : w.cells? base (a.add (i * (td P e).size)) (td P e).size with
      | none => rw [hc] at this; cases this
      | some c =>
       rw [hc] at this
       have hcl := (World.cells?_some hc).2.1
       obtain ⟨ms, r, ct⟩ := trod_open n e m c y h hcl this
       exact ⟨(c, ms), fun _ => ⟨rfl, r, ct, by rw [← r.1]; exact hcl⟩⟩
     ·exact ⟨([], []), fun h => absurd h hi⟩
    obtain ⟨F, hF⟩ := Classical.axiomOfChoice key
    let xs := (List.range len).map fun i => (F i).2
    have hxs : ∀ (i : Nat) (y : List MV), xs[i]? = some y → i < len ∧ y = (F i).2 := fun i y hy => by
     simp only [xs, List.getElem?_map, Option.map_eq_some_iff] at hy
     obtain ⟨j, hj, rfl⟩ := hy
     rw [List.getElem?_eq_some_iff] at hj
     obtain ⟨h1, h2⟩ := hj
     simp at h1 h2
     subst h2
     exact ⟨h1, rfl⟩
    refine ⟨[.lst (td P e).size xs false], .one rfl (Rel.mk_lst (by simp [xs]) hlc hcm (fun h => by cases h) (fun h => by cases h) (fun hpos => ?_)), ?_⟩
    ·obtain ⟨hc0, hr0, _, hl0⟩ := hF 0 hpos
     obtain ⟨_, hcl, hcell⟩ := World.cells?_some hc0
     have g0 := hcell 0 h0
     obtain ⟨c0, hc0'⟩ : ∃ c0, (F 0).1[0]? = some c0 := ⟨(F 0).1[0]'(by omega), by simp⟩
     rw [hc0'] at g0
     obtain ⟨b, off, spot⟩ := a
     have hspot : spot = none := by simpa [Addr.add] using World.cell?_spot g0
     subst hspot
     refine ⟨b, off, rfl, fun i y hy => ?_, fun i j => (F i).1.getD j undef, fun i y j m hy hm => ?_⟩
     ·obtain ⟨hi, rfl⟩ := hxs i y hy
      exact (hF i hi).2.2.2
     ·obtain ⟨hi, rfl⟩ := hxs i y hy
      obtain ⟨hc, hr, _, hl⟩ := hF i hi
      obtain ⟨_, hcl, hcell⟩ := World.cells?_some hc
      have hj : j < (F i).2.length := (List.getElem?_eq_some_iff.1 hm).1
      have hj' : j < (F i).1.length := by rw [hcl, ← hl]; exact hj
      have hv : (F i).1[j]? = some ((F i).1.getD j undef) := by simp [List.getD, hj']
      obtain ⟨k1, k2⟩ := hr.2 j _ m hv hm
      refine ⟨k1, ?_, k2⟩
      have := hcell j (by omega)
      rw [hv] at this
      simp only [add_none] at this
      show w.cell? _ = _
      rw [← Nat.add_assoc]
      exact this
    ·simp only [CT, hkk]
     refine ⟨xs, rfl, by simp [xs]; omega, fun y hy => ?_⟩
     obtain ⟨i, hi⟩ := List.mem_iff_getElem?.1 hy
     obtain ⟨hil, e⟩ := hxs i y hi
     rw [e]
     exact (hF i hil).2.2.1
  ·rename_i fs
   obtain ⟨fa, ht, rfl⟩ := und_struct hkk
   simp only [Bool.and_eq_true, List.all_eq_true] at h
   obtain ⟨htl, hall⟩ := h
   obtain ⟨xs, m, _, _, hcl, hxl, hget⟩ := DataW.trod_struct ht hx
   have hfield : ∀ f, f ∈ (fa.toList.map fun f => (f.offset, f.type)) → ∃ ms, RelL (phi0 w) ((cs.drop f.1).take (td P f.2).size) ms ∧ CT P n f.2 ms := by
    intro f hf
    have hf0 := hall f hf
    obtain ⟨g, hg, rfl⟩ := List.mem_map.1 hf
    obtain ⟨i, hi⟩ := List.mem_iff_getElem?.1 hg
    have hi' : fa[i]? = some g := by simpa using hi
    have hil : i < xs.length := by
     rw [hxl]
     obtain ⟨q, _⟩ := Array.getElem?_eq_some_iff.1 hi'
     exact q
    have := hget i g hi'
    simp only at hf0 ⊢
    rw [cells_size hf0.1, List.getElem?_eq_getElem hil] at this
    refine trod_open n _ m _ _ hf0.2 ?_ this
    have := (tiles_le _ _ _ htl).2 _ hf
    simp only [List.length_take, List.length_drop, hlen] at this ⊢
    omega
   obtain ⟨ms, r, hc⟩ := tile_fields (Φ := phi0 w) (n := n) (P := P) hlen _ 0 (Nat.zero_le _) htl hfield (fun f hf ms hm => ct_len n _ ms (hall f hf).2 hm)
   refine ⟨ms, by simpa using r, ?_⟩
   simp only [CT, hkk]
   refine ⟨by rw [← hlen]; simpa using r.1.symm, fun f hf => ?_⟩
   have := (hc f hf).2
   simpa using this
  ·rename_i k e
   have ht := und_array hkk
   simp only [Bool.and_eq_true, beq_iff_eq] at h
   obtain ⟨⟨hsz2, heok⟩, h⟩ := h
   obtain ⟨xs, m, _, _, hcl, hxl, hget⟩ := DataW.trod_array ht hx
   have htl : tiles P ((List.range k).map fun j => (j * (td P e).size, e)) 0 (td P t).size = true := by
    have := tiles_range (P := P) e k 0
    rw [List.range_eq_range', hsz2]
    simpa using this
   have hfield : ∀ f, f ∈ ((List.range k).map fun j => (j * (td P e).size, e)) → ∃ ms, RelL (phi0 w) ((cs.drop f.1).take (td P f.2).size) ms ∧ CT P n f.2 ms := by
    intro f hf
    have hle := (tiles_le _ _ _ htl).2 _ hf
    obtain ⟨i, hi, rfl⟩ := List.mem_map.1 hf
    have hik : i < k := by simpa using hi
    have := hget i hik
    simp only at hle ⊢
    rw [cells_size heok, List.getElem?_eq_getElem (by omega)] at this
    refine trod_open n _ m _ _ h ?_ this
    simp only [List.length_take, List.length_drop, hlen]
    omega
   obtain ⟨ms, r, hc⟩ := tile_fields (Φ := phi0 w) (n := n) (P := P) hlen _ 0 (Nat.zero_le _) htl hfield (fun f hf ms hm => by
    obtain ⟨i, hi, rfl⟩ := List.mem_map.1 hf
    exact ct_len n _ ms h hm)
   refine ⟨ms, by simpa using r, ?_⟩
   simp only [CT, hkk]
   refine ⟨by rw [← hlen]; simpa using r.1.symm, fun i hi => ?_⟩
   have := (hc (i * (td P e).size, e) (List.mem_map.2 ⟨i, by simpa using hi, rfl⟩)).2
   simpa using this
  ·cases h
theorem arg_open {n : Nat} {t : TypeId} {v : Value} {d : DataW H} {ps : List MemPlace} {r : Reach} {b0 : Nat} (h : shp P n t = true) (hv : Value.okWide P w r b0 t v) (hd : DataW.Trod enc P w base spare held t v d ps) :
  ∃ m, Rel (phi0 w) v m ∧ AT P n t m := by
 obtain ⟨fuel, hf⟩ := hd
 have hok : (td P t).ok = true := by
  cases n with
  | zero => cases h
  | succ n => simp only [shp, Bool.and_eq_true] at h; exact h.1
 have hcs := cells_size hok
 unfold AT
 have key : (∃ cs, v = .agg cs ∧ cs.size = (td P t).size ∧ (td P t).k.isAgg = true) ∨ ((td P t).k.isAgg = false ∧ v.cells = #[v] ∧ (td P t).size = 1) := by
  cases n with
  | zero => cases h
  | succ n =>
   simp only [shp, Bool.and_eq_true] at h
   obtain ⟨_, h⟩ := h
   split at h <;> rename_i hk
   ·obtain ⟨b, rfl⟩ := okWide_bool (und_bool hk) hv
    exact .inr ⟨by rw [hk]; rfl, rfl, by simpa using h⟩
   ·obtain ⟨b, rfl⟩ := okWide_int (und_int hk) hv
    exact .inr ⟨by rw [hk]; rfl, rfl, by simpa using h⟩
   ·obtain ⟨b, rfl⟩ := okWide_string (und_str hk) hv
    exact .inr ⟨by rw [hk]; rfl, rfl, by simpa using h⟩
   ·obtain ⟨a, l, c, rfl⟩ := okWide_slice (und_slice hk) hv
    simp only [Bool.and_eq_true, beq_iff_eq] at h
    exact .inr ⟨by rw [hk]; rfl, rfl, h.1.1.1⟩
   ·obtain ⟨fa, ht, _⟩ := und_struct hk
    obtain ⟨cs, rfl, hs⟩ := okWide_struct ht hv
    exact .inl ⟨cs, rfl, by rw [hs, hcs], by rw [hk]; rfl⟩
   ·have ht := und_array hk
    simp only [Value.okWide, ht] at hv
    obtain ⟨cs, rfl, hs, _⟩ := hv
    exact .inl ⟨cs, rfl, by rw [hs, hcs], by rw [hk]; rfl⟩
   ·cases h
 rcases key with ⟨cs, rfl, hs, ha⟩ | ⟨ha, hc, hs⟩
 ·simp only [ha, if_true]
  obtain ⟨ms, hr, hct⟩ := trod_open n t fuel _ _ h (by simpa [Value.cells] using hs) hf
  have hr' : RelL (phi0 w) cs.toList ms := by simpa [Value.cells] using hr
  have hl : cs.size = ms.length := by simpa using hr'.1
  have get : ∀ (i : Nat) m, ms[i]? = some m → cs.toList[i]? = some (cs.getD i undef) := fun i m hm => by
   have : i < cs.size := by rw [hl]; exact (List.getElem?_eq_some_iff.1 hm).1
   simp [Array.getD, this]
  exact ⟨.agg ms, .agg hl (fun i m hm => (hr'.2 i _ m (get i m hm) hm).1) (fun i m hm => (hr'.2 i _ m (get i m hm) hm).2), ms, rfl, hct⟩
 ·simp only [ha, Bool.false_eq_true, if_false]
  obtain ⟨ms, hr, hct⟩ := trod_open n t fuel _ _ h (by rw [hc, hs]; rfl) hf
  rw [hc] at hr
  match ms, hr with
  | [m], hr =>
   exact ⟨m, (hr.2 0 v m rfl rfl).2, hct⟩
  | [], hr => exact absurd hr.1 (by simp)
  | _ :: _ :: _, hr => exact absurd hr.1 (by simp)
def ATs (P : Program) (n : Nat) : List TypeId → List MV → Prop
 | [], [] => True
 | t :: ts, m :: ms => AT P n t m ∧ ATs P n ts ms
 | _, _ => False
theorem args_open {n : Nat} : ∀ {ts : List TypeId} {vs : List Value} {ds : List (DataW H)} {ps : List MemPlace}, (∀ t, t ∈ ts → shp P n t = true) → (∀ (j : Nat) t v, ts[j]? = some t → vs[j]? = some v → Value.okWide P w .any base t v) →
  DataW.TrodAll enc P w 0 spare held ts vs ds ps → ∃ ms, vs.length = ms.length ∧ (∀ (i : Nat) v m, vs[i]? = some v → ms[i]? = some m → Rel (phi0 w) v m) ∧ ATs P n ts ms
 | [], vs, ds, ps, _, _, h => by
  obtain ⟨rfl, _, _⟩ := trodAll_nil h
  exact ⟨[], rfl, fun i v m h => by simp at h, trivial⟩
 | t :: ts, vs, ds, ps, hs, hok, h => by
  obtain ⟨v, vs1, d, ds1, a, b, rfl, rfl, rfl, h1, h2⟩ := trodAll_cons h
  obtain ⟨m, r, ht⟩ := arg_open (hs t (List.mem_cons_self ..)) (hok 0 t v rfl rfl) h1
  obtain ⟨ms, e, rs, hts⟩ := args_open (fun t h => hs t (List.mem_cons_of_mem _ h)) (fun j t v p q => hok (j + 1) t v (by simpa using p) (by simpa using q)) h2
  refine ⟨m :: ms, by simp [e], fun i v' m' p q => ?_, ht, hts⟩
  cases i with
  | zero => simp at p q; subst p q; exact r
  | succ i => simp at p q; exact rs i v' m' p q
theorem args_stay {W W' : World} (hl : laidOutB P = true) (hb : ∀ k, k < W.heap.size → W'.heap[k]? = W.heap[k]?) : ∀ {ts : List TypeId} {vs : List Value} {ds : List (DataW H)} {ps : List MemPlace} {sp : Nat → Bool},
  (∀ t, t ∈ ts → P.readableRec t = true ∧ t < P.types.size) → DataW.TrodAll enc P W 0 (fun _ => true) true ts vs ds ps → (∀ x ∈ ps, x.block < W.heap.size) → (∀ x ∈ ps, sp x.block = true) → DataW.TrodAll enc P W' 0 sp true ts vs ds ps
 | [], vs, ds, ps, sp, _, h, _, _ => by
  obtain ⟨rfl, rfl, rfl⟩ := trodAll_nil h
  exact trodAll_mk0
 | t :: ts, vs, ds, ps, sp, hr, h, hlt, hsp => by
  obtain ⟨v, vs1, d, ds1, a, b, rfl, rfl, rfl, h1, h2⟩ := trodAll_cons h
  refine ⟨a, b, ?_, args_stay hl hb (fun t h => hr t (List.mem_cons_of_mem _ h)) h2 (fun x hx => hlt x (List.mem_append_right _ hx)) (fun x hx => hsp x (List.mem_append_right _ hx)), rfl⟩
  obtain ⟨r1, r2⟩ := hr t (List.mem_cons_self ..)
  refine WideElems.Trod_stays hl r1 r2 h1 (fun x hx => ?_) (fun x hx => hsp x (List.mem_append_left _ hx))
  have hp := hlt x (List.mem_append_left _ hx)
  cases x with
  | cell b o => exact World.cell?_of_block (w := W) (hb b hp)
  | map b => exact hb b hp
theorem kept_of {W W' : World} {may : MemPlace → Prop} (h1 : W'.os = W.os) (h2 : W'.output = W.output) (hb : ∀ k, k < W.heap.size → W'.heap[k]? = W.heap[k]?) : W.keptBut W' may := by
 refine ⟨h1, h2, fun i hi => ?_⟩
 rw [hb i hi]
 cases W.heap[i]? with
 | none => rfl
 | some o => cases o with
  | cells c t fr => exact ⟨rfl, rfl, rfl, fun _ _ => rfl⟩
  | map es clock => exact .inr ⟨rfl, rfl⟩
  | _ => rfl
theorem frozen_of {W W' : World} (hb : ∀ k, k < W.heap.size → W'.heap[k]? = W.heap[k]?) {a : Addr} (h : a.block < W.heap.size) : W'.frozen? a = W.frozen? a := by
 unfold World.frozen?
 rw [hb _ h]
theorem law_post {f : Func} {s : ChangeSpec} {apart fresh handsOn again : Bool} {W W' : World} {args : Array Value} {ds gs : List (DataW H)} {before : List MemPlace} {tb : TypeId}
  (hvars : s.vars = []) (hs : ∀ (H : Type) (ds : List (DataW H)), ds.length = f.params.size → s.fn H ds = { results := [.lit (.bool true)], args := ds })
  (hres : f.resultTypes = #[tb]) (htb : P.underlying tb = some .bool) (hl : laidOutB P = true) (hr : ∀ t, t ∈ f.params.toList → P.readableRec t = true ∧ t < P.types.size)
  (hW : DataW.Whole enc P f.params.toList s.vars apart W args.toList ds gs before) (h1 : W'.os = W.os) (h2 : W'.output = W.output) (hb : ∀ k, k < W.heap.size → W'.heap[k]? = W.heap[k]?) :
  s.post enc P f apart fresh handsOn again W args (.bool true) W' := by
 have hlt := hW.lt
 have hW0 := hW
 obtain ⟨p, q, hA, hV, hpq, hfz, hnd⟩ := hW
 rw [hvars] at hV
 obtain ⟨rfl, rfl⟩ := trodVars_none hV
 rw [List.append_nil] at hpq
 subst hpq
 have hlen : ∀ {ts : List TypeId} {vs : List Value} {ds : List (DataW H)} {ps : List MemPlace}, DataW.TrodAll enc P W 0 (fun _ => true) true ts vs ds ps → ds.length = ts.length := by
  intro ts
  induction ts with
  | nil => intro vs ds ps h; obtain ⟨_, rfl, _⟩ := trodAll_nil h; rfl
  | cons t ts ih =>
   intro vs ds ps h
   obtain ⟨v, vs1, d, ds1, a, b, rfl, rfl, rfl, h1, h2⟩ := trodAll_cons h
   simp [ih h2]
 have hfn : s.fn H (ds ++ []) = { results := [.lit (.bool true)], args := ds } := by
  rw [List.append_nil]
  exact hs H ds (by rw [hlen hA]; simp)
 have hargs : ∀ sp : Nat → Bool, (∀ x ∈ before, sp x.block = true) → DataW.TrodAll enc P W' 0 sp true f.params.toList args.toList ds before := fun sp hsp => args_stay hl hb hr hA hlt hsp
 have hresl : (Value.bool true).resultList f.resultTypes.size = [.bool true] := by rw [hres]; rfl
 have hrt : ∀ (b : Nat) (sp : Nat → Bool) (hd : Bool), DataW.TrodAll enc P W' b sp hd f.resultTypes.toList ((Value.bool true).resultList f.resultTypes.size) [.lit (.bool true)] [] := fun b sp hd => by
  rw [hresl, hres]
  exact trodAll_mk1 (shut_bool htb true)
 refine ⟨ds, [], before, [], before, [], hW0, ?_, ?_, ?_, kept_of h1 h2 hb, fun _ => ⟨?_, [.lit (.bool true)] ++ ds, [], [] ++ before, ⟨[] ++ before, [], trodAll_append (hargs _ fun _ _ => rfl) (hrt _ _ _), ?_, by simp, fun b off hp => ?_, fun ha => ?_⟩, fun x hx _ => ?_⟩⟩
 ·rw [hfn]; exact hrt _ _ _
 ·rw [hfn]; exact hargs _ fun x hx => by simpa using hlt x hx
 ·rw [hfn, hvars]; rfl
 ·exact ok_one hres rfl (okWide_bool_mk htb true)
 ·rw [hvars]; rfl
 ·have hp' : MemPlace.cell b off ∈ before := by simpa using hp
  rw [frozen_of hb (a := ⟨b, off, none⟩) (hlt _ hp')]
  exact hfz b off (by simpa using hp')
 ·have := hnd ha
  simpa using this
 ·simpa using hx
theorem ct_int {n : Nat} {t : TypeId} {k : IntKind} {cs : List MV} (hk : (td P t).k = .int k) (h : CT P (n + 1) t cs) : ∃ v, cs = [.int k v] ∧ k.min ≤ v ∧ v ≤ k.max := by
 simp only [CT, hk] at h; exact h
theorem ct_bool {n : Nat} {t : TypeId} {cs : List MV} (hk : (td P t).k = .bool) (h : CT P (n + 1) t cs) : ∃ b, cs = [.bool b] := by
 simp only [CT, hk] at h; exact h
theorem ct_str {n : Nat} {t : TypeId} {cs : List MV} (hk : (td P t).k = .str) (h : CT P (n + 1) t cs) : ∃ s : ByteArray, cs = [.str s] ∧ s.size ≤ maxLen := by
 simp only [CT, hk] at h; exact h
theorem ct_slice {n : Nat} {t e : TypeId} {cs : List MV} (hk : (td P t).k = .slice e) (h : CT P (n + 1) t cs) : ∃ xs, cs = [.lst (td P e).size xs false] ∧ xs.length ≤ maxLen ∧ ∀ x, x ∈ xs → CT P n e x := by
 simp only [CT, hk] at h; exact h
theorem ct_struct {n : Nat} {t : TypeId} {fs : List (Nat × TypeId)} {cs : List MV} (hk : (td P t).k = .struct fs) (h : CT P (n + 1) t cs) : cs.length = (td P t).size ∧ ∀ f, f ∈ fs → CT P n f.2 ((cs.drop f.1).take (td P f.2).size) := by
 simp only [CT, hk] at h; exact h
theorem ct_array {n m : Nat} {t e : TypeId} {cs : List MV} (hk : (td P t).k = .array m e) (h : CT P (n + 1) t cs) : cs.length = (td P t).size ∧ ∀ i, i < m → CT P n e ((cs.drop (i * (td P e).size)).take (td P e).size) := by
 simp only [CT, hk] at h; exact h
theorem at_cell {n : Nat} {t : TypeId} {m : MV} (hk : (td P t).k.isAgg = false) (h : AT P n t m) : CT P n t [m] := by
 simpa only [AT, hk, Bool.false_eq_true, if_false] using h
theorem at_agg {n : Nat} {t : TypeId} {m : MV} (hk : (td P t).k.isAgg = true) (h : AT P n t m) : ∃ cs, m = .agg cs ∧ CT P n t cs := by
 simpa only [AT, hk, if_true] using h
theorem lists_of {α : Type} {f : α → List MV} {xs : List (List MV)} (h : ∀ x, x ∈ xs → ∃ a, x = f a) : ∃ l : List α, xs = l.map f := by
 induction xs with
 | nil => exact ⟨[], rfl⟩
 | cons x xs ih =>
  obtain ⟨a, rfl⟩ := h x (List.mem_cons_self ..)
  obtain ⟨l, rfl⟩ := ih fun y hy => h y (List.mem_cons_of_mem _ hy)
  exact ⟨a :: l, rfl⟩
theorem cell_eq {a b : MV} (h : [a] = [b]) : a = b := by simpa using h
end
end Go.Proofs.YtfbodefnblpflaaGreatDoor
end
