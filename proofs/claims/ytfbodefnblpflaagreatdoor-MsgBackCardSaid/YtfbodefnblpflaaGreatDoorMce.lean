/- Parts of the proof, joined. Each part says what it proves, and under which conditions it does: those that its theorems name. -/
import Derived.Test.YtfbodefnblpflaaGreatDoorMcc
import Derived.Test.YtfbodefnblpflaaGreatDoorMcd
set_option linter.unusedVariables false
set_option linter.unusedSimpArgs false
set_option maxHeartbeats 4000000
section
namespace Go.Proofs.YtfbodefnblpflaaGreatDoor
def fc (f : F8) : List MV := (f.l.map VA.c).flatten
theorem va_len (l : List VA) : (l.map VA.c).flatten.length = 3 * l.length := by
 induction l with
 | nil => rfl
 | cons v l ih => simp only [List.map_cons, List.flatten_cons, List.length_append, List.length_cons, List.length_nil, ih]; omega
theorem va_drop : ∀ (l : List VA) (i : Nat), ((l.map VA.c).flatten).drop (i * 3) = ((l.drop i).map VA.c).flatten
 | _, 0 => by simp
 | [], i + 1 => by simp
 | v :: l, i + 1 => by
  have := va_drop l i
  rw [show (i + 1) * 3 = i * 3 + 3 by omega]
  simp only [List.map_cons, List.flatten_cons, List.cons_append, List.nil_append, List.drop_succ_cons]
  exact this
theorem va_take : ∀ (l : List VA) (i : Nat), ((l.map VA.c).flatten).take (i * 3) = ((l.take i).map VA.c).flatten
 | _, 0 => by simp
 | [], i + 1 => by simp
 | v :: l, i + 1 => by
  have := va_take l i
  rw [show (i + 1) * 3 = i * 3 + 3 by omega]
  simp only [List.map_cons, List.flatten_cons, List.cons_append, List.nil_append, List.take_succ_cons]
  rw [this]
theorem va_cell (l : List VA) : ((l.map VA.c).flatten).all MV.isCell = true := by
 induction l with
 | nil => rfl
 | cons v l ih =>
  simp only [List.map_cons, List.flatten_cons, List.cons_append, List.nil_append, List.all_cons, ih]; rfl
theorem fc_len (f : F8) : (fc f).length = 24 := by rw [fc, va_len, f.h]
theorem fc_cell (f : F8) : (fc f).all MV.isCell = true := va_cell f.l
theorem fc_take {f : F8} {r : List MV} {n : Nat} (h : 24 ≤ n) : (fc f ++ r).take n = fc f ++ r.take (n - 24) := by
 rw [List.take_append, List.take_of_length_le (by rw [fc_len]; exact h), fc_len]
theorem fc_take' {f : F8} {n : Nat} (h : 24 ≤ n) : (fc f).take n = fc f := List.take_of_length_le (by rw [fc_len]; exact h)
theorem fc_drop {f : F8} {r : List MV} {n : Nat} (h : 24 ≤ n) : (fc f ++ r).drop n = r.drop (n - 24) := by
 rw [List.drop_append, List.drop_eq_nil_of_le (by rw [fc_len]; exact h), fc_len, List.nil_append]
theorem fc_drop' {f : F8} {n : Nat} (h : 24 ≤ n) : (fc f).drop n = [] := List.drop_eq_nil_of_le (by rw [fc_len]; exact h)
theorem fc_getD {f : F8} {r : List MV} {n : Nat} {d : MV} (h : 24 ≤ n) : (fc f ++ r).getD n d = r.getD (n - 24) d := by
 rw [List.getD_eq_getElem?_getD, List.getElem?_append_right (by rw [fc_len]; exact h), fc_len, ← List.getD_eq_getElem?_getD]
theorem fc_drop_at {f : F8} {i : Nat} (h : i < 8) : (fc f).drop (i * 3) = (f.get i).c ++ (fc f).drop ((i + 1) * 3) := by
 have hl : i < f.l.length := by rw [f.h]; exact h
 rw [fc, va_drop, va_drop, List.drop_eq_getElem_cons hl, List.map_cons, List.flatten_cons]
 congr 1
 rw [F8.get, getD_of_lt va0 hl]
theorem fc_at {f : F8} {i : Nat} (h : i < 8) : ((fc f).drop (i * 3)).take 3 = [.int .i64 (f.get i).kd, .int .i64 (f.get i).n, .str (f.get i).s] := by
 rw [fc_drop_at h]; rfl
theorem fc_at_app {f : F8} {r : List MV} {i : Nat} (h : i < 8) : ((fc f ++ r).drop (i * 3)).take 3 = [.int .i64 (f.get i).kd, .int .i64 (f.get i).n, .str (f.get i).s] := by
 rw [List.drop_append_of_le_length (by rw [fc_len]; omega), fc_drop_at h]; rfl
theorem getD_drop {α : Type} {l : List α} {n k : Nat} {d : α} : l.getD (n + k) d = (l.drop n).getD k d := by
 rw [List.getD_eq_getElem?_getD, List.getD_eq_getElem?_getD, List.getElem?_drop]
theorem fc_get0 {f : F8} {i : Nat} {d : MV} (h : i < 8) : (fc f).getD (i * 3) d = .int .i64 (f.get i).kd := by
 have := getD_drop (l := fc f) (n := i * 3) (k := 0) (d := d)
 rw [Nat.add_zero] at this
 rw [this, fc_drop_at h]; rfl
theorem fc_get1 {f : F8} {i : Nat} {d : MV} (h : i < 8) : (fc f).getD (i * 3 + 1) d = .int .i64 (f.get i).n := by
 rw [getD_drop, fc_drop_at h]; rfl
theorem fc_get2 {f : F8} {i : Nat} {d : MV} (h : i < 8) : (fc f).getD (i * 3 + 2) d = .str (f.get i).s := by
 rw [getD_drop, fc_drop_at h]; rfl
theorem fc_laid {f : F8} {i : Nat} {a b : Int} {s : ByteArray} (h : i < 8) : laid (fc f) (i * 3) [.int .i64 a, .int .i64 b, .str s] = fc (f.set i ⟨a, b, s⟩) := by
 have hl : i < f.l.length := by rw [f.h]; exact h
 unfold laid
 simp only [List.length_cons, List.length_nil]
 have e : (f.set i ⟨a, b, s⟩).l = f.l.set i ⟨a, b, s⟩ := rfl
 rw [show i * 3 + (0 + 1 + 1 + 1) = (i + 1) * 3 by omega, fc, fc, va_take, va_drop, e, List.set_eq_take_append_cons_drop, if_pos hl, List.map_append, List.flatten_append, List.map_cons, List.flatten_cons]
 simp only [List.append_assoc]
theorem fc_fold {f : F8} {i : Nat} {v : VA} (h : i < 8) : (fc f).take (i * 3) ++ v.c ++ (fc f).drop (3 + i * 3) = fc (f.set i v) := by
 have := fc_laid (f := f) (i := i) (a := v.kd) (b := v.n) (s := v.s) h
 rw [← this, laid, show 3 + i * 3 = i * 3 + 3 by omega]; rfl
theorem F8.get_hit {f : F8} {i : Nat} {v : VA} (h : i < 8) : (f.set i v).get i = v := by rw [F8.get_set f i i v h, if_pos rfl]
theorem drop_two {α : Type} {a b : α} {l : List α} {n : Nat} : (a :: b :: l).drop (2 + n) = l.drop n := by rw [show 2 + n = n + 1 + 1 by omega]; rfl
theorem drop_three {α : Type} {a b c : α} {l : List α} {n : Nat} : (a :: b :: c :: l).drop (3 + n) = l.drop n := by rw [show 3 + n = n + 1 + 1 + 1 by omega]; rfl
theorem take_two {α : Type} {a b : α} {l : List α} {n : Nat} : (a :: b :: l).take (2 + n) = a :: b :: l.take n := by rw [show 2 + n = n + 1 + 1 by omega]; rfl
theorem take_three {α : Type} {a b c : α} {l : List α} {n : Nat} : (a :: b :: c :: l).take (3 + n) = a :: b :: c :: l.take n := by rw [show 3 + n = n + 1 + 1 + 1 by omega]; rfl
theorem getD_three {α : Type} {a b c d : α} {l : List α} {n : Nat} : (a :: b :: c :: l).getD (3 + n) d = l.getD n d := by rw [show 3 + n = n + 1 + 1 + 1 by omega]; simp
theorem getD_two {α : Type} {a b d : α} {l : List α} {n : Nat} : (a :: b :: l).getD (2 + n) d = l.getD n d := by rw [show 2 + n = n + 1 + 1 by omega]; simp
theorem fc_zero {r : List MV} : (MV.int .i64 0 :: .int .i64 0 :: .str ⟨#[]⟩ :: .int .i64 0 :: .int .i64 0 :: .str ⟨#[]⟩ :: .int .i64 0 :: .int .i64 0 :: .str ⟨#[]⟩ :: .int .i64 0 :: .int .i64 0 :: .str ⟨#[]⟩ ::
  .int .i64 0 :: .int .i64 0 :: .str ⟨#[]⟩ :: .int .i64 0 :: .int .i64 0 :: .str ⟨#[]⟩ :: .int .i64 0 :: .int .i64 0 :: .str ⟨#[]⟩ :: .int .i64 0 :: .int .i64 0 :: .str ⟨#[]⟩ :: r) = fc f80 ++ r := rfl
abbrev PA.c (p : PA) : List MV := .int .u32 (p.mask.toNat : Int) :: .int .u32 (p.lab.toNat : Int) :: fc p.f
abbrev CA.c (c : CA) : List MV := .int .i64 c.id :: .int .i64 c.ver :: .int .u32 (c.lab.toNat : Int) :: fc c.f
abbrev ED.c (e : ED) : List MV := .int .i64 e.kd :: .int .i64 e.id :: .int .i64 e.gr :: .int .u32 (e.p.mask.toNat : Int) :: .int .u32 (e.p.lab.toNat : Int) :: fc e.p.f
theorem u32_int {a b : UInt32} : ((a.toNat : Int) = (b.toNat : Int)) ↔ a = b := by
 constructor
 ·intro h; exact UInt32.toNat_inj.1 (by exact_mod_cast h)
 ·intro h; rw [h]
end Go.Proofs.YtfbodefnblpflaaGreatDoor
end

section
namespace Go.Proofs.YtfbodefnblpflaaGreatDoor
def plainOp : Op → Bool
 | .call ⟨.value _, _, _⟩ | .defer _ => false
 | _ => true
section
variable {P : Program} {C : Know} {MC : FuncId → List MV → St → (MV → St → Prop) → Prop} {f : FR} {σ : St} {Q : MQ} {k : MV → St → Prop} {K : FR → St → Prop} {ops : Array Oper} {rest : List Oper}
theorem mopX_plain {op : Op} (h : plainOp op = true) : mopX P MC f σ k op = mop P f σ k op := by
 cases op <;> first | rfl | (simp [plainOp] at h; done) | skip
 rename_i c
 obtain ⟨callee, args, ts⟩ := c
 cases callee <;> first | rfl | (simp [plainOp] at h; done)
theorem mdraw_plain {id : Nat} {l : List Oper} (hm : P.follows .mixedOrders = true) (hchk : (chk l.toArray && l.all fun o => plainOp o.op) = true) (h : R (mopsC P (fun _ _ => none) (@OfNat.ofNat (Array Oper) (nat_lit 0) (@_root_.id (OfNat (Array Oper) (nat_lit 0)) (OfNat.mk (l.toArray)))) (Q .normal) (@OfNat.ofNat (List Oper) (nat_lit 0) (@_root_.id (OfNat (List Oper) (nat_lit 0)) (OfNat.mk l))) f σ)) : R (mdraw P id (@OfNat.ofNat (List Oper) (nat_lit 0) (@_root_.id (OfNat (List Oper) (nat_lit 0)) (OfNat.mk l))) f σ Q) := by
 simp only [Bool.and_eq_true] at hchk
 exact mwp_draw hm hchk.1 (fun _ _ => none) h
theorem mdraw_know {id : Nat} {l : List Oper} (hm : P.follows .mixedOrders = true) (hchk : chk l.toArray = true) (C : Know) (h : R (mopsC P C (@OfNat.ofNat (Array Oper) (nat_lit 0) (@_root_.id (OfNat (Array Oper) (nat_lit 0)) (OfNat.mk (l.toArray)))) (Q .normal) (@OfNat.ofNat (List Oper) (nat_lit 0) (@_root_.id (OfNat (List Oper) (nat_lit 0)) (OfNat.mk l))) f σ)) : R (mdraw P id (@OfNat.ofNat (List Oper) (nat_lit 0) (@_root_.id (OfNat (List Oper) (nat_lit 0)) (OfNat.mk l))) f σ Q) :=
 mwp_draw hm hchk C h
def locD (ds : List (Nat × Nat)) (t : Nat) : Nat := ((ds.find? fun p => p.1 == t).map (·.2)).getD 0
theorem DOk.of {ds : List (Nat × Nat)} {Rs : List (Nat × Nat)} {dr : Option Nat} {f : FR} (h1 : ∀ p, p ∈ ds → ∃ i o, f.get p.1 = .ptr p.2 i o) (h2 : (ds.map (·.2)).Pairwise (· ≠ ·)) (h3 : (ds.map (·.1)).Pairwise (· ≠ ·)) (h4 : ∀ p, p ∈ Rs → p.2 ∈ ds.map (·.1) ∧ ∀ l i o, f.get p.1 = .ptr l i o → l = locD ds p.2) : DOk ⟨ds.map (·.1), Rs, dr⟩ (locD ds) f := by
 unfold locD at h4 ⊢
 have hloc : ∀ p, p ∈ ds → ((ds.find? fun q => q.1 == p.1).map (·.2)).getD 0 = p.2 := fun p hp => by
  clear h4
  induction ds with
  | nil => cases hp
  | cons q r ih =>
   simp only [List.map_cons] at h2 h3
   obtain ⟨a1, a2⟩ := List.pairwise_cons.1 h2
   obtain ⟨b1, b2⟩ := List.pairwise_cons.1 h3
   rcases List.mem_cons.1 hp with rfl | hp'
   ·simp
   ·have : (q.1 == p.1) = false := by simpa using b1 p.1 (List.mem_map.2 ⟨p, hp', rfl⟩)
    rw [List.find?_cons, this]
    exact ih (fun p hp => h1 p (List.mem_cons_of_mem _ hp)) a2 b2 hp'
 refine ⟨fun t ht => ?_, fun t t' ht ht' hne => ?_, h4⟩
 ·obtain ⟨p, hp, rfl⟩ := List.mem_map.1 ht
  simp only [hloc p hp]
  exact h1 p hp
 ·obtain ⟨p, hp, rfl⟩ := List.mem_map.1 ht
  obtain ⟨q, hq, rfl⟩ := List.mem_map.1 ht'
  simp only [hloc p hp, hloc q hq]
  intro e
  obtain ⟨i, hi, e1⟩ := List.mem_iff_getElem.1 hp
  obtain ⟨j, hj, e2⟩ := List.mem_iff_getElem.1 hq
  have hij : i ≠ j := fun e => by subst e; exact hne (by rw [← e1, ← e2])
  rw [List.pairwise_iff_getElem] at h2
  rcases Nat.lt_or_gt_of_ne hij with hlt | hgt
  ·have := h2 i j (by simpa using hi) (by simpa using hj) hlt
   simp only [List.getElem_map, e1, e2] at this
   exact this e
  ·have := h2 j i (by simpa using hj) (by simpa using hi) hgt
   simp only [List.getElem_map, e1, e2] at this
   exact this e.symm
theorem mdraw_upd {id : Nat} {l : List Oper} (hm : P.follows .mixedOrders = true) (ds : List (Nat × Nat)) (Ds : List Nat) (hds : ds.map (·.1) = Ds) (Rs : List (Nat × Nat)) (d : Nat) (hd : d ∈ Ds) (hchk : chkD ⟨Ds, Rs, some d⟩ l.toArray = true) (C : Know) (hC : ∀ g ms F, C g ms = some F → ∀ l, l ∈ F.rd → l = locD ds d)
  (h1 : ∀ p, p ∈ ds → ∃ i o, f.get p.1 = .ptr p.2 i o) (h2 : (ds.map (·.2)).Pairwise (· ≠ ·)) (h3 : Ds.Pairwise (· ≠ ·)) (h4 : ∀ p, p ∈ Rs → p.2 ∈ Ds ∧ ∀ l i o, f.get p.1 = .ptr l i o → l = locD ds p.2)
  (h : R (mopsX P (mcallU P C) (@OfNat.ofNat (Array Oper) (nat_lit 0) (@_root_.id (OfNat (Array Oper) (nat_lit 0)) (OfNat.mk (l.toArray)))) (Q .normal) (@OfNat.ofNat (List Oper) (nat_lit 0) (@_root_.id (OfNat (List Oper) (nat_lit 0)) (OfNat.mk l))) f σ)) : R (mdraw P id (@OfNat.ofNat (List Oper) (nat_lit 0) (@_root_.id (OfNat (List Oper) (nat_lit 0)) (OfNat.mk l))) f σ Q) := by
 subst hds
 exact mwp_drawU (X := ⟨ds.map (·.1), Rs, some d⟩) (loc := locD ds) hm C (show CalOk _ _ C from ⟨hd, hC⟩) hchk (DOk.of h1 h2 h3 h4) h
theorem mopsC_nil : R (mopsX P MC ops K [] f σ) = R (K f σ) := rfl
theorem mopsC_cons {dst : Option Tmp} {op : Op} {ty : TypeId} {pos : String} {after : Array Edge} : R (mopsX P MC ops K (⟨dst, op, ty, pos, after, none⟩ :: rest) f σ) = R (mopX P MC f σ (fun v σ' => mopsX P MC ops K (@OfNat.ofNat (List Oper) (nat_lit 0) (@_root_.id (OfNat (List Oper) (nat_lit 0)) (OfNat.mk rest))) (mput f dst v) σ') op) := congrArg R rfl
theorem mopsC_show {l : List Oper} : R (mopsX P MC ops K (@OfNat.ofNat (List Oper) (nat_lit 0) (@_root_.id (OfNat (List Oper) (nat_lit 0)) (OfNat.mk l))) f σ) = R (mopsX P MC ops K l f σ) := congrArg R rfl
theorem mopsC_guard {l : List Oper} {dst : Option Tmp} {op : Op} {ty : TypeId} {pos : String} {after : Array Edge} {j : Nat} {want : Bool} : R (mopsX P MC (@OfNat.ofNat (Array Oper) (nat_lit 0) (@_root_.id (OfNat (Array Oper) (nat_lit 0)) (OfNat.mk (l.toArray)))) K (⟨dst, op, ty, pos, after, some (j, want)⟩ :: rest) f σ) = R (mgfork (E (gval f (gdst (@OfNat.ofNat (List Oper) (nat_lit 0) (@_root_.id (OfNat (List Oper) (nat_lit 0)) (OfNat.mk l))) j))) want (mopX P MC f σ (fun v σ' => mopsX P MC (@OfNat.ofNat (Array Oper) (nat_lit 0) (@_root_.id (OfNat (Array Oper) (nat_lit 0)) (OfNat.mk (l.toArray)))) K (@OfNat.ofNat (List Oper) (nat_lit 0) (@_root_.id (OfNat (List Oper) (nat_lit 0)) (OfNat.mk rest))) (mput f dst v) σ') op) (mopsX P MC (@OfNat.ofNat (Array Oper) (nat_lit 0) (@_root_.id (OfNat (Array Oper) (nat_lit 0)) (OfNat.mk (l.toArray)))) K (@OfNat.ofNat (List Oper) (nat_lit 0) (@_root_.id (OfNat (List Oper) (nat_lit 0)) (OfNat.mk rest))) (mput f dst (.tup [])) σ)) := congrArg R (by
 show mopsX P MC l.toArray K (⟨dst, op, ty, pos, after, some (j, want)⟩ :: rest) f σ = mgfork (gval f (gdst l j)) want (mopX P MC f σ (fun v σ' => mopsX P MC l.toArray K rest (mput f dst v) σ') op) (mopsX P MC l.toArray K rest (mput f dst (.tup [])) σ)
 simp only [mopsX, mguard, gdst_eq]
 cases gdst l j <;> rfl)
theorem mopC_go {op : Op} (h : plainOp op = true) : R (mopX P MC f σ k op) = R (mop P f σ k op) := by rw [mopX_plain h]
def mcallCv (MC : FuncId → List MV → St → (MV → St → Prop) → Prop) (x : MV) (args : List MV) (σ : St) (k : MV → St → Prop) : Prop := match x with
 | .fn (.func g) ms ns => MC g (ms ++ args ++ ns) σ k
 | _ => False
theorem mopC_call {x : Operand} {args : Array Operand} {ts : Array TypeId} : R (mopX P MC f σ k (.call ⟨.value x, args, ts⟩)) = R (mcallCv MC (E (mval f x)) (E (args.toList.map (mval f))) σ k) := congrArg R rfl
theorem mcallCv_fn {g : FuncId} {ms ns args : List MV} : R (mcallCv MC (.fn (.func g) ms ns) args σ k) = R (MC g (E (ms ++ args ++ ns)) σ k) := congrArg R rfl
theorem know_pure {g : FuncId} {ms : List MV} {r : MV} (hC : C g ms = some ⟨[], fun v => v = r, none⟩) (h : MCalls P g ms St.none fun v _ => v = r) (hk : R (mlet r σ k)) : R (mcallC P C g ms σ k) :=
 .inl ⟨[], _, [], hC, rfl, h.mono_pure, ⟨r, rfl⟩, fun v hv => hv ▸ hk⟩
theorem know_at {g : FuncId} {ms : List MV} (rd : List Nat) (os : List MObj) {q : MV → Prop} (hC : C g ms = some ⟨rd, q, none⟩) (hos : rd.map σ = os.map some) (h : MCalls P g ms (St.ofList rd os) fun v σ' => q v ∧ σ' = St.ofList rd os) (hq : ∃ v, q v) (hk : ∀ v, q v → R (mlet v σ k)) : R (mcallC P C g ms σ k) :=
 .inl ⟨rd, q, os, hC, hos, h, hq, hk⟩
theorem knowU_upd {g : FuncId} {ms : List MV} {l : Nat} {q : MV → Prop} {o o' : MObj} {r : MV} (hC : C g ms = some ⟨[l], q, some (o', fun _ => r)⟩) (ho : σ l = some o) (h : MCalls P g ms (St.none.set l o) fun v σ' => v = r ∧ σ' = St.none.set l o') (hk : R (mlet r (σ.set l o') k)) : R (mcallU P C g ms σ k) :=
 .inr (.inr ⟨l, q, o, o', fun _ => r, hC, ho, h, hk⟩)
theorem know_new {g : FuncId} {ms : List MV} {rd : List Nat} {q : MV → Prop} {o : MObj} {u : Nat → MV} (hC : C g ms = some ⟨rd, q, some (o, u)⟩) (h : MCalls P g ms St.none fun v σ' => ∃ l, v = u l ∧ σ' = St.none.set l o) (hk : ∀ l, σ l = none → R (mlet (u l) (σ.set l o) k)) : R (mcallC P C g ms σ k) :=
 .inr ⟨rd, q, o, u, hC, h, hk⟩
end
attribute [go_sem ↓] mopsC_show mopsC_nil mopsC_cons mopsC_guard mopC_call mopC_go
attribute [go_sem] mcallCv_fn
noncomputable def kn (L : List (FuncId × List MV × Fact)) : Know := fun g ms => by
 classical exact (L.find? fun p => decide (p.1 = g ∧ p.2.1 = ms)).map (·.2.2)
theorem kn_hit {g : FuncId} {ms : List MV} {F : Fact} {L : List (FuncId × List MV × Fact)} : kn ((g, ms, F) :: L) g ms = some F := by
 simp [kn]
theorem kn_skip {g g' : FuncId} {ms ms' : List MV} {F F' : Fact} {L : List (FuncId × List MV × Fact)} (h : g' = g ∧ ms' = ms → F' = F) (k : kn L g ms = some F) : kn ((g', ms', F') :: L) g ms = some F := by
 by_cases e : g' = g ∧ ms' = ms
 ·obtain ⟨rfl, rfl⟩ := e
  rw [kn_hit, h ⟨rfl, rfl⟩]
 ·unfold kn at k ⊢
  rw [List.find?_cons_of_neg (by simpa using e)]
  exact k
end Go.Proofs.YtfbodefnblpflaaGreatDoor
end
