/- Parts of the proof, joined. Each part says what it proves, and under which conditions it does: those that its theorems name. -/
import Derived.Test.YtfbodefnblpflaaGreatDoorMcb
set_option linter.unusedVariables false
set_option linter.unusedSimpArgs false
set_option maxHeartbeats 4000000
section
namespace Go.Proofs.YtfbodefnblpflaaGreatDoor
abbrev BL := List UInt8
abbrev bc (b : UInt8) : List MV := [.int .u8 (b.toNat : Int)]
def bsS (l : BL) : ByteArray := ⟨l.toArray⟩
theorem bsS_list (l : BL) : (bsS l).data.toList = l := by simp [bsS]
theorem bsS_size (l : BL) : (bsS l).size = l.length := by simp [bsS, ByteArray.size]
theorem bsS_of (s : ByteArray) : bsS s.data.toList = s := by cases s; simp [bsS]
def big : Int := 1099511627776
def numF : Nat → Nat → BL
 | 0, v => [UInt8.ofNat v]
 | k + 1, v => if v < 128 then [UInt8.ofNat v] else UInt8.ofNat (v % 128 + 128) :: numF k (v / 128)
def numB (n : Int) : BL := numF 5 (min (max n 0) big).toNat
theorem numF_len : ∀ (k v : Nat), (numF k v).length ≤ k + 1
 | 0, v => by simp [numF]
 | k + 1, v => by
  have := numF_len k (v / 128)
  simp only [numF]; split <;> simp; omega
def nxF : Nat → Bool → BL → Int × Nat × Nat
 | 0, _, _ => (3, 0, 0)
 | _ + 1, _, [] => (2, 0, 0)
 | k + 1, first, c :: l => if 128 ≤ c.toNat then (if (nxF k false l).1 = 0 then (0, c.toNat % 128 + 128 * (nxF k false l).2.1, (nxF k false l).2.2 + 1) else ((nxF k false l).1, 0, 0))
  else if c.toNat = 0 ∧ first = false then (3, 0, 0) else (0, c.toNat, 1)
def nx (l : BL) (most : Int) : Int × Nat × Int :=
 if (nxF 6 true l).1 = 0 then (if ((nxF 6 true l).2.1 : Int) > big ∨ ((nxF 6 true l).2.1 : Int) > most then (0, 0, 4) else ((nxF 6 true l).2.1, (nxF 6 true l).2.2, 0)) else (0, 0, (nxF 6 true l).1)
theorem nxF_err : ∀ (k : Nat) (f : Bool) (l : BL), (nxF k f l).1 = 0 ∨ (nxF k f l).1 = 2 ∨ (nxF k f l).1 = 3
 | 0, _, _ => by simp [nxF]
 | _ + 1, _, [] => by simp [nxF]
 | k + 1, f, c :: l => by
  have := nxF_err k false l
  simp only [nxF]
  split
  ·split
   ·simp
   ·simpa using this
  ·split <;> simp
theorem nxF_len : ∀ (k : Nat) (f : Bool) (l : BL), (nxF k f l).1 = 0 → (nxF k f l).2.2 ≤ l.length ∧ (nxF k f l).2.1 < 128 ^ k
 | 0, _, _ => by simp [nxF]
 | _ + 1, _, [] => by simp [nxF]
 | k + 1, f, c :: l => by
  have ih := nxF_len k false l
  have hp : 0 < 128 ^ k := Nat.pow_pos (by decide)
  simp only [nxF, Nat.pow_succ]
  split
  ·split
   ·rename_i h1 h2
    intro _
    obtain ⟨a, b⟩ := ih h2
    simp only [List.length_cons]
    have : c.toNat % 128 < 128 := Nat.mod_lt _ (by decide)
    omega
   ·rename_i h1 h2
    intro h; exact absurd h h2
  ·split
   ·intro h; simp at h
   ·intro _
    simp only [List.length_cons]
    omega
theorem u8_lt (c : UInt8) : c.toNat < 256 := c.toNat_lt
theorem u8_of {n : Nat} (h : n < 256) : (UInt8.ofNat n).toNat = n := by
 rw [UInt8.toNat_ofNat']; exact Nat.mod_eq_of_lt h
theorem u8_eq {c : UInt8} {n : Nat} (h : c.toNat = n) : c = UInt8.ofNat n := by rw [← h, UInt8.ofNat_toNat]
theorem nxF_num : ∀ (k v : Nat) (f : Bool) (l : BL), v < 128 ^ (k + 1) → (f = false → v ≠ 0) → nxF (k + 1) f (numF k v ++ l) = (0, v, (numF k v).length)
 | 0, v, f, l, h, h0 => by
  simp only [numF, List.cons_append, List.nil_append, nxF]
  rw [u8_of (by omega), if_neg (by omega), if_neg (fun hc => h0 hc.2 hc.1)]
  simp
 | k + 1, v, f, l, h, h0 => by
  simp only [numF]
  split
  ·rename_i hv
   simp only [List.cons_append, List.nil_append, nxF]
   rw [u8_of (by omega), if_neg (by omega), if_neg (fun hc => h0 hc.2 hc.1)]
   simp
  ·rename_i hv
   have hd : v / 128 < 128 ^ (k + 1) := by
    rw [Nat.pow_succ] at h
    omega
   have ih := nxF_num k (v / 128) false l hd (fun _ => by omega)
   rw [List.cons_append, nxF, ih, u8_of (by omega), if_pos (by omega), if_pos rfl]
   simp only [List.length_cons, Prod.mk.injEq, true_and, and_true]
   omega
theorem nxF_back : ∀ (k : Nat) (f : Bool) (l : BL), (nxF (k + 1) f l).1 = 0 → (nxF (k + 1) f l).2.1 < 128 ^ (k + 1) → l = numF k (nxF (k + 1) f l).2.1 ++ l.drop (nxF (k + 1) f l).2.2 ∧ (nxF (k + 1) f l).2.2 = (numF k (nxF (k + 1) f l).2.1).length ∧ (f = false → (nxF (k + 1) f l).2.1 ≠ 0)
 | _, _, [] => by simp [nxF]
 | k, f, c :: l => by
  intro h hv
  by_cases hc : 128 ≤ c.toNat
  ·have e : nxF (k + 1) f (c :: l) = if (nxF k false l).1 = 0 then (0, c.toNat % 128 + 128 * (nxF k false l).2.1, (nxF k false l).2.2 + 1) else ((nxF k false l).1, 0, 0) := by rw [nxF, if_pos hc]
   by_cases h1 : (nxF k false l).1 = 0
   ·rw [if_pos h1] at e
    cases k with
    | zero => simp [nxF] at h1
    | succ k =>
     rw [e] at hv ⊢
     simp only at hv ⊢
     have h128 : c.toNat < 256 := u8_lt c
     obtain ⟨b1, b2, b3⟩ := nxF_back k false l h1 (by rw [Nat.pow_succ] at hv; omega)
     have b3 := b3 rfl
     have hm : (c.toNat % 128 + 128 * (nxF (k + 1) false l).2.1) % 128 = c.toNat % 128 := by omega
     have hd : (c.toNat % 128 + 128 * (nxF (k + 1) false l).2.1) / 128 = (nxF (k + 1) false l).2.1 := by omega
     have hcc : UInt8.ofNat (c.toNat % 128 + 128) = c := (u8_eq (by omega)).symm
     have hn : numF (k + 1) (c.toNat % 128 + 128 * (nxF (k + 1) false l).2.1) = c :: numF k (nxF (k + 1) false l).2.1 := by
      rw [numF, if_neg (by omega), hm, hd, hcc]
     rw [hn]
     refine ⟨?_, by rw [List.length_cons, ← b2], fun _ => by omega⟩
     rw [List.drop_succ_cons, List.cons_append, ← b1]
   ·rw [if_neg h1] at e
    rw [e] at h
    exact absurd h h1
  ·by_cases h0 : c.toNat = 0 ∧ f = false
   ·rw [nxF, if_neg hc, if_pos h0] at h; simp at h
   ·have e : nxF (k + 1) f (c :: l) = (0, c.toNat, 1) := by rw [nxF, if_neg hc, if_neg h0]
    rw [e]
    have hn : numF k c.toNat = [c] := by
     cases k <;> simp only [numF]
     ·rw [← u8_eq rfl]
     ·rw [if_pos (by omega), ← u8_eq rfl]
    simp only [hn, List.drop_succ_cons, List.drop_zero, List.length_cons, List.length_nil, true_and]
    exact ⟨rfl, fun hf hz => h0 ⟨hz, hf⟩⟩
theorem numB_of {n : Int} (h0 : 0 ≤ n) (h1 : n ≤ big) : numB n = numF 5 n.toNat := by
 unfold numB
 congr 2
 unfold big at *
 omega
theorem nx_num {n most : Int} (h0 : 0 ≤ n) (h1 : n ≤ big) (h2 : n ≤ most) (l : BL) : nx (numB n ++ l) most = (n, (numB n).length, 0) := by
 rw [numB_of h0 h1]
 have := nxF_num 5 n.toNat true l (by unfold big at h1; omega) (by simp)
 rw [nx, this, if_pos rfl, if_neg (by simp only; omega)]
 simp only [Prod.mk.injEq, and_self, and_true]
 omega
theorem nx_back {l : BL} {most : Int} (h : (nx l most).2.2 = 0) : 0 ≤ (nx l most).1 ∧ (nx l most).1 ≤ big ∧ (nx l most).1 ≤ most ∧ l = numB (nx l most).1 ++ l.drop (nx l most).2.1 ∧ (nx l most).2.1 = (numB (nx l most).1).length := by
 by_cases h1 : (nxF 6 true l).1 = 0
 ·by_cases h2 : ((nxF 6 true l).2.1 : Int) > big ∨ ((nxF 6 true l).2.1 : Int) > most
  ·rw [nx, if_pos h1, if_pos h2] at h; simp at h
  ·have e : nx l most = (((nxF 6 true l).2.1 : Int), (nxF 6 true l).2.2, (0 : Int)) := by rw [nx, if_pos h1, if_neg h2]
   rw [e]
   simp only
   have hl := nxF_len 6 true l h1
   obtain ⟨b1, b2, -⟩ := nxF_back 5 true l h1 hl.2
   have hb : ((nxF 6 true l).2.1 : Int) ≤ big := by omega
   rw [numB_of (by omega) hb, Int.toNat_natCast]
   exact ⟨by omega, hb, by omega, b1, b2⟩
 ·rw [nx, if_neg h1] at h; exact absurd h h1
theorem nx_err (l : BL) (most : Int) : (nx l most).2.2 = 0 ∨ ((nx l most).1 = 0 ∧ (nx l most).2.1 = 0 ∧ ((nx l most).2.2 = 2 ∨ (nx l most).2.2 = 3 ∨ (nx l most).2.2 = 4)) := by
 have := nxF_err 6 true l
 unfold nx
 split
 ·split <;> simp
 ·rename_i h
  rcases this with h1 | h1 | h1
  ·exact absurd h1 h
  ·simp [h1]
  ·simp [h1]
theorem nx_len (l : BL) (most : Int) : (nx l most).2.1 ≤ l.length := by
 have := nxF_len 6 true l
 unfold nx
 split
 ·rename_i h
  split
  ·simp
  ·exact (this h).1
 ·simp
theorem nx_rng (l : BL) (most : Int) : 0 ≤ (nx l most).1 ∧ (nx l most).1 ≤ big := by
 unfold nx
 split
 ·split
  ·exact ⟨by simp, by simp [big]⟩
  ·simp only; omega
 ·exact ⟨by simp, by simp [big]⟩
theorem nx_most (l : BL) {most : Int} (h : 0 ≤ most) : (nx l most).1 ≤ most := by
 unfold nx
 split
 ·split
  ·exact h
  ·simp only; omega
 ·exact h
end Go.Proofs.YtfbodefnblpflaaGreatDoor
end

section
namespace Go.Proofs.YtfbodefnblpflaaGreatDoor
def cmpF : List ND → List ND → Ordering
 | [], [] => .eq
 | [], _ :: _ => .lt
 | _ :: _, [] => .gt
 | a :: x, b :: y => match cmpL a.key b.key with
  | .eq => cmpF x y
  | o => o
theorem drop_getD {α : Type} {l : List α} {i : Nat} (d : α) (h : i < l.length) : l.drop i = l.getD i d :: l.drop (i + 1) := by
 rw [List.drop_eq_getElem_cons h, getD_of_lt d h]
theorem cmpF_cons {a b : ND} {x y : List ND} : cmpF (a :: x) (b :: y) = if cmpL a.key b.key = .eq then cmpF x y else cmpL a.key b.key := by
 simp only [cmpF]
 cases cmpL a.key b.key <;> rfl
theorem ordI_zero {o : Ordering} : ordI o = 0 ↔ o = .eq := by cases o <;> simp [ordI]
def parts (op : Int) : Nat := if op = 10 then 1 else if op = 11 ∨ op = 12 then 2 else 0
def endN : Nat → List ND → Option Nat
 | 0, _ => some 0
 | _ + 1, [] => none
 | n + 1, x :: r => (endN (n + parts x.op) r).map (· + 1)
def endS (l : List ND) (i : Int) : Int := if i < 0 then -1 else match endN 1 (l.drop i.toNat) with
 | none => -1
 | some k => i + k
inductive T where
 | leaf (x : ND)
 | one (x : ND) (a : T)
 | two (x : ND) (a b : T)
def T.fl : T → List ND
 | .leaf x => [x]
 | .one x a => x :: a.fl
 | .two x a b => x :: (a.fl ++ b.fl)
def T.ok : T → Prop
 | .leaf x => parts x.op = 0
 | .one x a => parts x.op = 1 ∧ a.ok
 | .two x a b => parts x.op = 2 ∧ a.ok ∧ b.ok
theorem T.fl_pos : ∀ t : T, 0 < t.fl.length
 | .leaf _ => by simp [T.fl]
 | .one _ _ => by simp [T.fl]
 | .two _ _ _ => by simp [T.fl]
theorem endN_fl : ∀ (t : T), t.ok → ∀ (n : Nat) (r : List ND), endN (n + 1) (t.fl ++ r) = (endN n r).map (· + t.fl.length)
 | .leaf x, h, n, r => by
  simp only [T.ok] at h
  simp [T.fl, endN, h]
 | .one x a, h, n, r => by
  obtain ⟨h1, h2⟩ := h
  simp only [T.fl, List.cons_append, endN, h1]
  rw [endN_fl a h2]
  cases endN n r <;> simp
  omega
 | .two x a b, h, n, r => by
  obtain ⟨h1, h2, h3⟩ := h
  simp only [T.fl, List.cons_append, List.append_assoc, endN, h1]
  rw [show n + 2 = (n + 1) + 1 from rfl, endN_fl a h2, endN_fl b h3]
  cases endN n r <;> simp
  omega
theorem parts_cases (op : Int) : parts op = 0 ∨ parts op = 1 ∨ parts op = 2 := by
 unfold parts
 split
 ·simp
 ·split <;> simp
theorem parse_aux : ∀ (m : Nat) (l : List ND), l.length ≤ m → ∀ (n k : Nat), endN (n + 1) l = some k → ∃ (t : T) (r : List ND), t.ok ∧ l = t.fl ++ r
 | 0, l, hl, n, k, h => by
  have : l = [] := List.eq_nil_of_length_eq_zero (by omega)
  subst this
  simp [endN] at h
 | m + 1, [], hl, n, k, h => by simp [endN] at h
 | m + 1, x :: r, hl, n, k, h => by
  simp only [List.length_cons] at hl
  simp only [endN, Option.map_eq_some_iff] at h
  obtain ⟨j, h, rfl⟩ := h
  rcases parts_cases x.op with hp | hp | hp
  ·exact ⟨.leaf x, r, hp, rfl⟩
  ·rw [hp] at h
   obtain ⟨t, r', ht, rfl⟩ := parse_aux m r (by omega) n j h
   exact ⟨.one x t, r', ⟨hp, ht⟩, rfl⟩
  ·rw [hp] at h
   obtain ⟨a, r1, ha, rfl⟩ := parse_aux m r (by omega) (n + 1) j h
   rw [show n + 2 = (n + 1) + 1 from rfl, endN_fl a ha] at h
   simp only [Option.map_eq_some_iff] at h
   obtain ⟨j1, h, rfl⟩ := h
   obtain ⟨b, r2, hb, rfl⟩ := parse_aux m r1 (by simp at hl; omega) n j1 h
   exact ⟨.two x a b, r2, ⟨hp, ha, hb⟩, by simp [T.fl]⟩
theorem parse {l : List ND} (h : endS l 0 = l.length) : ∃ t : T, t.ok ∧ l = t.fl := by
 unfold endS at h
 rw [if_neg (by omega)] at h
 simp only [Int.toNat_zero, List.drop_zero] at h
 cases e : endN 1 l with
 | none => rw [e] at h; simp at h
 | some k =>
  rw [e] at h
  simp only [Int.zero_add] at h
  have hk : k = l.length := by exact_mod_cast h
  obtain ⟨t, r, ht, rfl⟩ := parse_aux l.length l (Nat.le_refl _) 0 k e
  rw [endN_fl t ht] at e
  simp only [endN, Option.map_some, Option.some.injEq] at e
  refine ⟨t, ht, ?_⟩
  have : r = [] := List.eq_nil_of_length_eq_zero (by simp at hk; omega)
  rw [this, List.append_nil]
theorem endS_fl {t : T} (h : t.ok) (pre r : List ND) : endS (pre ++ (t.fl ++ r)) pre.length = (pre.length + t.fl.length : Nat) := by
 unfold endS
 rw [if_neg (by omega)]
 simp only [Int.toNat_natCast, List.drop_left]
 rw [endN_fl t h]
 simp [endN]
def vaOk (v : VA) : Bool :=
 if v.kd = 0 then decide (v = va0) else if v.kd = 1 then decide (0 ≤ v.n ∧ v.n ≤ 1099511627776 ∧ v.s = ⟨#[]⟩) else if v.kd = 2 then decide (v.n = 0 ∧ v.s.size ≤ 24) else false
def ndOk (x : ND) : Bool :=
 if x.op = 1 ∨ x.op = 2 ∨ x.op = 10 ∨ x.op = 11 ∨ x.op = 12 then decide (x.n = 0 ∧ x.v = va0)
 else if x.op = 3 ∨ x.op = 4 then decide (0 ≤ x.n ∧ x.n < 16 ∧ x.v = va0)
 else if x.op = 5 then decide (0 ≤ x.n ∧ x.n < 8 ∧ x.v = va0)
 else if x.op = 6 ∨ x.op = 7 ∨ x.op = 8 then decide (0 ≤ x.n ∧ x.n < 8 ∧ vaOk x.v = true ∧ x.v ≠ va0)
 else if x.op = 9 then decide (0 ≤ x.n ∧ x.n < 8 ∧ vaOk x.v = true ∧ x.v.kd = 2)
 else false
end Go.Proofs.YtfbodefnblpflaaGreatDoor
end

section
namespace Go.Proofs.YtfbodefnblpflaaGreatDoor
structure RD where
 l : BL
 e : Int
 deriving DecidableEq
def numR (most : Int) (r : RD) : Int × RD := if r.e = 0 then ((nx r.l most).1, ⟨r.l.drop (nx r.l most).2.1, (nx r.l most).2.2⟩) else (0, r)
def failR (e : Int) (r : RD) : RD := if r.e = 0 then ⟨r.l, e⟩ else r
def strR (most : Int) (r : RD) : BL × RD :=
 if r.e = 0 then
  if (nx r.l most).2.2 = 0 then
   if (nx r.l most).1.toNat ≤ r.l.length - (nx r.l most).2.1 then ((r.l.drop (nx r.l most).2.1).take (nx r.l most).1.toNat, ⟨r.l.drop ((nx r.l most).2.1 + (nx r.l most).1.toNat), 0⟩) else ([], ⟨r.l, 2⟩)
  else ([], ⟨r.l, (nx r.l most).2.2⟩)
 else ([], r)
def flagR (r : RD) : Bool × RD :=
 if r.e = 0 then
  if (nx r.l big).2.2 = 0 then
   if (nx r.l big).1 ≤ 1 then (decide ((nx r.l big).1 = 1), ⟨r.l.drop (nx r.l big).2.1, 0⟩) else (false, ⟨r.l, 3⟩)
  else (false, ⟨r.l, (nx r.l big).2.2⟩)
 else (false, r)
def endR (r : RD) : Int := if r.e = 0 ∧ 0 < r.l.length then 3 else r.e
def okR {α : Type} (d : α) (y : α × RD) : α × RD := if y.2.e = 0 then y else (d, y.2)
def fromR (least most : Int) (r : RD) : Int × RD := ((numR most r).1, if (numR most r).1 < least then failR 3 (numR most r).2 else (numR most r).2)
def strB (s : BL) : BL := numB s.length ++ s
def flagB (b : Bool) : BL := numB (if b = true then 1 else 0)
structure F8 where
 l : List VA
 h : l.length = 8
 deriving DecidableEq
abbrev F8.c (f : F8) : List MV := (f.l.map VA.c).flatten
def F8.get (f : F8) (i : Nat) : VA := f.l.getD i va0
def F8.set (f : F8) (i : Nat) (v : VA) : F8 := ⟨f.l.set i v, by rw [List.length_set, f.h]⟩
def f80 : F8 := ⟨List.replicate 8 va0, rfl⟩
abbrev bl (s : ByteArray) : BL := s.data.toList
def valB (v : VA) : BL := if vaOk v = true then numB v.kd ++ (if v.kd = 1 then numB v.n else if v.kd = 2 then strB (bl v.s) else []) else []
def valR (r : RD) : VA × RD :=
 let x := numR 2 r
 let n := numR big x.2
 let s := strR 24 x.2
 okR va0 (if x.1 = 1 then (⟨1, n.1, ⟨#[]⟩⟩, n.2) else if x.1 = 2 then (⟨2, 0, bsS s.1⟩, s.2) else (⟨x.1, 0, ⟨#[]⟩⟩, x.2))
abbrev bit (m i : Nat) : Bool := m.testBit i
structure PA where
 mask : UInt32
 lab : UInt32
 f : F8
 deriving DecidableEq
def pa0 : PA := ⟨0, 0, f80⟩
structure CA where
 id : Int
 ver : Int
 lab : UInt32
 f : F8
 deriving DecidableEq
def ca0 : CA := ⟨0, 0, 0, f80⟩
def idMax : Int := 1073741824
def cardOk (c : CA) : Bool := decide (1 ≤ c.id ∧ c.id < idMax ∧ 1 ≤ c.ver ∧ c.ver ≤ big ∧ c.lab.toNat < 65536) && c.f.l.all vaOk
def patchErr (p : PA) : Int :=
 if p.mask.toNat = 0 ∨ 511 < p.mask.toNat then 11
 else if 65536 ≤ p.lab.toNat ∨ p.lab.toNat ≠ 0 ∧ bit p.mask.toNat 8 = false then 1
 else if (List.range 8).all (fun i => vaOk (p.f.get i) && (decide ((p.f.get i).kd = 0) || bit p.mask.toNat i)) = true then 0 else 1
def fieldsB (m : Nat) (f : F8) : Nat → BL
 | 0 => []
 | k + 1 => (if bit m (7 - k) = true then valB (f.get (7 - k)) else []) ++ fieldsB m f k
def ors (p : Nat → Bool) : Nat → Nat
 | 0 => 0
 | n + 1 => if p n = true then ors p n ||| 2 ^ n else ors p n
def hasM (f : F8) : Nat := ors (fun i => decide ((f.get i).kd ≠ 0)) 8
def patchB (p : PA) : BL := if patchErr p = 0 then numB p.mask.toNat ++ (if bit p.mask.toNat 8 = true then numB p.lab.toNat else []) ++ fieldsB p.mask.toNat p.f 8 else []
def cardB (c : CA) : BL := if cardOk c = true then numB c.id ++ numB c.ver ++ numB c.lab.toNat ++ numB (hasM c.f) ++ fieldsB (hasM c.f) c.f 8 else []
def fieldsR (m : Nat) (none : Bool) : Nat → F8 × RD → F8 × RD
 | 0, x => x
 | k + 1, x => fieldsR m none k (if bit m (7 - k) = true then (x.1.set (7 - k) (valR x.2).1, if none = false ∧ (valR x.2).1.kd = 0 then failR 3 (valR x.2).2 else (valR x.2).2) else x)
def cardR (r : RD) : CA × RD :=
 let a := fromR 1 (idMax - 1) r
 let b := fromR 1 big a.2
 let c := numR 65535 b.2
 let m := numR 255 c.2
 let f := fieldsR m.1.toNat false 8 (f80, m.2)
 okR ca0 (⟨a.1, b.1, UInt32.ofNat c.1.toNat, f.1⟩, f.2)
def patchR (r : RD) : PA × RD :=
 let a := fromR 1 511 r
 let b := if bit a.1.toNat 8 = true then numR 65535 a.2 else (0, a.2)
 let f := fieldsR a.1.toNat true 8 (f80, b.2)
 okR pa0 (⟨UInt32.ofNat a.1.toNat, UInt32.ofNat b.1.toNat, f.1⟩, f.2)
structure ED where
 kd : Int
 id : Int
 gr : Int
 p : PA
 deriving DecidableEq
def ed0 : ED := ⟨0, 0, 0, pa0⟩
def edG (k : Int) : Bool := decide (k = 4 ∨ k = 5 ∨ k = 6 ∨ k = 7)
def edI (k : Int) : Bool := decide (k = 2 ∨ k = 3 ∨ k = 6 ∨ k = 7)
def edP (k : Int) : Bool := decide (k = 1 ∨ k = 2)
def editErr (e : ED) : Int :=
 if e.kd < 1 ∨ 7 < e.kd then 1
 else if edG e.kd = false ∧ e.gr ≠ 0 ∨ edI e.kd = false ∧ e.id ≠ 0 ∨ edP e.kd = false ∧ e.p ≠ pa0 then 1
 else if e.gr < 0 ∨ 16 ≤ e.gr ∨ edI e.kd = true ∧ (e.id < 1 ∨ idMax ≤ e.id) then 1
 else if edP e.kd = true then patchErr e.p else 0
def editB (e : ED) : BL := if editErr e = 0 then numB e.kd ++ (if edG e.kd = true then numB e.gr else []) ++ (if edI e.kd = true then numB e.id else []) ++ (if edP e.kd = true then patchB e.p else []) else []
def mayR (r : RD) : PA × RD :=
 let x := patchR r
 okR pa0 (x.1, if patchErr x.1 = 0 then x.2 else failR 3 x.2)
def editR (r : RD) : ED × RD :=
 let a := fromR 1 7 r
 let g := if edG a.1 = true then numR 15 a.2 else (0, a.2)
 let i := if edI a.1 = true then fromR 1 (idMax - 1) g.2 else (0, g.2)
 let p := if edP a.1 = true then mayR i.2 else (pa0, i.2)
 okR ed0 (⟨a.1, i.1, g.1, p.1⟩, p.2)
structure TO where
 dev : Int
 ep : Int
 sq : Int
 cu : Int
 deriving DecidableEq
abbrev TO.c (t : TO) : List MV := [.int .i64 t.dev, .int .i64 t.ep, .int .i64 t.sq, .int .i64 t.cu]
def tk0 : TO := ⟨0, 0, 0, 0⟩
def tokOk (t : TO) : Bool := decide (0 ≤ t.dev ∧ t.dev < 6 ∧ 1 ≤ t.ep ∧ t.ep ≤ big ∧ 0 ≤ t.sq ∧ t.sq ≤ big ∧ 0 ≤ t.cu ∧ t.cu ≤ idMax)
def tokGo (a b : TO) : Bool := tokOk a && tokOk b && decide (a.dev = b.dev ∧ a.ep = b.ep ∧ a.sq ≤ b.sq ∧ a.cu ≤ b.cu)
def tokB (t : TO) : BL := if tokOk t = true then numB t.dev ++ numB t.ep ++ numB t.sq ++ numB t.cu else []
def tokR (r : RD) : TO × RD :=
 let a := numR 5 r
 let b := fromR 1 big a.2
 let c := numR big b.2
 let d := numR idMax c.2
 okR tk0 (⟨a.1, b.1, c.1, d.1⟩, d.2)
def shut : List Nat → List Nat
 | [] => []
 | [0] => []
 | 0 :: k :: s => shut ((k - 1) :: s)
 | (n + 1) :: s => (n + 1) :: s
termination_by s => s.length
def dp : Nat → List Nat → List ND → Nat
 | d, _, [] => d
 | d, s, x :: l => dp (max d (s.length + 1)) (shut (parts x.op :: s)) l
def depthS (l : List ND) : Nat := if l = [] ∨ endS l 0 ≠ l.length then 0 else dp 0 [] l
def predErr (l : List ND) : Int :=
 if 31 < l.length then 4 else if l = [] ∨ endS l 0 ≠ l.length ∨ l.all ndOk = false then 1 else if 8 < depthS l then 5 else 0
def opN (op : Int) : Bool := decide (3 ≤ op ∧ op ≤ 9)
def opV (op : Int) : Bool := decide (6 ≤ op ∧ op ≤ 9)
def nodeB (x : ND) : BL := numB x.op ++ (if opN x.op = true then numB x.n else []) ++ (if opV x.op = true then valB x.v else [])
def predB (l : List ND) : BL := if predErr l = 0 then numB l.length ++ (l.map nodeB).flatten else []
def mostN (op : Int) : Int := if op = 3 then 15 else if op = 4 then 15 else 7
def nodeR (r : RD) : ND × RD :=
 let a := fromR 1 12 r
 let n := if opN a.1 = true then numR (mostN a.1) a.2 else (0, a.2)
 let v := if opV a.1 = true then valR n.2 else (va0, n.2)
 let x : ND := ⟨a.1, n.1, v.1⟩
 (x, if opV a.1 = true ∧ ndOk x = false then failR 3 v.2 else v.2)
def listR {α : Type} (f : RD → α × RD) : Nat → List α × RD → List α × RD
 | 0, x => x
 | k + 1, x => if x.2.e = 0 then listR f k (x.1 ++ [(f x.2).1], (f x.2).2) else x
def predR (r : RD) : List ND × RD :=
 let a := fromR 1 31 r
 let l := listR nodeR a.1.toNat ([], a.2)
 if l.2.e = 0 then (if predErr l.1 = 0 then l else ([], failR (if predErr l.1 = 5 then 5 else if predErr l.1 = 1 then 3 else predErr l.1) l.2)) else ([], l.2)
structure RE where
 kd : Int
 dev : Int
 req : Int
 code : Int
 id : Int
 ver : Int
 sq : Int
 ep : Int
 fl : List ND
 mask : UInt32
 deriving DecidableEq
def re0 : RE := ⟨0, 0, 0, 0, 0, 0, 0, 0, [], 0⟩
def repOk (a : RE) : Bool :=
 decide (2 ≤ a.kd ∧ a.kd ≤ 4 ∧ 0 ≤ a.dev ∧ a.dev < 6 ∧ 1 ≤ a.req ∧ a.req ≤ big ∧ 0 ≤ a.code ∧ a.code ≤ 16 ∧ 0 ≤ a.sq ∧ a.sq ≤ big ∧ (a.code ≠ 0 → a.sq = 0)
  ∧ (if a.code = 0 ∧ a.kd = 2 then 1 ≤ a.id ∧ a.id < idMax ∧ 1 ≤ a.ver ∧ a.ver ≤ big else a.id = 0 ∧ a.ver = 0)
  ∧ (if a.code = 0 ∧ a.kd = 3 then 1 ≤ a.ep ∧ a.ep ≤ big ∧ predErr a.fl = 0 ∧ a.mask.toNat ≤ 511 else a.ep = 0 ∧ a.fl = [] ∧ a.mask = 0))
def repB (a : RE) : BL := if repOk a = true then numB a.kd ++ numB a.dev ++ numB a.req ++ numB a.code ++ (if a.code = 0 then numB a.sq ++ (if a.kd = 2 then numB a.id ++ numB a.ver else []) ++ (if a.kd = 3 then numB a.ep ++ predB a.fl ++ numB a.mask.toNat else []) else []) else []
def repR (r : RD) : RE × RD :=
 let k := fromR 2 4 r
 let d := numR 5 k.2
 let q := fromR 1 big d.2
 let c := numR 16 q.2
 let go := decide (c.2.e = 0 ∧ c.1 = 0)
 let s := if go = true then numR big c.2 else (0, c.2)
 let put := go && decide (k.1 = 2)
 let sub := go && decide (k.1 = 3)
 let i := if put = true then fromR 1 (idMax - 1) s.2 else (0, s.2)
 let v := if put = true then fromR 1 big i.2 else (0, i.2)
 let e := if sub = true then fromR 1 big v.2 else (0, v.2)
 let f := if sub = true then predR e.2 else ([], e.2)
 let m := if sub = true then numR 511 f.2 else (0, f.2)
 okR re0 (⟨k.1, d.1, q.1, c.1, i.1, v.1, s.1, e.1, f.1, UInt32.ofNat m.1.toNat⟩, m.2)
structure IT where
 kd : Int
 c : CA
 deriving DecidableEq
def it0 : IT := ⟨0, ca0⟩
def itOk (last : Int) (x : IT) : Bool := decide (last < x.c.id ∧ 1 ≤ x.c.id ∧ x.c.id < idMax) && (if x.kd = 1 ∨ x.kd = 3 then cardOk x.c else if x.kd = 2 then decide (x.c = { ca0 with id := x.c.id }) else false)
def itemsOk : Int → List IT → Bool
 | _, [] => true
 | last, x :: l => itOk last x && itemsOk x.c.id l
structure PG where
 code : Int
 reset : Bool
 fr : TO
 to : TO
 items : List IT
 deriving DecidableEq
def pg0 : PG := ⟨0, false, tk0, tk0, []⟩
def pageOk (p : PG) : Bool := tokOk p.fr &&
 (if p.code ≠ 0 then decide (1 ≤ p.code ∧ p.code ≤ 16 ∧ p.reset = false ∧ p.to = tk0 ∧ p.items = [])
 else if p.reset = true then decide (p.items = []) && tokOk p.to && decide (p.to.dev = p.fr.dev ∧ p.to.cu = 0)
 else tokGo p.fr p.to && itemsOk 0 p.items && decide (p.items.length ≤ 16))
def itemB (x : IT) : BL := numB x.kd ++ (if x.kd = 2 then numB x.c.id else cardB x.c)
def pageB (p : PG) : BL := if pageOk p = true then numB p.code ++ tokB p.fr ++ (if p.code = 0 then flagB p.reset ++ tokB p.to ++ (if p.reset = true then [] else numB p.items.length ++ (p.items.map itemB).flatten) else []) else []
def itemR (r : RD) : IT × RD :=
 let a := fromR 1 3 r
 let i := numR (idMax - 1) a.2
 let c := cardR a.2
 if a.1 = 2 then (⟨a.1, { ca0 with id := i.1 }⟩, i.2) else (⟨a.1, c.1⟩, c.2)
def pageR (r : RD) : PG × RD :=
 let c := numR 16 r
 let f := tokR c.2
 let go := decide (f.2.e = 0 ∧ c.1 = 0)
 let s := if go = true then flagR f.2 else (false, f.2)
 let t := if go = true then tokR s.2 else (tk0, s.2)
 let n := if (go && decide (t.2.e = 0) && !s.1) = true then numR 16 t.2 else (0, t.2)
 let l := listR itemR n.1.toNat ([], n.2)
 let p : PG := ⟨c.1, s.1, f.1, t.1, l.1⟩
 okR pg0 (p, if pageOk p = true then l.2 else failR 3 l.2)
structure CM where
 kd : Int
 e : ED
 dev : Int
 req : Int
 id : Int
 base : Int
 keep : Int
 p : PA
 fl : List ND
 mask : UInt32
 deriving DecidableEq
def cm0 : CM := ⟨0, ed0, 0, 0, 0, 0, 0, pa0, [], 0⟩
def cmdOk (c : CM) : Bool :=
 if c.kd = 1 then decide (c = { cm0 with kd := 1, e := c.e } ∧ editErr c.e = 0)
 else if c.kd = 5 then decide (c = { cm0 with kd := 5, keep := c.keep } ∧ 0 ≤ c.keep ∧ c.keep ≤ big)
 else if c.dev < 0 ∨ 6 ≤ c.dev ∨ c.req < 1 ∨ big < c.req then false
 else if c.kd = 2 then decide (c = { cm0 with kd := 2, dev := c.dev, req := c.req, id := c.id, base := c.base, p := c.p } ∧ 1 ≤ c.id ∧ c.id < idMax ∧ 1 ≤ c.base ∧ c.base ≤ big ∧ patchErr c.p = 0)
 else if c.kd = 3 then decide (c = { cm0 with kd := 3, dev := c.dev, req := c.req, fl := c.fl, mask := c.mask } ∧ predErr c.fl = 0 ∧ c.mask.toNat ≤ 511)
 else decide (c = { cm0 with kd := 4, dev := c.dev, req := c.req })
def cmdB (c : CM) : BL := if cmdOk c = true then numB c.kd ++
 (if c.kd = 1 then editB c.e else if c.kd = 5 then numB c.keep else numB c.dev ++ numB c.req ++ (if c.kd = 2 then numB c.id ++ numB c.base ++ patchB c.p else []) ++ (if c.kd = 3 then predB c.fl ++ numB c.mask.toNat else [])) else []
def cmdR (r : RD) : CM × RD :=
 let k := fromR 1 5 r
 okR cm0 (
  if k.1 = 1 then ({ cm0 with kd := 1, e := (editR k.2).1 }, (editR k.2).2)
  else if k.1 = 5 then ({ cm0 with kd := 5, keep := (numR big k.2).1 }, (numR big k.2).2)
  else
   let d := numR 5 k.2
   let q := fromR 1 big d.2
   let i := fromR 1 (idMax - 1) q.2
   let b := fromR 1 big i.2
   let p := mayR b.2
   let f := predR q.2
   let m := numR 511 f.2
   if k.1 = 2 then ({ cm0 with kd := 2, dev := d.1, req := q.1, id := i.1, base := b.1, p := p.1 }, p.2)
   else if k.1 = 3 then ({ cm0 with kd := 3, dev := d.1, req := q.1, fl := f.1, mask := UInt32.ofNat m.1.toNat }, m.2)
   else ({ cm0 with kd := k.1, dev := d.1, req := q.1 }, q.2))
structure MS where
 kd : Int
 size : Int
 cmd : CM
 tok : TO
 rep : RE
 page : PG
 code : Int
 deriving DecidableEq
def ms0 : MS := ⟨0, 0, cm0, tk0, re0, pg0, 0⟩
def msgOk (m : MS) : Bool :=
 if m.kd = 1 then decide (m = { ms0 with kd := 1, cmd := m.cmd } ∧ m.cmd.kd ≠ 1 ∧ m.cmd.kd ≠ 5) && cmdOk m.cmd
 else if m.kd = 2 then decide (m = { ms0 with kd := 2, tok := m.tok, size := m.size } ∧ 1 ≤ m.size ∧ m.size ≤ 16) && tokOk m.tok
 else if m.kd = 3 then decide (m = { ms0 with kd := 3, rep := m.rep }) && repOk m.rep
 else if m.kd = 4 then decide (m = { ms0 with kd := 4, page := m.page }) && pageOk m.page
 else if m.kd = 5 then decide (m = { ms0 with kd := 5, code := m.code } ∧ 1 ≤ m.code ∧ m.code ≤ 16) else false
def msgB (m : MS) : BL := numB m.kd ++ (if m.kd = 1 then cmdB m.cmd else if m.kd = 2 then tokB m.tok ++ numB m.size else if m.kd = 3 then repB m.rep else if m.kd = 4 then pageB m.page else numB m.code)
def msgE (m : MS) : BL × Int := if msgOk m = true then (if 4096 < (msgB m).length then ([], 4) else (msgB m, 0)) else ([], 1)
def msgR (r : RD) : MS × RD :=
 let k := fromR 1 5 r
 if k.1 = 1 then
  let c := cmdR k.2
  ({ ms0 with kd := 1, cmd := c.1 }, if c.2.e = 0 ∧ (c.1.kd = 1 ∨ c.1.kd = 5) then failR 3 c.2 else c.2)
 else if k.1 = 2 then
  let t := tokR k.2
  let s := fromR 1 16 t.2
  ({ ms0 with kd := 2, tok := t.1, size := s.1 }, s.2)
 else if k.1 = 3 then ({ ms0 with kd := 3, rep := (repR k.2).1 }, (repR k.2).2)
 else if k.1 = 4 then ({ ms0 with kd := 4, page := (pageR k.2).1 }, (pageR k.2).2)
 else if k.1 = 5 then ({ ms0 with kd := 5, code := (fromR 1 16 k.2).1 }, (fromR 1 16 k.2).2)
 else ({ ms0 with kd := k.1 }, k.2)
def msgD (l : BL) : MS × Int := if 4096 < l.length then (ms0, 4) else if endR (msgR ⟨l, 0⟩).2 = 0 then ((msgR ⟨l, 0⟩).1, 0) else (ms0, endR (msgR ⟨l, 0⟩).2)
end Go.Proofs.YtfbodefnblpflaaGreatDoor
end

section
namespace Go.Proofs.YtfbodefnblpflaaGreatDoor
structure Sk {α : Type} (f : RD → α × RD) : Prop where
 stk : ∀ r, r.e ≠ 0 → (f r).2 = r
 sfx : ∀ r, (f r).2.l <:+ r.l
structure Rt {α : Type} (f : RD → α × RD) (ok : α → Prop) (w : α → BL) : Prop where
 fwd : ∀ x l, ok x → f ⟨w x ++ l, 0⟩ = (x, ⟨l, 0⟩)
 bck : ∀ r, (f r).2.e = 0 → r.e = 0 ∧ ok (f r).1 ∧ r.l = w (f r).1 ++ (f r).2.l
theorem Sk.err {α : Type} {f : RD → α × RD} (h : Sk f) {r : RD} (e : (f r).2.e = 0) : r.e = 0 := by
 by_cases h0 : r.e = 0
 ·exact h0
 ·rw [h.stk r h0] at e; exact e
theorem numR_sk (most : Int) : Sk (numR most) := ⟨fun r h => by simp [numR, h], fun r => by
 unfold numR; split
 ·exact List.drop_suffix _ _
 ·exact List.suffix_refl _⟩
theorem failR_l (e : Int) (r : RD) : (failR e r).l = r.l := by unfold failR; split <;> rfl
theorem failR_stk {e : Int} {r : RD} (h : r.e ≠ 0) : failR e r = r := by simp [failR, h]
theorem failR_ne {e : Int} (he : e ≠ 0) (r : RD) : (failR e r).e ≠ 0 := by
 unfold failR; split
 ·exact he
 ·assumption
theorem numR_rt (most : Int) : Rt (numR most) (fun n => 0 ≤ n ∧ n ≤ big ∧ n ≤ most) numB where
 fwd n l h := by
  rw [numR, if_pos rfl, nx_num h.1 h.2.1 h.2.2]
  simp
 bck r h := by
  have h0 := (numR_sk most).err h
  rw [numR, if_pos h0] at h ⊢
  obtain ⟨a, b, c, d, e⟩ := nx_back h
  exact ⟨h0, ⟨a, b, c⟩, d⟩
theorem numR_rng (most : Int) (r : RD) : 0 ≤ (numR most r).1 ∧ (numR most r).1 ≤ big := by
 unfold numR; split
 ·exact nx_rng _ _
 ·exact ⟨by simp, by simp [big]⟩
theorem numR_most {most : Int} (h : 0 ≤ most) (r : RD) : (numR most r).1 ≤ most := by
 unfold numR; split
 ·exact nx_most _ h
 ·exact h
theorem numR_zero {most : Int} {r : RD} (h : (numR most r).2.e ≠ 0) : (numR most r).1 = 0 := by
 unfold numR at h ⊢; split
 ·rename_i h0
  rw [if_pos h0] at h
  rcases nx_err r.l most with h1 | h1
  ·exact absurd h1 h
  ·exact h1.1
 ·rfl
theorem fromR_sk (least most : Int) : Sk (fromR least most) := ⟨fun r h => by
 unfold fromR
 rw [(numR_sk most).stk r h]
 split
 ·exact failR_stk h
 ·rfl, fun r => by
 unfold fromR
 split
 ·rw [failR_l]; exact (numR_sk most).sfx r
 ·exact (numR_sk most).sfx r⟩
theorem fromR_rt (least most : Int) : Rt (fromR least most) (fun n => 0 ≤ n ∧ least ≤ n ∧ n ≤ big ∧ n ≤ most) numB where
 fwd n l h := by
  rw [fromR, (numR_rt most).fwd n l ⟨h.1, h.2.2.1, h.2.2.2⟩, if_neg (by simp only; omega)]
 bck r h := by
  have h0 := (fromR_sk least most).err h
  unfold fromR at h ⊢
  split at h
  ·exact absurd h (failR_ne (by decide) _)
  ·rename_i hl
   obtain ⟨a, b, c⟩ := (numR_rt most).bck r h
   rw [if_neg hl]
   exact ⟨h0, ⟨b.1, by omega, b.2.1, b.2.2⟩, c⟩
theorem fromR_rng (least most : Int) (r : RD) : 0 ≤ (fromR least most r).1 ∧ (fromR least most r).1 ≤ big := numR_rng most r
theorem fromR_most {least most : Int} (h : 0 ≤ most) (r : RD) : (fromR least most r).1 ≤ most := numR_most h r
theorem strR_sk (most : Int) : Sk (strR most) := ⟨fun r h => by simp [strR, h], fun r => by
 unfold strR
 split
 ·split
  ·split
   ·exact List.drop_suffix _ _
   ·exact List.suffix_refl _
  ·exact List.suffix_refl _
 ·exact List.suffix_refl _⟩
theorem strR_rt (most : Int) : Rt (strR most) (fun s => (s.length : Int) ≤ big ∧ (s.length : Int) ≤ most) strB where
 fwd s l h := by
  have e := nx_num (n := s.length) (most := most) (by omega) h.1 h.2 (s ++ l)
  rw [strB, List.append_assoc, strR, if_pos rfl]
  simp only [e, if_true, Int.toNat_natCast]
  rw [if_pos (by simp only [List.length_append]; omega)]
  simp [List.drop_append, List.drop_eq_nil_of_le]
 bck r h := by
  have h0 := (strR_sk most).err h
  unfold strR at h ⊢
  rw [if_pos h0] at h ⊢
  by_cases h1 : (nx r.l most).2.2 = 0
  ·rw [if_pos h1] at h ⊢
   obtain ⟨a, b, c, d, e⟩ := nx_back h1
   by_cases h2 : (nx r.l most).1.toNat ≤ r.l.length - (nx r.l most).2.1
   ·rw [if_pos h2] at h ⊢
    simp only
    have hl : (List.take (nx r.l most).1.toNat (List.drop (nx r.l most).2.1 r.l)).length = (nx r.l most).1.toNat := by
     rw [List.length_take, List.length_drop]; omega
    refine ⟨h0, by rw [hl]; omega, ?_⟩
    rw [strB, hl, Int.toNat_of_nonneg a, List.append_assoc, ← List.drop_drop, List.take_append_drop]
    exact d
   ·rw [if_neg h2] at h; simp at h
  ·rw [if_neg h1] at h; exact absurd h h1
theorem flagR_sk : Sk flagR := ⟨fun r h => by simp [flagR, h], fun r => by
 unfold flagR
 split
 ·split
  ·split
   ·exact List.drop_suffix _ _
   ·exact List.suffix_refl _
  ·exact List.suffix_refl _
 ·exact List.suffix_refl _⟩
theorem flagR_rt : Rt flagR (fun _ => True) flagB where
 fwd b l _ := by
  have e := nx_num (n := if b = true then 1 else 0) (most := big) (by split <;> decide) (by split <;> decide) (by split <;> decide) l
  rw [flagB, flagR, if_pos rfl]
  simp only [e, if_true]
  cases b <;> simp
 bck r h := by
  have h0 := flagR_sk.err h
  unfold flagR at h ⊢
  rw [if_pos h0] at h ⊢
  by_cases h1 : (nx r.l big).2.2 = 0
  ·rw [if_pos h1] at h ⊢
   obtain ⟨a, b, c, d, e⟩ := nx_back h1
   by_cases h2 : (nx r.l big).1 ≤ 1
   ·rw [if_pos h2] at h ⊢
    refine ⟨h0, trivial, ?_⟩
    simp only
    have : (if decide ((nx r.l big).1 = 1) = true then (1 : Int) else 0) = (nx r.l big).1 := by
     simp only [decide_eq_true_eq]; split <;> omega
    rw [flagB, this]
    exact d
   ·rw [if_neg h2] at h; simp at h
  ·rw [if_neg h1] at h; exact absurd h h1
section
variable {α : Type} {d : α} {y : α × RD}
theorem okR_snd : (okR d y).2 = y.2 := by unfold okR; split <;> rfl
theorem okR_ok (h : y.2.e = 0) : okR d y = y := if_pos h
theorem okR_ok' (h : (okR d y).2.e = 0) : okR d y = y := okR_ok (by rwa [okR_snd] at h)
theorem okR_no (h : y.2.e ≠ 0) : okR d y = (d, y.2) := if_neg h
end
theorem valR_sk : Sk valR := ⟨fun r h => by
 unfold valR
 simp only [okR_snd, (numR_sk 2).stk r h, (numR_sk big).stk r h, (strR_sk 24).stk r h]
 split
 ·rfl
 ·split <;> rfl, fun r => by
 have h1 := (numR_sk 2).sfx r
 have h2 := (numR_sk big).sfx (numR 2 r).2
 have h3 := (strR_sk 24).sfx (numR 2 r).2
 unfold valR
 simp only [okR_snd]
 split
 ·exact h2.trans h1
 ·split
  ·exact h3.trans h1
  ·exact h1⟩
theorem vaOk_iff (v : VA) : vaOk v = true ↔ (v.kd = 0 ∧ v = va0) ∨ (v.kd = 1 ∧ 0 ≤ v.n ∧ v.n ≤ big ∧ v.s = ⟨#[]⟩) ∨ (v.kd = 2 ∧ v.n = 0 ∧ v.s.size ≤ 24) := by
 unfold vaOk big
 by_cases h0 : v.kd = 0
 ·simp [h0]
 ·by_cases h1 : v.kd = 1
  ·simp [h1]
  ·by_cases h2 : v.kd = 2
   ·simp [h2]
   ·simp [h0, h1, h2]
theorem valR_rt : Rt valR (fun v => vaOk v = true) valB where
 fwd v l h := by
  unfold valB
  rw [if_pos h, List.append_assoc]
  rw [vaOk_iff] at h
  have hk : 0 ≤ v.kd ∧ v.kd ≤ 2 := by omega
  unfold valR
  simp only [(numR_rt 2).fwd v.kd _ ⟨hk.1, by unfold big; omega, hk.2⟩, okR]
  rcases h with ⟨h0, rfl⟩ | ⟨h1, h2, h3, h4⟩ | ⟨h1, h2, h3⟩
  ·rfl
  ·rw [h1]
   simp only [if_true]
   simp only [(numR_rt big).fwd v.n l ⟨h2, h3, h3⟩, if_true]
   rw [← h4]
   cases v
   simp_all
  ·rw [h1]
   simp only [if_true, show ¬ (2 : Int) = 1 by decide, if_false]
   have hs : (bl v.s).length = v.s.size := Array.length_toList
   simp only [(strR_rt 24).fwd (bl v.s) l ⟨by rw [hs]; unfold big; omega, by rw [hs]; omega⟩, if_true]
   rw [bsS_of]
   cases v
   simp_all
 bck r h := by
  have h0 := valR_sk.err h
  unfold valR at h ⊢
  simp only [okR] at h ⊢
  by_cases c1 : (numR 2 r).1 = 1
  ·simp only [if_pos c1] at h ⊢
   by_cases e : (numR big (numR 2 r).2).2.e = 0
   ·rw [if_pos e] at h ⊢
    obtain ⟨a1, a2, a3⟩ := (numR_rt big).bck _ e
    obtain ⟨b1, b2, b3⟩ := (numR_rt 2).bck r a1
    have hv : vaOk ⟨1, (numR big (numR 2 r).2).1, ⟨#[]⟩⟩ = true := (vaOk_iff _).2 (.inr (.inl ⟨rfl, a2.1, a2.2.1, rfl⟩))
    refine ⟨h0, hv, ?_⟩
    rw [valB, if_pos hv]
    simp only [if_true]
    rw [List.append_assoc, ← a3, show numB 1 = numB (numR 2 r).1 by rw [c1]]
    exact b3
   ·rw [if_neg e] at h; exact absurd h e
  ·by_cases c2 : (numR 2 r).1 = 2
   ·simp only [if_neg c1, if_pos c2] at h ⊢
    by_cases e : (strR 24 (numR 2 r).2).2.e = 0
    ·rw [if_pos e] at h ⊢
     obtain ⟨a1, a2, a3⟩ := (strR_rt 24).bck _ e
     obtain ⟨b1, b2, b3⟩ := (numR_rt 2).bck r a1
     have hv : vaOk ⟨2, 0, bsS (strR 24 (numR 2 r).2).1⟩ = true := (vaOk_iff _).2 (.inr (.inr ⟨rfl, rfl, by simp only [bsS_size]; omega⟩))
     refine ⟨h0, hv, ?_⟩
     rw [valB, if_pos hv]
     simp only [show ¬ (2 : Int) = 1 by decide, if_false, if_true, bl, bsS_list]
     rw [List.append_assoc, ← a3, show numB 2 = numB (numR 2 r).1 by rw [c2]]
     exact b3
    ·rw [if_neg e] at h; exact absurd h e
   ·simp only [if_neg c1, if_neg c2] at h ⊢
    by_cases e : (numR 2 r).2.e = 0
    ·rw [if_pos e] at h ⊢
     obtain ⟨b1, b2, b3⟩ := (numR_rt 2).bck r e
     have hk : (numR 2 r).1 = 0 := by omega
     have hv : vaOk ⟨(numR 2 r).1, 0, ⟨#[]⟩⟩ = true := (vaOk_iff _).2 (.inl ⟨hk, by simp only [hk]; rfl⟩)
     refine ⟨h0, hv, ?_⟩
     rw [valB, if_pos hv]
     simp only [hk, show ¬ (0 : Int) = 1 by decide, show ¬ (0 : Int) = 2 by decide, if_false, List.append_nil]
     rw [hk] at b3
     exact b3
    ·rw [if_neg e] at h; exact absurd h e
end Go.Proofs.YtfbodefnblpflaaGreatDoor
end

section
namespace Go.Proofs.YtfbodefnblpflaaGreatDoor
theorem F8.ext {f g : F8} (h : ∀ i, i < 8 → f.get i = g.get i) : f = g := by
 obtain ⟨a, ha⟩ := f
 obtain ⟨b, hb⟩ := g
 have : a = b := by
  apply List.ext_getElem (by omega)
  intro i h1 h2
  have := h i (by omega)
  simpa [F8.get, List.getD, h1, h2] using this
 subst this; rfl
theorem F8.get_set (f : F8) (i j : Nat) (v : VA) (hi : i < 8) : (f.set i v).get j = if i = j then v else f.get j := by
 have := f.h
 simp only [F8.get, F8.set, List.getD_eq_getElem?_getD, List.getElem?_set]
 split
 ·rename_i e
  subst e
  rw [if_pos (by omega)]; rfl
 ·rfl
theorem f80_get (i : Nat) : f80.get i = va0 := by
 simp only [F8.get, f80, List.getD_eq_getElem?_getD, List.getElem?_replicate]
 split <;> rfl
theorem F8.all_iff (f : F8) (p : VA → Bool) : f.l.all p = true ↔ ∀ i, i < 8 → p (f.get i) = true := by
 rw [List.all_eq_true]
 constructor
 ·intro h i hi
  refine h _ ?_
  have : i < f.l.length := by rw [f.h]; exact hi
  rw [F8.get, List.getD_eq_getElem?_getD, List.getElem?_eq_getElem this]
  exact List.getElem_mem _
 ·intro h x hx
  obtain ⟨i, hi, rfl⟩ := List.mem_iff_getElem.1 hx
  have := h i (by rw [← f.h]; exact hi)
  rwa [F8.get, List.getD_eq_getElem?_getD, List.getElem?_eq_getElem hi] at this
theorem fieldsR_stk (m : Nat) (none : Bool) : ∀ (k : Nat) (x : F8 × RD), x.2.e ≠ 0 → (fieldsR m none k x).2 = x.2
 | 0, _, _ => rfl
 | k + 1, x, h => by
  have h1 := valR_sk.stk x.2 h
  simp only [fieldsR, h1, failR_stk h]
  rw [fieldsR_stk m none k _ (by split <;> (try split) <;> exact h)]
  split <;> (try split) <;> rfl
theorem fieldsR_sfx (m : Nat) (none : Bool) : ∀ (k : Nat) (x : F8 × RD), (fieldsR m none k x).2.l <:+ x.2.l
 | 0, _ => List.suffix_refl _
 | k + 1, x => by
  refine (fieldsR_sfx m none k _).trans ?_
  split
  ·have := valR_sk.sfx x.2
   simp only
   split
   ·rw [failR_l]; exact this
   ·exact this
  ·exact List.suffix_refl _
theorem fieldsR_fwd (m : Nat) (none : Bool) (f : F8) (l : BL) : ∀ (k : Nat), k ≤ 8 → (∀ i, i < 8 → bit m i = true → vaOk (f.get i) = true ∧ (none = false → (f.get i).kd ≠ 0)) → ∀ g : F8,
  ∃ g', fieldsR m none k (g, ⟨fieldsB m f k ++ l, 0⟩) = (g', ⟨l, 0⟩) ∧ ∀ i, i < 8 → g'.get i = if 8 - k ≤ i ∧ bit m i = true then f.get i else g.get i
 | 0, _, _, g => ⟨g, rfl, fun i hi => by rw [if_neg (by omega)]⟩
 | k + 1, hk, ho, g => by
  rw [fieldsR, fieldsB]
  by_cases hb : bit m (7 - k) = true
  ·obtain ⟨h1, h2⟩ := ho (7 - k) (by omega) hb
   simp only [if_pos hb, List.append_assoc, valR_rt.fwd (f.get (7 - k)) (fieldsB m f k ++ l) h1]
   rw [if_neg (fun hc => h2 hc.1 hc.2)]
   obtain ⟨g', e, hg⟩ := fieldsR_fwd m none f l k (by omega) ho (g.set (7 - k) (f.get (7 - k)))
   refine ⟨g', e, fun i hi => ?_⟩
   rw [hg i hi, F8.get_set _ _ _ _ (by omega)]
   by_cases e1 : 7 - k = i
   ·subst e1
    rw [if_pos rfl, ite_self, if_pos ⟨by omega, hb⟩]
   ·rw [if_neg e1]
    by_cases e2 : 8 - k ≤ i ∧ bit m i = true
    ·rw [if_pos e2, if_pos ⟨by omega, e2.2⟩]
    ·rw [if_neg e2, if_neg (fun hc => e2 ⟨by omega, hc.2⟩)]
  ·simp only [if_neg hb, List.nil_append]
   obtain ⟨g', e, hg⟩ := fieldsR_fwd m none f l k (by omega) ho g
   refine ⟨g', e, fun i hi => ?_⟩
   rw [hg i hi]
   by_cases e2 : 8 - k ≤ i ∧ bit m i = true
   ·rw [if_pos e2, if_pos ⟨by omega, e2.2⟩]
   ·rw [if_neg e2, if_neg (fun hc => e2 ⟨by
     rcases Nat.lt_or_ge i (8 - k) with h | h
     ·have : i = 7 - k := by omega
      subst this; exact absurd hc.2 hb
     ·exact h, hc.2⟩)]
theorem fieldsR_bck (m : Nat) (none : Bool) : ∀ (k : Nat), k ≤ 8 → ∀ x : F8 × RD, (fieldsR m none k x).2.e = 0 →
  x.2.e = 0 ∧ x.2.l = fieldsB m (fieldsR m none k x).1 k ++ (fieldsR m none k x).2.l ∧ (∀ i, i < 8 → 8 - k ≤ i → bit m i = true → vaOk ((fieldsR m none k x).1.get i) = true ∧ (none = false → ((fieldsR m none k x).1.get i).kd ≠ 0)) ∧
   ∀ i, i < 8 → (¬ 8 - k ≤ i ∨ bit m i = false) → (fieldsR m none k x).1.get i = x.1.get i
 | 0, _, x, h => ⟨h, rfl, fun i h1 h2 => by omega, fun i _ _ => rfl⟩
 | k + 1, hk, x, h => by
  rw [fieldsR] at h ⊢
  obtain ⟨a1, a2, a3, a4⟩ := fieldsR_bck m none k (by omega) _ h
  by_cases hb : bit m (7 - k) = true
  ·simp only [if_pos hb] at a1 a2 a3 a4 h ⊢
   by_cases hc : none = false ∧ (valR x.2).1.kd = 0
   ·rw [if_pos hc] at a1; exact absurd a1 (failR_ne (by decide) _)
   ·rw [if_neg hc] at a1 a2 a3 a4 h ⊢
    obtain ⟨b1, b2, b3⟩ := valR_rt.bck _ a1
    have hg := a4 (7 - k) (by omega) (.inl (by omega))
    rw [F8.get_set _ _ _ _ (by omega), if_pos rfl] at hg
    refine ⟨b1, ?_, fun i h1 h2 h3 => ?_, fun i h1 h2 => ?_⟩
    ·rw [fieldsB, if_pos hb, hg, List.append_assoc, ← a2]; exact b3
    ·by_cases e1 : i = 7 - k
     ·subst e1
      rw [hg]
      exact ⟨b2, fun hn hk0 => hc ⟨hn, hk0⟩⟩
     ·exact a3 i h1 (by omega) h3
    ·have e1 : i ≠ 7 - k := fun e => by
      subst e
      rcases h2 with h2 | h2
      ·omega
      ·rw [hb] at h2; cases h2
     rw [a4 i h1 (by rcases h2 with h2 | h2; exact .inl (by omega); exact .inr h2), F8.get_set _ _ _ _ (by omega), if_neg (fun e => e1 e.symm)]
  ·simp only [if_neg hb] at a1 a2 a3 a4 h ⊢
   refine ⟨a1, ?_, fun i h1 h2 h3 => ?_, fun i h1 h2 => ?_⟩
   ·rw [fieldsB, if_neg hb, List.nil_append]; exact a2
   ·have e1 : i ≠ 7 - k := fun e => hb (e ▸ h3)
    exact a3 i h1 (by omega) h3
   ·by_cases e1 : i = 7 - k
    ·exact a4 i h1 (.inl (by omega))
    ·exact a4 i h1 (by rcases h2 with h2 | h2; exact .inl (by omega); exact .inr h2)
theorem ors_lt (p : Nat → Bool) : ∀ n, ors p n < 2 ^ n
 | 0 => by simp [ors]
 | n + 1 => by
  have h := ors_lt p n
  have h2 : ors p n < 2 ^ (n + 1) := by rw [Nat.pow_succ]; omega
  unfold ors
  split
  ·exact Nat.or_lt_two_pow h2 (by rw [Nat.pow_succ]; have := Nat.pow_pos (a := 2) (n := n) (by decide); omega)
  ·exact h2
theorem ors_bit (p : Nat → Bool) (j : Nat) : ∀ n, (ors p n).testBit j = (decide (j < n) && p j)
 | 0 => by simp [ors]
 | n + 1 => by
  have ih := ors_bit p j n
  unfold ors
  by_cases hj : j = n
  ·subst hj
   by_cases hp : p j = true
   ·rw [if_pos hp, Nat.testBit_or, ih, Nat.testBit_two_pow]; simp [hp]
   ·rw [if_neg hp, ih]; simp [hp]
  ·have e : decide (j < n + 1) = decide (j < n) := by rw [decide_eq_decide]; omega
   rw [e]
   split
   ·rw [Nat.testBit_or, ih, Nat.testBit_two_pow]
    simp [Ne.symm hj]
   ·exact ih
theorem hasM_bit (f : F8) {i : Nat} (h : i < 8) : bit (hasM f) i = decide ((f.get i).kd ≠ 0) := by
 rw [bit, hasM, ors_bit]; simp [h]
theorem hasM_lt (f : F8) : hasM f < 256 := ors_lt _ 8
theorem va_zero {v : VA} (h : vaOk v = true) (h0 : v.kd = 0) : v = va0 := by
 rcases (vaOk_iff v).1 h with ⟨_, h⟩ | ⟨h, _⟩ | ⟨h, _⟩
 ·exact h
 ·omega
 ·omega
theorem u32_ofn (x : UInt32) : UInt32.ofNat (x.toNat : Int).toNat = x := by rw [Int.toNat_natCast, UInt32.ofNat_toNat]
theorem u32_toN {n : Int} (h0 : 0 ≤ n) (h : n ≤ 4294967295) : ((UInt32.ofNat n.toNat).toNat : Int) = n := by
 rw [UInt32.toNat_ofNat', Nat.mod_eq_of_lt (by omega)]; omega
theorem cardR_sk : Sk cardR := by
 have s1 := fromR_sk 1 (idMax - 1)
 have s2 := fromR_sk 1 big
 have s3 := numR_sk 65535
 have s4 := numR_sk 255
 refine ⟨fun r h => ?_, fun r => ?_⟩
 ·unfold cardR
  simp only [okR_snd, s1.stk r h, s2.stk r h, s3.stk r h, s4.stk r h]
  exact fieldsR_stk _ _ _ _ h
 ·unfold cardR
  simp only [okR_snd]
  exact (fieldsR_sfx _ _ _ _).trans ((s4.sfx _).trans ((s3.sfx _).trans ((s2.sfx _).trans (s1.sfx _))))
theorem fieldsR_err {m : Nat} {none : Bool} {k : Nat} {x : F8 × RD} (h : (fieldsR m none k x).2.e = 0) : x.2.e = 0 := by
 by_cases h0 : x.2.e = 0
 ·exact h0
 ·rw [fieldsR_stk m none k x h0] at h; exact h
theorem cardOk_iff (c : CA) : cardOk c = true ↔ (1 ≤ c.id ∧ c.id < idMax ∧ 1 ≤ c.ver ∧ c.ver ≤ big ∧ c.lab.toNat < 65536) ∧ ∀ i, i < 8 → vaOk (c.f.get i) = true := by
 rw [cardOk, Bool.and_eq_true, decide_eq_true_eq, F8.all_iff]
theorem cardR_rt : Rt cardR (fun c => cardOk c = true) cardB where
 fwd c l h := by
  rw [cardB, if_pos h]
  obtain ⟨⟨h1, h2, h3, h4, h5⟩, h6⟩ := (cardOk_iff c).1 h
  have hm := hasM_lt c.f
  simp only [List.append_assoc]
  unfold cardR
  simp only [(fromR_rt 1 (idMax - 1)).fwd c.id _ ⟨by omega, h1, by unfold idMax at h2; unfold big; omega, by omega⟩, (fromR_rt 1 big).fwd c.ver _ ⟨by omega, h3, h4, h4⟩,
   (numR_rt 65535).fwd (c.lab.toNat : Int) _ ⟨by omega, by unfold big; omega, by omega⟩, (numR_rt 255).fwd (hasM c.f : Int) _ ⟨by omega, by unfold big; omega, by omega⟩, Int.toNat_natCast]
  obtain ⟨g, e, hg⟩ := fieldsR_fwd (hasM c.f) false c.f l 8 (Nat.le_refl _) (fun i hi hb => ⟨h6 i hi, fun _ => by
   rw [hasM_bit _ hi] at hb
   simpa using hb⟩) f80
  rw [e, okR_ok rfl, UInt32.ofNat_toNat]
  have : g = c.f := F8.ext fun i hi => by
   rw [hg i hi, hasM_bit _ hi, f80_get]
   by_cases h0 : (c.f.get i).kd = 0
   ·rw [if_neg (by simp [h0]), va_zero (h6 i hi) h0]
   ·rw [if_pos (by simp [h0])]
  rw [this]
 bck r h := by
  have h0 := cardR_sk.err h
  unfold cardR at h ⊢
  simp only at h ⊢
  rw [okR_ok' h]
  simp only [okR_snd] at h ⊢
  have e4 := fieldsR_err h
  have e3 := (numR_sk 255).err e4
  have e2 := (numR_sk 65535).err e3
  have e1 := (fromR_sk 1 big).err e2
  obtain ⟨-, a1, b1⟩ := (fromR_rt 1 (idMax - 1)).bck _ e1
  obtain ⟨-, a2, b2⟩ := (fromR_rt 1 big).bck _ e2
  obtain ⟨-, a3, b3⟩ := (numR_rt 65535).bck _ e3
  obtain ⟨-, a4, b4⟩ := (numR_rt 255).bck _ e4
  obtain ⟨-, f2, f3, f4⟩ := fieldsR_bck _ _ 8 (Nat.le_refl _) _ h
  generalize fieldsR (numR 255 (numR 65535 (fromR 1 big (fromR 1 (idMax - 1) r).2).2).2).1.toNat false 8 (f80, (numR 255 (numR 65535 (fromR 1 big (fromR 1 (idMax - 1) r).2).2).2).2) = F at h f2 f3 f4 ⊢
  have hm : hasM F.1 = (numR 255 (numR 65535 (fromR 1 big (fromR 1 (idMax - 1) r).2).2).2).1.toNat := by
   generalize (numR 255 (numR 65535 (fromR 1 big (fromR 1 (idMax - 1) r).2).2).2).1 = m at a4 f3 f4
   refine Nat.eq_of_testBit_eq fun i => ?_
   by_cases hi : i < 8
   ·show bit (hasM F.1) i = bit m.toNat i
    rw [hasM_bit F.1 hi]
    by_cases hb : bit m.toNat i = true
    ·rw [hb]
     have := (f3 i hi (by omega) hb).2 rfl
     simpa using this
    ·have hbf : bit m.toNat i = false := by simpa using hb
     rw [hbf, f4 i hi (.inr hbf), f80_get]; rfl
   ·rw [hasM, ors_bit, Nat.testBit_lt_two_pow (show m.toNat < 2 ^ i from Nat.lt_of_lt_of_le (show m.toNat < 2 ^ 8 by omega) (Nat.pow_le_pow_right (by decide) (by omega)))]
    simp [hi]
  have hl := u32_toN a3.1 (by omega)
  have hok : cardOk ⟨(fromR 1 (idMax - 1) r).1, (fromR 1 big (fromR 1 (idMax - 1) r).2).1, UInt32.ofNat (numR 65535 (fromR 1 big (fromR 1 (idMax - 1) r).2).2).1.toNat, F.1⟩ = true := by
   rw [cardOk_iff]
   refine ⟨⟨a1.2.1, by have := a1.2.2.2; simp only; omega, a2.2.1, a2.2.2.1, by simp only; omega⟩, fun i hi => ?_⟩
   simp only
   by_cases hb : bit (numR 255 (numR 65535 (fromR 1 big (fromR 1 (idMax - 1) r).2).2).2).1.toNat i = true
   ·exact (f3 i hi (by omega) hb).1
   ·rw [f4 i hi (.inr (by simpa using hb)), f80_get]; rfl
  refine ⟨h0, hok, ?_⟩
  rw [cardB, if_pos hok]
  simp only [hl, hm, Int.toNat_of_nonneg a4.1, List.append_assoc]
  rw [← f2, ← b4, ← b3, ← b2]
  exact b1
end Go.Proofs.YtfbodefnblpflaaGreatDoor
end
