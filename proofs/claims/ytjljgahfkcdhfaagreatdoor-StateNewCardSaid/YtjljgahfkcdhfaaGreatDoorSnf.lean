/- Parts of the proof, joined. Each part says what it proves, and under which conditions it does: those that its theorems name. -/
import Derived.Test.YtjljgahfkcdhfaaGreatDoorSne
import Derived.OpenShut
import Derived.ChangeSame
import Derived.Carry
import Derived.RowKit
import Derived.JoinedOf
import Derived.JoinedAt
import Derived.Lib.LaidTab
import Derived.LaidLaws
import Derived.LaidHandle
import Derived.Stop.Joined
set_option linter.unusedVariables false
set_option linter.unusedSimpArgs false
set_option maxHeartbeats 4000000
section
namespace Go.Proofs.YtjljgahfkcdhfaaGreatDoor
structure VA where
 kd : Int
 n : Int
 s : ByteArray
 deriving DecidableEq
abbrev VA.c (v : VA) : List MV := [.int .i64 v.kd, .int .i64 v.n, .str v.s]
def va0 : VA := ⟨0, 0, ⟨#[]⟩⟩
structure ND where
 op : Int
 n : Int
 v : VA
 deriving DecidableEq
abbrev ND.c (x : ND) : List MV := [.int .i64 x.op, .int .i64 x.n, .int .i64 x.v.kd, .int .i64 x.v.n, .str x.v.s]
def nd0 : ND := ⟨0, 0, va0⟩
theorem getD_mapd {α : Type} {f : α → List MV} {l : List α} {n : Nat} (d : α) (h : n < l.length) : (l.map f).getD n [] = f (l.getD n d) := by simp [List.getD, h]
theorem dec_not_self {α : Sort _} [DecidableEq α] {a : α} : decide (¬ a = a) = false := by simp
theorem nd_ext {x y : ND} (h : x.op = y.op ∧ x.n = y.n ∧ x.v.kd = y.v.kd ∧ x.v.n = y.v.n ∧ x.v.s = y.v.s) : x = y := by
 obtain ⟨a, b, c, d, e⟩ := x
 obtain ⟨a', b', c', d', e'⟩ := y
 simp only at h
 obtain ⟨rfl, rfl, rfl, rfl, rfl⟩ := h
 rfl
theorem getD_of_lt {α : Type} {l : List α} {n : Nat} (d : α) (h : n < l.length) : l.getD n d = l[n] := by simp [List.getD, h]
theorem getD_mem {α : Type} {l : List α} {n : Nat} (d : α) (h : n < l.length) : l.getD n d ∈ l := by rw [getD_of_lt d h]; exact List.getElem_mem h
theorem any_take_succ {α : Type} {p : α → Bool} {l : List α} {i : Nat} (h : i < l.length) : (l.take (i + 1)).any p = ((l.take i).any p || p l[i]) := by
 rw [List.take_succ_eq_append_getElem h, List.any_append]; simp
def VA.key (v : VA) : List Int := v.kd :: v.n :: v.s.toList.map fun b => (b.toNat : Int)
def ND.key (x : ND) : List Int := x.op :: x.n :: x.v.key
theorem bytes_inj {a b : ByteArray} (h : a.toList.map (fun b => (b.toNat : Int)) = b.toList.map fun b => (b.toNat : Int)) : a = b := by
 refine (toList_eq_iff a b).1 ?_
 exact (List.map_inj_right (fun x y h => by
  have : x.toNat = y.toNat := by exact_mod_cast h
  exact UInt8.toNat_inj.1 this)).1 h
theorem VA.key_inj {a b : VA} (h : a.key = b.key) : a = b := by
 simp only [VA.key, List.cons.injEq] at h
 obtain ⟨h1, h2, h3⟩ := h
 have := bytes_inj h3
 cases a; cases b; simp_all
theorem ND.key_inj {a b : ND} (h : a.key = b.key) : a = b := by
 simp only [ND.key, List.cons.injEq] at h
 obtain ⟨h1, h2, h3⟩ := h
 have := VA.key_inj h3
 cases a; cases b; simp_all
def ordI : Ordering → Int
 | .lt => -1
 | .eq => 0
 | .gt => 1
def cmpL : List Int → List Int → Ordering
 | [], [] => .eq
 | [], _ :: _ => .lt
 | _ :: _, [] => .gt
 | a :: x, b :: y => if a < b then .lt else if b < a then .gt else cmpL x y
theorem cmpL_eq : ∀ {a b : List Int}, cmpL a b = .eq ↔ a = b
 | [], [] => by simp [cmpL]
 | [], _ :: _ => by simp [cmpL]
 | _ :: _, [] => by simp [cmpL]
 | a :: x, b :: y => by
  unfold cmpL
  split
  ·simp; intro h; omega
  ·split
   ·simp; intro h; omega
   ·rw [cmpL_eq]
    constructor
    ·rintro rfl; have : a = b := by omega
     rw [this]
    ·intro h; cases h; rfl
theorem cmpL_refl (a : List Int) : cmpL a a = .eq := cmpL_eq.2 rfl
theorem cmpL_ne {a b : Int} {x y : List Int} (h : a ≠ b) : cmpL (a :: x) (b :: y) = cmpL [a] [b] := by
 unfold cmpL
 by_cases h1 : a < b
 ·rw [if_pos h1, if_pos h1]
 ·have h2 : b < a := by omega
  rw [if_neg h1, if_neg h1, if_pos h2, if_pos h2]
theorem cmpL_same {a : Int} {x y : List Int} : cmpL (a :: x) (a :: y) = cmpL x y := by
 rw [cmpL, if_neg (by omega), if_neg (by omega)]
def bk (s : ByteArray) : List Int := s.toList.map fun b => (b.toNat : Int)
theorem bytesLess_cmp : ∀ (x y : List UInt8), Op.bytesLess x y = decide (cmpL (x.map fun b => (b.toNat : Int)) (y.map fun b => (b.toNat : Int)) = .lt)
 | [], [] => by simp [Op.bytesLess, cmpL]
 | _ :: _, [] => by simp [Op.bytesLess, cmpL]
 | [], _ :: _ => by simp [Op.bytesLess, cmpL]
 | a :: x, b :: y => by
  simp only [Op.bytesLess, List.map_cons, cmpL]
  rw [bytesLess_cmp x y]
  have hlt : (a < b) ↔ (a.toNat : Int) < b.toNat := by
   rw [UInt8.lt_iff_toNat_lt]; omega
  have heq : (a = b) ↔ (a.toNat : Int) = b.toNat := by
   constructor
   ·rintro rfl; rfl
   ·intro h; exact UInt8.toNat_inj.1 (by exact_mod_cast h)
  by_cases h1 : (a.toNat : Int) < b.toNat
  ·have := hlt.2 h1
   rw [if_pos h1]; simp [this]
  ·have h1' : ¬ a < b := fun h => h1 (hlt.1 h)
   rw [if_neg h1]
   by_cases h2 : (b.toNat : Int) < a.toNat
   ·have : a ≠ b := fun h => by have := heq.1 h; omega
    rw [if_pos h2]; simp [h1', this]
   ·have : a = b := heq.2 (by omega)
    rw [if_neg h2]; simp [h1', this]
end Go.Proofs.YtjljgahfkcdhfaaGreatDoor
end

section
namespace Go.Proofs.YtjljgahfkcdhfaaGreatDoor
open Go.ChangeShapes Go.WideShapes Go.RowKit
def tiles (P : Program) : List (Nat × TypeId) → Nat → Nat → Bool
 | [], o, n => o == n
 | (off, ft) :: r, o, n => off == o && tiles P r (o + (td P ft).size) n
def shp (P : Program) : Nat → TypeId → Bool
 | 0, _ => false
 | n + 1, t => (td P t).ok && match (td P t).k with
  | .bool | .int _ | .str => (td P t).size == 1
  | .slice e => (td P t).size == 1 && decide (0 < (td P e).size) && (td P e).ok && shp P n e
  | .struct fs => tiles P fs 0 (td P t).size && fs.all fun f => (td P f.2).ok && shp P n f.2
  | .array m e => (td P t).size == m * (td P e).size && (td P e).ok && shp P n e
  | _ => false
def CT (P : Program) : Nat → TypeId → List MV → Prop
 | 0, _, _ => False
 | n + 1, t, cs => match (td P t).k with
  | .bool => ∃ b, cs = [.bool b]
  | .int k => ∃ v, cs = [.int k v] ∧ k.min ≤ v ∧ v ≤ k.max
  | .str => ∃ s : ByteArray, cs = [.str s] ∧ s.size ≤ maxLen
  | .slice e => ∃ xs, cs = [.lst (td P e).size xs false] ∧ xs.length ≤ maxLen ∧ ∀ x, x ∈ xs → CT P n e x
  | .struct fs => cs.length = (td P t).size ∧ ∀ f, f ∈ fs → CT P n f.2 ((cs.drop f.1).take (td P f.2).size)
  | .array m e => cs.length = (td P t).size ∧ ∀ i, i < m → CT P n e ((cs.drop (i * (td P e).size)).take (td P e).size)
  | _ => False
def AT (P : Program) (n : Nat) (t : TypeId) (m : MV) : Prop := if (td P t).k.isAgg = true then ∃ cs, m = .agg cs ∧ CT P n t cs else CT P n t [m]
def phi0 (w : World) : Phi := ⟨fun a => w.cell? a, fun _ => none, 0⟩
def GTok (w : World) : Prop := ∀ g i v, GT g i = some v → w.cell? ⟨g, i, none⟩ = some v
theorem inv0 (w : World) (hG : GTok w) : Inv (phi0 w) w St.none where
 own := fun l o h => by simp [St.none] at h
 inj := fun l l' o o' p p' R h => by simp [St.none] at h
 snap := fun a v h => h
 apart := fun l o p R a v h => by simp [St.none] at h
 fresh := ⟨⟨⟨0, fun _ _ => rfl⟩, fun _ _ h => by cases h⟩, hG⟩
def RelL (Φ : Phi) (cs : List Value) (ms : List MV) : Prop := cs.length = ms.length ∧ ∀ (i : Nat) v m, cs[i]? = some v → ms[i]? = some m → m.isCell = true ∧ Rel Φ v m
theorem RelL.one {Φ : Phi} {v : Value} {m : MV} (hc : m.isCell = true) (h : Rel Φ v m) : RelL Φ [v] [m] :=
 ⟨rfl, fun i v' m' h1 h2 => by
  cases i with
  | zero => simp at h1 h2; subst h1 h2; exact ⟨hc, h⟩
  | succ i => simp at h1⟩
theorem RelL.app {Φ : Phi} {c1 c2 : List Value} {m1 m2 : List MV} (h1 : RelL Φ c1 m1) (h2 : RelL Φ c2 m2) : RelL Φ (c1 ++ c2) (m1 ++ m2) :=
 ⟨by simp [h1.1, h2.1], fun i v m hv hm => by
  rw [List.getElem?_append] at hv hm
  rw [h1.1] at hv
  split at hv <;> rename_i hi
  ·rw [if_pos hi] at hm; exact h1.2 i v m hv hm
  ·rw [if_neg hi] at hm; exact h2.2 _ v m hv hm⟩
section
variable {H : Type} {enc : TypeId × Value → H} {P : Program} {w : World} {base : Nat} {spare : Nat → Bool} {held : Bool}
theorem td_und {t : TypeId} (h : (td P t).ok = true) : ∃ i d, P.info? t = some i ∧ P.underlying t = some d ∧ (td P t).size = P.cellsOf t ∧ (td P t).k = tkOf d := by
 obtain ⟨i, d, h1, h2, h3, h4, h5⟩ := td_info h
 exact ⟨i, d, h1, h2, by rw [h3]; simp [Program.cellsOf, h1], h5⟩
theorem cells_size {t : TypeId} (h : (td P t).ok = true) : P.cellsOf t = (td P t).size := by
 obtain ⟨_, _, _, _, h, _⟩ := td_und h
 exact h.symm
theorem tile_fields {Φ : Phi} {n : Nat} {cs : List Value} {size : Nat} (hlen : cs.length = size) : ∀ (fs : List (Nat × TypeId)) (o : Nat), o ≤ size → tiles P fs o size = true →
  (∀ f, f ∈ fs → ∃ ms, RelL Φ ((cs.drop f.1).take (td P f.2).size) ms ∧ CT P n f.2 ms) → (∀ f, f ∈ fs → ∀ ms, CT P n f.2 ms → ms.length = (td P f.2).size) →
  ∃ ms, RelL Φ (cs.drop o) ms ∧ ∀ f, f ∈ fs → o ≤ f.1 ∧ CT P n f.2 ((ms.drop (f.1 - o)).take (td P f.2).size)
 | [], o, ho, ht, _, _ => by
  simp only [tiles, beq_iff_eq] at ht
  refine ⟨[], ?_, fun f h => by cases h⟩
  rw [ht, ← hlen, List.drop_length]
  exact ⟨rfl, fun i v m h => by simp at h⟩
 | (off, ft) :: r, o, ho, ht, hf, hl => by
  simp only [tiles, Bool.and_eq_true, beq_iff_eq] at ht
  obtain ⟨rfl, ht⟩ := ht
  obtain ⟨m1, r1, c1⟩ := hf (off, ft) (List.mem_cons_self ..)
  have e1 := hl (off, ft) (List.mem_cons_self ..) m1 c1
  simp only at r1 c1 e1
  have hle : off + (td P ft).size ≤ size := by
   have := r1.1
   simp only [List.length_take, List.length_drop, hlen] at this
   omega
  obtain ⟨m2, r2, c2⟩ := tile_fields hlen r (off + (td P ft).size) hle ht (fun f h => hf f (List.mem_cons_of_mem _ h)) (fun f h => hl f (List.mem_cons_of_mem _ h))
  refine ⟨m1 ++ m2, ?_, fun f h => ?_⟩
  ·have : cs.drop off = (cs.drop off).take (td P ft).size ++ cs.drop (off + (td P ft).size) := by
    rw [← List.drop_drop, List.take_append_drop]
   rw [this]
   exact r1.app r2
  ·rcases List.mem_cons.1 h with rfl | h
   ·refine ⟨Nat.le_refl _, ?_⟩
    simp only [Nat.sub_self, List.drop_zero]
    rw [List.take_append_of_le_length (by omega), List.take_of_length_le (by omega)]
    exact c1
   ·obtain ⟨h1, h2⟩ := c2 f h
    refine ⟨by omega, ?_⟩
    have : (m1 ++ m2).drop (f.1 - off) = m2.drop (f.1 - (off + (td P ft).size)) := by
     rw [List.drop_append, List.drop_eq_nil_of_le (by omega), List.nil_append]
     congr 1
     omega
    rw [this]
    exact h2
theorem ct_len : ∀ (n : Nat) (t : TypeId) (cs : List MV), shp P n t = true → CT P n t cs → cs.length = (td P t).size
 | 0, _, _, h, _ => by cases h
 | n + 1, t, cs, h, hc => by
  simp only [shp, Bool.and_eq_true] at h
  obtain ⟨_, h⟩ := h
  simp only [CT] at hc
  split at hc
  ·rename_i hk; rw [hk] at h; simp only [beq_iff_eq] at h; obtain ⟨b, rfl⟩ := hc; exact h.symm
  ·rename_i hk; rw [hk] at h; simp only [beq_iff_eq] at h; obtain ⟨b, rfl, _⟩ := hc; exact h.symm
  ·rename_i hk; rw [hk] at h; simp only [beq_iff_eq] at h; obtain ⟨b, rfl, _⟩ := hc; exact h.symm
  ·rename_i hk; rw [hk] at h; simp only [Bool.and_eq_true, beq_iff_eq] at h; obtain ⟨b, rfl, _⟩ := hc; exact h.1.1.1.symm
  ·exact hc.1
  ·exact hc.1
  ·exact hc.elim
theorem tiles_le : ∀ (fs : List (Nat × TypeId)) (o m : Nat), tiles P fs o m = true → o ≤ m ∧ ∀ f, f ∈ fs → f.1 + (td P f.2).size ≤ m
 | [], o, m, h => by
  simp only [tiles, beq_iff_eq] at h
  exact ⟨by omega, fun f hf => by cases hf⟩
 | (off, ft) :: r, o, m, h => by
  simp only [tiles, Bool.and_eq_true, beq_iff_eq] at h
  obtain ⟨rfl, h⟩ := h
  obtain ⟨h1, h2⟩ := tiles_le r _ m h
  refine ⟨by omega, fun f hf => ?_⟩
  rcases List.mem_cons.1 hf with rfl | hf
  ·exact h1
  ·exact h2 f hf
theorem tiles_range (e : TypeId) : ∀ (k i : Nat), tiles P ((List.range' i k).map fun j => (j * (td P e).size, e)) (i * (td P e).size) ((i + k) * (td P e).size) = true
 | 0, i => by simp [tiles]
 | k + 1, i => by
  have := tiles_range e k (i + 1)
  rw [List.range'_succ]
  simp only [List.map_cons, tiles, beq_self_eq_true, Bool.true_and]
  rw [show i * (td P e).size + (td P e).size = (i + 1) * (td P e).size by rw [Nat.add_mul, Nat.one_mul], show i + (k + 1) = i + 1 + k by omega]
  exact this
theorem trod_open : ∀ (n : Nat) (t : TypeId) (fuel : Nat) (cs : List Value) (x : DataW H × List MemPlace), shp P n t = true → cs.length = (td P t).size → DataW.trod enc P w base spare held fuel t cs = some x →
  ∃ ms, RelL (phi0 w) cs ms ∧ CT P n t ms
 | 0, _, _, _, _, h, _, _ => by cases h
 | n + 1, t, fuel, cs, x, h, hlen, hx => by
  simp only [shp, Bool.and_eq_true] at h
  obtain ⟨hok, h⟩ := h
  obtain ⟨i, d, hi, hd, hsz, hk⟩ := td_und hok
  split at h <;> rename_i hkk
  ·have ht := und_bool hkk
   obtain ⟨b, rfl, _⟩ := DataW.trod_bool ht hx
   exact ⟨[.bool b], .one rfl (.bool b), by simp only [CT, hkk]; exact ⟨b, rfl⟩⟩
  ·rename_i k
   have ht := und_int hkk
   obtain ⟨v, rfl, _, hw⟩ := DataW.trod_int ht hx
   simp only [Lit.wf, Bool.and_eq_true, decide_eq_true_eq] at hw
   exact ⟨[.int k v], .one rfl (.int k v), by simp only [CT, hkk]; exact ⟨v, rfl, hw⟩⟩
  ·have ht := und_str hkk
   obtain ⟨s, rfl, _, hw⟩ := DataW.trod_string ht hx
   exact ⟨[.str s], .one rfl (.str s), by simp only [CT, hkk]; exact ⟨s, rfl, hw⟩⟩
  ·rename_i e
   have ht := und_slice hkk
   simp only [Bool.and_eq_true, decide_eq_true_eq] at h
   obtain ⟨⟨⟨_, h0⟩, heok⟩, h⟩ := h
   have hce := cells_size heok
   rcases DataW.trod_slice ht hx with ⟨rfl, _⟩ | ⟨a, len, cap, elems, rest, m, _, rfl, _, _, hlc, hcm, hel, hget, _⟩
   ·exact ⟨[.lst (td P e).size [] false], .one rfl (.lstn _ _), by simp only [CT, hkk]; exact ⟨[], rfl, by simp, fun x h => by cases h⟩⟩
   ·have key : ∀ i : Nat, ∃ q : List Value × List MV, i < len → w.cells? base (a.add (i * (td P e).size)) (td P e).size = some q.1 ∧ RelL (phi0 w) q.1 q.2 ∧ CT P n e q.2 ∧ q.2.length = (td P e).size := by
     intro i
     by_cases hi : i < len
     ·have := hget i hi
      rw [hce] at this
      obtain ⟨y, hy⟩ : ∃ y, elems[i]? = some y := ⟨elems[i]'(by omega), by simp⟩
      rw [hy] at this
      cases hc : w.cells? base (a.add (i * (td P e).size)) (td P e).size with
      | none => rw [hc] at this; cases this
      | some c =>
       rw [hc] at this
       have hcl := (World.cells?_some hc).2.1
       obtain ⟨ms, r, ct⟩ := trod_open n e m c y h hcl this
       exact ⟨(c, ms), fun _ => ⟨rfl, r, ct, by rw [← r.1]; exact hcl⟩⟩
     ·exact ⟨([], []), fun h => absurd h hi⟩
    obtain ⟨F, hF⟩ := Classical.axiomOfChoice key
    let xs := (List.range len).map fun i => (F i).2
    have hxs : ∀ (i : Nat) (y : List MV), xs[i]? = some y → i < len ∧ y = (F i).2 := fun i y hy => by
     simp only [xs, List.getElem?_map, Option.map_eq_some_iff] at hy
     obtain ⟨j, hj, rfl⟩ := hy
     rw [List.getElem?_eq_some_iff] at hj
     obtain ⟨h1, h2⟩ := hj
     simp at h1 h2
     subst h2
     exact ⟨h1, rfl⟩
    refine ⟨[.lst (td P e).size xs false], .one rfl (Rel.mk_lst (by simp [xs]) hlc hcm (fun h => by cases h) (fun h => by cases h) (fun hpos => ?_)), ?_⟩
    ·obtain ⟨hc0, hr0, _, hl0⟩ := hF 0 hpos
     obtain ⟨_, hcl, hcell⟩ := World.cells?_some hc0
     have g0 := hcell 0 h0
     obtain ⟨c0, hc0'⟩ : ∃ c0, (F 0).1[0]? = some c0 := ⟨(F 0).1[0]'(by omega), by simp⟩
     rw [hc0'] at g0
     obtain ⟨b, off, spot⟩ := a
     have hspot : spot = none := by simpa [Addr.add] using World.cell?_spot g0
     subst hspot
     refine ⟨b, off, rfl, fun i y hy => ?_, fun i j => (F i).1.getD j undef, fun i y j m hy hm => ?_⟩
     ·obtain ⟨hi, rfl⟩ := hxs i y hy
      exact (hF i hi).2.2.2
     ·obtain ⟨hi, rfl⟩ := hxs i y hy
      obtain ⟨hc, hr, _, hl⟩ := hF i hi
      obtain ⟨_, hcl, hcell⟩ := World.cells?_some hc
      have hj : j < (F i).2.length := (List.getElem?_eq_some_iff.1 hm).1
      have hj' : j < (F i).1.length := by rw [hcl, ← hl]; exact hj
      have hv : (F i).1[j]? = some ((F i).1.getD j undef) := by simp [List.getD, hj']
      obtain ⟨k1, k2⟩ := hr.2 j _ m hv hm
      refine ⟨k1, ?_, k2⟩
      have := hcell j (by omega)
      rw [hv] at this
      simp only [add_none] at this
      show w.cell? _ = _
      rw [← Nat.add_assoc]
      exact this
    ·simp only [CT, hkk]
     refine ⟨xs, rfl, by simp [xs]; omega, fun y hy => ?_⟩
     obtain ⟨i, hi⟩ := List.mem_iff_getElem?.1 hy
     obtain ⟨hil, e⟩ := hxs i y hi
     rw [e]
     exact (hF i hil).2.2.1
  ·rename_i fs
   obtain ⟨fa, ht, rfl⟩ := und_struct hkk
   simp only [Bool.and_eq_true, List.all_eq_true] at h
   obtain ⟨htl, hall⟩ := h
   obtain ⟨xs, m, _, _, hcl, hxl, hget⟩ := DataW.trod_struct ht hx
   have hfield : ∀ f, f ∈ (fa.toList.map fun f => (f.offset, f.type)) → ∃ ms, RelL (phi0 w) ((cs.drop f.1).take (td P f.2).size) ms ∧ CT P n f.2 ms := by
    intro f hf
    have hf0 := hall f hf
    obtain ⟨g, hg, rfl⟩ := List.mem_map.1 hf
    obtain ⟨i, hi⟩ := List.mem_iff_getElem?.1 hg
    have hi' : fa[i]? = some g := by simpa using hi
    have hil : i < xs.length := by
     rw [hxl]
     obtain ⟨q, _⟩ := Array.getElem?_eq_some_iff.1 hi'
     exact q
    have := hget i g hi'
    simp only at hf0 ⊢
    rw [cells_size hf0.1, List.getElem?_eq_getElem hil] at this
    refine trod_open n _ m _ _ hf0.2 ?_ this
    have := (tiles_le _ _ _ htl).2 _ hf
    simp only [List.length_take, List.length_drop, hlen] at this ⊢
    omega
   obtain ⟨ms, r, hc⟩ := tile_fields (Φ := phi0 w) (n := n) (P := P) hlen _ 0 (Nat.zero_le _) htl hfield (fun f hf ms hm => ct_len n _ ms (hall f hf).2 hm)
   refine ⟨ms, by simpa using r, ?_⟩
   simp only [CT, hkk]
   refine ⟨by rw [← hlen]; simpa using r.1.symm, fun f hf => ?_⟩
   have := (hc f hf).2
   simpa using this
  ·rename_i k e
   have ht := und_array hkk
   simp only [Bool.and_eq_true, beq_iff_eq] at h
   obtain ⟨⟨hsz2, heok⟩, h⟩ := h
   obtain ⟨xs, m, _, _, hcl, hxl, hget⟩ := DataW.trod_array ht hx
   have htl : tiles P ((List.range k).map fun j => (j * (td P e).size, e)) 0 (td P t).size = true := by
    have := tiles_range (P := P) e k 0
    rw [List.range_eq_range', hsz2]
    simpa using this
   have hfield : ∀ f, f ∈ ((List.range k).map fun j => (j * (td P e).size, e)) → ∃ ms, RelL (phi0 w) ((cs.drop f.1).take (td P f.2).size) ms ∧ CT P n f.2 ms := by
    intro f hf
    have hle := (tiles_le _ _ _ htl).2 _ hf
    obtain ⟨i, hi, rfl⟩ := List.mem_map.1 hf
    have hik : i < k := by simpa using hi
    have := hget i hik
    simp only at hle ⊢
    rw [cells_size heok, List.getElem?_eq_getElem (by omega)] at this
    refine trod_open n _ m _ _ h ?_ this
    simp only [List.length_take, List.length_drop, hlen]
    omega
   obtain ⟨ms, r, hc⟩ := tile_fields (Φ := phi0 w) (n := n) (P := P) hlen _ 0 (Nat.zero_le _) htl hfield (fun f hf ms hm => by
    obtain ⟨i, hi, rfl⟩ := List.mem_map.1 hf
    exact ct_len n _ ms h hm)
   refine ⟨ms, by simpa using r, ?_⟩
   simp only [CT, hkk]
   refine ⟨by rw [← hlen]; simpa using r.1.symm, fun i hi => ?_⟩
   have := (hc (i * (td P e).size, e) (List.mem_map.2 ⟨i, by simpa using hi, rfl⟩)).2
   simpa using this
  ·cases h
theorem arg_open {n : Nat} {t : TypeId} {v : Value} {d : DataW H} {ps : List MemPlace} {r : Reach} {b0 : Nat} (h : shp P n t = true) (hv : Value.okWide P w r b0 t v) (hd : DataW.Trod enc P w base spare held t v d ps) :
  ∃ m, Rel (phi0 w) v m ∧ AT P n t m := by
 obtain ⟨fuel, hf⟩ := hd
 have hok : (td P t).ok = true := by
  cases n with
  | zero => cases h
  | succ n => simp only [shp, Bool.and_eq_true] at h; exact h.1
 have hcs := cells_size hok
 unfold AT
 have key : (∃ cs, v = .agg cs ∧ cs.size = (td P t).size ∧ (td P t).k.isAgg = true) ∨ ((td P t).k.isAgg = false ∧ v.cells = #[v] ∧ (td P t).size = 1) := by
  cases n with
  | zero => cases h
  | succ n =>
   simp only [shp, Bool.and_eq_true] at h
   obtain ⟨_, h⟩ := h
   split at h <;> rename_i hk
   ·obtain ⟨b, rfl⟩ := okWide_bool (und_bool hk) hv
    exact .inr ⟨by rw [hk]; rfl, rfl, by simpa using h⟩
   ·obtain ⟨b, rfl⟩ := okWide_int (und_int hk) hv
    exact .inr ⟨by rw [hk]; rfl, rfl, by simpa using h⟩
   ·obtain ⟨b, rfl⟩ := okWide_string (und_str hk) hv
    exact .inr ⟨by rw [hk]; rfl, rfl, by simpa using h⟩
   ·obtain ⟨a, l, c, rfl⟩ := okWide_slice (und_slice hk) hv
    simp only [Bool.and_eq_true, beq_iff_eq] at h
    exact .inr ⟨by rw [hk]; rfl, rfl, h.1.1.1⟩
   ·obtain ⟨fa, ht, _⟩ := und_struct hk
    obtain ⟨cs, rfl, hs⟩ := okWide_struct ht hv
    exact .inl ⟨cs, rfl, by rw [hs, hcs], by rw [hk]; rfl⟩
   ·have ht := und_array hk
    simp only [Value.okWide, ht] at hv
    obtain ⟨cs, rfl, hs, _⟩ := hv
    exact .inl ⟨cs, rfl, by rw [hs, hcs], by rw [hk]; rfl⟩
   ·cases h
 rcases key with ⟨cs, rfl, hs, ha⟩ | ⟨ha, hc, hs⟩
 ·simp only [ha, if_true]
  obtain ⟨ms, hr, hct⟩ := trod_open n t fuel _ _ h (by simpa [Value.cells] using hs) hf
  have hr' : RelL (phi0 w) cs.toList ms := by simpa [Value.cells] using hr
  have hl : cs.size = ms.length := by simpa using hr'.1
  have get : ∀ (i : Nat) m, ms[i]? = some m → cs.toList[i]? = some (cs.getD i undef) := fun i m hm => by
   have : i < cs.size := by rw [hl]; exact (List.getElem?_eq_some_iff.1 hm).1
   simp [Array.getD, this]
  exact ⟨.agg ms, .agg hl (fun i m hm => (hr'.2 i _ m (get i m hm) hm).1) (fun i m hm => (hr'.2 i _ m (get i m hm) hm).2), ms, rfl, hct⟩
 ·simp only [ha, Bool.false_eq_true, if_false]
  obtain ⟨ms, hr, hct⟩ := trod_open n t fuel _ _ h (by rw [hc, hs]; rfl) hf
  rw [hc] at hr
  match ms, hr with
  | [m], hr =>
   exact ⟨m, (hr.2 0 v m rfl rfl).2, hct⟩
  | [], hr => exact absurd hr.1 (by simp)
  | _ :: _ :: _, hr => exact absurd hr.1 (by simp)
def ATs (P : Program) (n : Nat) : List TypeId → List MV → Prop
 | [], [] => True
 | t :: ts, m :: ms => AT P n t m ∧ ATs P n ts ms
 | _, _ => False
theorem args_open {n : Nat} : ∀ {ts : List TypeId} {vs : List Value} {ds : List (DataW H)} {ps : List MemPlace}, (∀ t, t ∈ ts → shp P n t = true) → (∀ (j : Nat) t v, ts[j]? = some t → vs[j]? = some v → Value.okWide P w .any base t v) →
  DataW.TrodAll enc P w 0 spare held ts vs ds ps → ∃ ms, vs.length = ms.length ∧ (∀ (i : Nat) v m, vs[i]? = some v → ms[i]? = some m → Rel (phi0 w) v m) ∧ ATs P n ts ms
 | [], vs, ds, ps, _, _, h => by
  obtain ⟨rfl, _, _⟩ := trodAll_nil h
  exact ⟨[], rfl, fun i v m h => by simp at h, trivial⟩
 | t :: ts, vs, ds, ps, hs, hok, h => by
  obtain ⟨v, vs1, d, ds1, a, b, rfl, rfl, rfl, h1, h2⟩ := trodAll_cons h
  obtain ⟨m, r, ht⟩ := arg_open (hs t (List.mem_cons_self ..)) (hok 0 t v rfl rfl) h1
  obtain ⟨ms, e, rs, hts⟩ := args_open (fun t h => hs t (List.mem_cons_of_mem _ h)) (fun j t v p q => hok (j + 1) t v (by simpa using p) (by simpa using q)) h2
  refine ⟨m :: ms, by simp [e], fun i v' m' p q => ?_, ht, hts⟩
  cases i with
  | zero => simp at p q; subst p q; exact r
  | succ i => simp at p q; exact rs i v' m' p q
theorem args_stay {W W' : World} (hl : laidOutB P = true) (hb : ∀ k, k < W.heap.size → W'.heap[k]? = W.heap[k]?) : ∀ {ts : List TypeId} {vs : List Value} {ds : List (DataW H)} {ps : List MemPlace} {sp : Nat → Bool},
  (∀ t, t ∈ ts → P.readableRec t = true ∧ t < P.types.size) → DataW.TrodAll enc P W 0 (fun _ => true) true ts vs ds ps → (∀ x ∈ ps, x.block < W.heap.size) → (∀ x ∈ ps, sp x.block = true) → DataW.TrodAll enc P W' 0 sp true ts vs ds ps
 | [], vs, ds, ps, sp, _, h, _, _ => by
  obtain ⟨rfl, rfl, rfl⟩ := trodAll_nil h
  exact trodAll_mk0
 | t :: ts, vs, ds, ps, sp, hr, h, hlt, hsp => by
  obtain ⟨v, vs1, d, ds1, a, b, rfl, rfl, rfl, h1, h2⟩ := trodAll_cons h
  refine ⟨a, b, ?_, args_stay hl hb (fun t h => hr t (List.mem_cons_of_mem _ h)) h2 (fun x hx => hlt x (List.mem_append_right _ hx)) (fun x hx => hsp x (List.mem_append_right _ hx)), rfl⟩
  obtain ⟨r1, r2⟩ := hr t (List.mem_cons_self ..)
  refine WideElems.Trod_stays hl r1 r2 h1 (fun x hx => ?_) (fun x hx => hsp x (List.mem_append_left _ hx))
  have hp := hlt x (List.mem_append_left _ hx)
  cases x with
  | cell b o => exact World.cell?_of_block (w := W) (hb b hp)
  | map b => exact hb b hp
theorem kept_of {W W' : World} {may : MemPlace → Prop} (h1 : W'.os = W.os) (h2 : W'.output = W.output) (hb : ∀ k, k < W.heap.size → W'.heap[k]? = W.heap[k]?) : W.keptBut W' may := by
 refine ⟨h1, h2, fun i hi => ?_⟩
 rw [hb i hi]
 cases W.heap[i]? with
 | none => rfl
 | some o => cases o with
  | cells c t fr => exact ⟨rfl, rfl, rfl, fun _ _ => rfl⟩
  | map es clock => exact .inr ⟨rfl, rfl⟩
  | _ => rfl
theorem frozen_of {W W' : World} (hb : ∀ k, k < W.heap.size → W'.heap[k]? = W.heap[k]?) {a : Addr} (h : a.block < W.heap.size) : W'.frozen? a = W.frozen? a := by
 unfold World.frozen?
 rw [hb _ h]
theorem law_post {f : Func} {s : ChangeSpec} {apart fresh handsOn again : Bool} {W W' : World} {args : Array Value} {ds gs : List (DataW H)} {before : List MemPlace} {tb : TypeId}
  (hvars : s.vars = []) (hs : ∀ (H : Type) (ds : List (DataW H)), ds.length = f.params.size → s.fn H ds = { results := [.lit (.bool true)], args := ds })
  (hres : f.resultTypes = #[tb]) (htb : P.underlying tb = some .bool) (hl : laidOutB P = true) (hr : ∀ t, t ∈ f.params.toList → P.readableRec t = true ∧ t < P.types.size)
  (hW : DataW.Whole enc P f.params.toList s.vars apart W args.toList ds gs before) (h1 : W'.os = W.os) (h2 : W'.output = W.output) (hb : ∀ k, k < W.heap.size → W'.heap[k]? = W.heap[k]?) :
  s.post enc P f apart fresh handsOn again W args (.bool true) W' := by
 have hlt := hW.lt
 have hW0 := hW
 obtain ⟨p, q, hA, hV, hpq, hfz, hnd⟩ := hW
 rw [hvars] at hV
 obtain ⟨rfl, rfl⟩ := trodVars_none hV
 rw [List.append_nil] at hpq
 subst hpq
 have hlen : ∀ {ts : List TypeId} {vs : List Value} {ds : List (DataW H)} {ps : List MemPlace}, DataW.TrodAll enc P W 0 (fun _ => true) true ts vs ds ps → ds.length = ts.length := by
  intro ts
  induction ts with
  | nil => intro vs ds ps h; obtain ⟨_, rfl, _⟩ := trodAll_nil h; rfl
  | cons t ts ih =>
   intro vs ds ps h
   obtain ⟨v, vs1, d, ds1, a, b, rfl, rfl, rfl, h1, h2⟩ := trodAll_cons h
   simp [ih h2]
 have hfn : s.fn H (ds ++ []) = { results := [.lit (.bool true)], args := ds } := by
  rw [List.append_nil]
  exact hs H ds (by rw [hlen hA]; simp)
 have hargs : ∀ sp : Nat → Bool, (∀ x ∈ before, sp x.block = true) → DataW.TrodAll enc P W' 0 sp true f.params.toList args.toList ds before := fun sp hsp => args_stay hl hb hr hA hlt hsp
 have hresl : (Value.bool true).resultList f.resultTypes.size = [.bool true] := by rw [hres]; rfl
 have hrt : ∀ (b : Nat) (sp : Nat → Bool) (hd : Bool), DataW.TrodAll enc P W' b sp hd f.resultTypes.toList ((Value.bool true).resultList f.resultTypes.size) [.lit (.bool true)] [] := fun b sp hd => by
  rw [hresl, hres]
  exact trodAll_mk1 (shut_bool htb true)
 refine ⟨ds, [], before, [], before, [], hW0, ?_, ?_, ?_, kept_of h1 h2 hb, fun _ => ⟨?_, [.lit (.bool true)] ++ ds, [], [] ++ before, ⟨[] ++ before, [], trodAll_append (hargs _ fun _ _ => rfl) (hrt _ _ _), ?_, by simp, fun b off hp => ?_, fun ha => ?_⟩, fun x hx _ => ?_⟩⟩
 ·rw [hfn]; exact hrt _ _ _
 ·rw [hfn]; exact hargs _ fun x hx => by simpa using hlt x hx
 ·rw [hfn, hvars]; rfl
 ·exact ok_one hres rfl (okWide_bool_mk htb true)
 ·rw [hvars]; rfl
 ·have hp' : MemPlace.cell b off ∈ before := by simpa using hp
  rw [frozen_of hb (a := ⟨b, off, none⟩) (hlt _ hp')]
  exact hfz b off (by simpa using hp')
 ·have := hnd ha
  simpa using this
 ·simpa using hx
theorem ct_int {n : Nat} {t : TypeId} {k : IntKind} {cs : List MV} (hk : (td P t).k = .int k) (h : CT P (n + 1) t cs) : ∃ v, cs = [.int k v] ∧ k.min ≤ v ∧ v ≤ k.max := by
 simp only [CT, hk] at h; exact h
theorem at_cell {n : Nat} {t : TypeId} {m : MV} (hk : (td P t).k.isAgg = false) (h : AT P n t m) : CT P n t [m] := by
 simpa only [AT, hk, Bool.false_eq_true, if_false] using h
theorem cell_eq {a b : MV} (h : [a] = [b]) : a = b := by simpa using h
end
end Go.Proofs.YtjljgahfkcdhfaaGreatDoor
end

section
namespace Go.Proofs.YtjljgahfkcdhfaaGreatDoor
open Go.ChangeShapes Go.WideShapes Go.RowKit
section
variable {H : Type} {enc : TypeId × Value → H}
theorem law_lift_laid {C : Checked} {os : Os} {g : FuncId} {fn : Func} {s : ChangeSpec} {conds : List PathCond} {apart fresh handsOn again : Bool} {tb : TypeId} {n : Nat} {laid : List (String × DataW Unit)}
  (hvars : s.vars = []) (hs : ∀ (H : Type) (ds : List (DataW H)), ds.length = fn.params.size → s.fn H ds = { results := [.lit (.bool true)], args := ds })
  (hres : fn.resultTypes = #[tb]) (htb : C.prog.underlying tb = some .bool) (hl : laidOutB C.prog = true) (hr : ∀ t, t ∈ fn.params.toList → C.prog.readableRec t = true ∧ t < C.prog.types.size)
  (hshp : ∀ t, t ∈ fn.params.toList → shp C.prog n t = true) (hG : ∀ W, laidMetH C.prog laid W → GTok W)
  (own : ownKnob C.prog.godebug = none) (started : os.Started) (noInit : C.prog.inits.idxOf? g = none) (hfn : C.prog.funcs[g]? = some fn)
  (witness : ∃ (w : World) (tape : Tape) (i : Input), w.os = os ∧ (w.forCall tape i).Shaped C.prog ∧ i.vars = [] ∧ Input.okWide C.prog (w.forCall tape i) .any w.heap.size g i ∧
   ((s.pre enc C.prog fn conds apart (w.forCall tape i).memory i.args ∧ laidMetH C.prog laid (w.forCall tape i).memory) ∧ sizedMet enc C.prog fn (OpenSpec.ofChange s) apart (w.forCall tape i).memory i.args) ∧ ({} : Assume).holds C.prog (lone (Frame.enter C.prog g i.args .normal) [] (w.forCall tape i)))
  (h : ∀ ms, ATs C.prog n fn.params.toList ms → MCalls C.prog g ms St.none fun r _ => r = .bool true) :
  ReturnsInHanded {} C os g .any (fun w args => (s.pre enc C.prog fn conds apart w args ∧ laidMetH C.prog laid w) ∧ sizedMet enc C.prog fn (OpenSpec.ofChange s) apart w args) (s.post enc C.prog fn apart fresh handsOn again) := by
 refine returnsInHanded_of_change_and (X := fun w _ => laidMetH C.prog laid w) (fun _ _ _ hh h => h.of_heap hh) own started noInit hfn witness ?_
 intro W base args ds gs before hval hW _ _ hX _
 obtain ⟨p, q, hA, _⟩ := id hW
 obtain ⟨ms, e, hrel, hat⟩ := args_open (n := n) (base := base) hshp (fun j t v p q => hval j t v (by simpa using p) (by simpa using q)) hA
 have hrels : Rels (phi0 W) args ms := ⟨by simpa using e, fun i m hm => by
  have hi : i < args.size := by
   have := (List.getElem?_eq_some_iff.1 hm).1
   simp at e; omega
  exact hrel i _ m (by simp [Array.getD, hi]) hm⟩
 refine ((h ms hat).2 (phi0 W) W args (inv0 W (hG W hX)) hrels).mono fun e' W' ⟨v, mv, σ', Φ', he, hv, hi, hst, hq⟩ => ?_
 subst hq
 cases hv
 refine ⟨_, he, law_post hvars hs hres htb hl hr hW hst.os hst.output fun k hk => hst.block k hk ?_⟩
 rintro ⟨l, o, p, h1, _⟩
 simp [St.none] at h1
end
end Go.Proofs.YtjljgahfkcdhfaaGreatDoor
end
