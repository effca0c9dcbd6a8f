/- Parts of the proof, joined. Each part says what it proves, and under which conditions it does: those that its theorems name. -/
import Derived.Test.YtjljgahfkcdhfaaGreatDoorSnh
set_option linter.unusedVariables false
set_option linter.unusedSimpArgs false
set_option maxHeartbeats 4000000
section
namespace Go.Proofs.YtjljgahfkcdhfaaGreatDoor
theorem F8.ext {f g : F8} (h : ∀ i, i < 8 → f.get i = g.get i) : f = g := by
 obtain ⟨a, ha⟩ := f
 obtain ⟨b, hb⟩ := g
 have : a = b := by
  apply List.ext_getElem (by omega)
  intro i h1 h2
  have := h i (by omega)
  simpa [F8.get, List.getD, h1, h2] using this
 subst this; rfl
theorem F8.get_set (f : F8) (i j : Nat) (v : VA) (hi : i < 8) : (f.set i v).get j = if i = j then v else f.get j := by
 have := f.h
 simp only [F8.get, F8.set, List.getD_eq_getElem?_getD, List.getElem?_set]
 split
 ·rename_i e
  subst e
  rw [if_pos (by omega)]; rfl
 ·rfl
end Go.Proofs.YtjljgahfkcdhfaaGreatDoor
end

section
namespace Go.Proofs.YtjljgahfkcdhfaaGreatDoor
def fc (f : F8) : List MV := (f.l.map VA.c).flatten
theorem va_len (l : List VA) : (l.map VA.c).flatten.length = 3 * l.length := by
 induction l with
 | nil => rfl
 | cons v l ih => simp only [List.map_cons, List.flatten_cons, List.length_append, List.length_cons, List.length_nil, ih]; omega
theorem va_drop : ∀ (l : List VA) (i : Nat), ((l.map VA.c).flatten).drop (i * 3) = ((l.drop i).map VA.c).flatten
 | _, 0 => by simp
 | [], i + 1 => by simp
 | v :: l, i + 1 => by
  have := va_drop l i
  rw [show (i + 1) * 3 = i * 3 + 3 by omega]
  simp only [List.map_cons, List.flatten_cons, List.cons_append, List.nil_append, List.drop_succ_cons]
  exact this
theorem va_take : ∀ (l : List VA) (i : Nat), ((l.map VA.c).flatten).take (i * 3) = ((l.take i).map VA.c).flatten
 | _, 0 => by simp
 | [], i + 1 => by simp
 | v :: l, i + 1 => by
  have := va_take l i
  rw [show (i + 1) * 3 = i * 3 + 3 by omega]
  simp only [List.map_cons, List.flatten_cons, List.cons_append, List.nil_append, List.take_succ_cons]
  rw [this]
theorem va_cell (l : List VA) : ((l.map VA.c).flatten).all MV.isCell = true := by
 induction l with
 | nil => rfl
 | cons v l ih =>
  simp only [List.map_cons, List.flatten_cons, List.cons_append, List.nil_append, List.all_cons, ih]; rfl
theorem fc_len (f : F8) : (fc f).length = 24 := by rw [fc, va_len, f.h]
theorem fc_cell (f : F8) : (fc f).all MV.isCell = true := va_cell f.l
theorem fc_take {f : F8} {r : List MV} {n : Nat} (h : 24 ≤ n) : (fc f ++ r).take n = fc f ++ r.take (n - 24) := by
 rw [List.take_append, List.take_of_length_le (by rw [fc_len]; exact h), fc_len]
theorem fc_take' {f : F8} {n : Nat} (h : 24 ≤ n) : (fc f).take n = fc f := List.take_of_length_le (by rw [fc_len]; exact h)
theorem fc_drop {f : F8} {r : List MV} {n : Nat} (h : 24 ≤ n) : (fc f ++ r).drop n = r.drop (n - 24) := by
 rw [List.drop_append, List.drop_eq_nil_of_le (by rw [fc_len]; exact h), fc_len, List.nil_append]
theorem fc_drop' {f : F8} {n : Nat} (h : 24 ≤ n) : (fc f).drop n = [] := List.drop_eq_nil_of_le (by rw [fc_len]; exact h)
theorem fc_getD {f : F8} {r : List MV} {n : Nat} {d : MV} (h : 24 ≤ n) : (fc f ++ r).getD n d = r.getD (n - 24) d := by
 rw [List.getD_eq_getElem?_getD, List.getElem?_append_right (by rw [fc_len]; exact h), fc_len, ← List.getD_eq_getElem?_getD]
theorem fc_drop_at {f : F8} {i : Nat} (h : i < 8) : (fc f).drop (i * 3) = (f.get i).c ++ (fc f).drop ((i + 1) * 3) := by
 have hl : i < f.l.length := by rw [f.h]; exact h
 rw [fc, va_drop, va_drop, List.drop_eq_getElem_cons hl, List.map_cons, List.flatten_cons]
 congr 1
 rw [F8.get, getD_of_lt va0 hl]
theorem fc_at {f : F8} {i : Nat} (h : i < 8) : ((fc f).drop (i * 3)).take 3 = [.int .i64 (f.get i).kd, .int .i64 (f.get i).n, .str (f.get i).s] := by
 rw [fc_drop_at h]; rfl
theorem fc_at_app {f : F8} {r : List MV} {i : Nat} (h : i < 8) : ((fc f ++ r).drop (i * 3)).take 3 = [.int .i64 (f.get i).kd, .int .i64 (f.get i).n, .str (f.get i).s] := by
 rw [List.drop_append_of_le_length (by rw [fc_len]; omega), fc_drop_at h]; rfl
theorem getD_drop {α : Type} {l : List α} {n k : Nat} {d : α} : l.getD (n + k) d = (l.drop n).getD k d := by
 rw [List.getD_eq_getElem?_getD, List.getD_eq_getElem?_getD, List.getElem?_drop]
theorem fc_get0 {f : F8} {i : Nat} {d : MV} (h : i < 8) : (fc f).getD (i * 3) d = .int .i64 (f.get i).kd := by
 have := getD_drop (l := fc f) (n := i * 3) (k := 0) (d := d)
 rw [Nat.add_zero] at this
 rw [this, fc_drop_at h]; rfl
theorem fc_get1 {f : F8} {i : Nat} {d : MV} (h : i < 8) : (fc f).getD (i * 3 + 1) d = .int .i64 (f.get i).n := by
 rw [getD_drop, fc_drop_at h]; rfl
theorem fc_get2 {f : F8} {i : Nat} {d : MV} (h : i < 8) : (fc f).getD (i * 3 + 2) d = .str (f.get i).s := by
 rw [getD_drop, fc_drop_at h]; rfl
theorem fc_laid {f : F8} {i : Nat} {a b : Int} {s : ByteArray} (h : i < 8) : laid (fc f) (i * 3) [.int .i64 a, .int .i64 b, .str s] = fc (f.set i ⟨a, b, s⟩) := by
 have hl : i < f.l.length := by rw [f.h]; exact h
 unfold laid
 simp only [List.length_cons, List.length_nil]
 have e : (f.set i ⟨a, b, s⟩).l = f.l.set i ⟨a, b, s⟩ := rfl
 rw [show i * 3 + (0 + 1 + 1 + 1) = (i + 1) * 3 by omega, fc, fc, va_take, va_drop, e, List.set_eq_take_append_cons_drop, if_pos hl, List.map_append, List.flatten_append, List.map_cons, List.flatten_cons]
 simp only [List.append_assoc]
theorem fc_fold {f : F8} {i : Nat} {v : VA} (h : i < 8) : (fc f).take (i * 3) ++ v.c ++ (fc f).drop (3 + i * 3) = fc (f.set i v) := by
 have := fc_laid (f := f) (i := i) (a := v.kd) (b := v.n) (s := v.s) h
 rw [← this, laid, show 3 + i * 3 = i * 3 + 3 by omega]; rfl
theorem F8.get_hit {f : F8} {i : Nat} {v : VA} (h : i < 8) : (f.set i v).get i = v := by rw [F8.get_set f i i v h, if_pos rfl]
theorem drop_two {α : Type} {a b : α} {l : List α} {n : Nat} : (a :: b :: l).drop (2 + n) = l.drop n := by rw [show 2 + n = n + 1 + 1 by omega]; rfl
theorem drop_three {α : Type} {a b c : α} {l : List α} {n : Nat} : (a :: b :: c :: l).drop (3 + n) = l.drop n := by rw [show 3 + n = n + 1 + 1 + 1 by omega]; rfl
theorem take_two {α : Type} {a b : α} {l : List α} {n : Nat} : (a :: b :: l).take (2 + n) = a :: b :: l.take n := by rw [show 2 + n = n + 1 + 1 by omega]; rfl
theorem take_three {α : Type} {a b c : α} {l : List α} {n : Nat} : (a :: b :: c :: l).take (3 + n) = a :: b :: c :: l.take n := by rw [show 3 + n = n + 1 + 1 + 1 by omega]; rfl
theorem getD_three {α : Type} {a b c d : α} {l : List α} {n : Nat} : (a :: b :: c :: l).getD (3 + n) d = l.getD n d := by rw [show 3 + n = n + 1 + 1 + 1 by omega]; simp
theorem getD_two {α : Type} {a b d : α} {l : List α} {n : Nat} : (a :: b :: l).getD (2 + n) d = l.getD n d := by rw [show 2 + n = n + 1 + 1 by omega]; simp
theorem fc_zero {r : List MV} : (MV.int .i64 0 :: .int .i64 0 :: .str ⟨#[]⟩ :: .int .i64 0 :: .int .i64 0 :: .str ⟨#[]⟩ :: .int .i64 0 :: .int .i64 0 :: .str ⟨#[]⟩ :: .int .i64 0 :: .int .i64 0 :: .str ⟨#[]⟩ ::
  .int .i64 0 :: .int .i64 0 :: .str ⟨#[]⟩ :: .int .i64 0 :: .int .i64 0 :: .str ⟨#[]⟩ :: .int .i64 0 :: .int .i64 0 :: .str ⟨#[]⟩ :: .int .i64 0 :: .int .i64 0 :: .str ⟨#[]⟩ :: r) = fc f80 ++ r := rfl
abbrev PA.c (p : PA) : List MV := .int .u32 (p.mask.toNat : Int) :: .int .u32 (p.lab.toNat : Int) :: fc p.f
abbrev CA.c (c : CA) : List MV := .int .i64 c.id :: .int .i64 c.ver :: .int .u32 (c.lab.toNat : Int) :: fc c.f
abbrev ED.c (e : ED) : List MV := .int .i64 e.kd :: .int .i64 e.id :: .int .i64 e.gr :: .int .u32 (e.p.mask.toNat : Int) :: .int .u32 (e.p.lab.toNat : Int) :: fc e.p.f
theorem u32_int {a b : UInt32} : ((a.toNat : Int) = (b.toNat : Int)) ↔ a = b := by
 constructor
 ·intro h; exact UInt32.toNat_inj.1 (by exact_mod_cast h)
 ·intro h; rw [h]
end Go.Proofs.YtjljgahfkcdhfaaGreatDoor
end
