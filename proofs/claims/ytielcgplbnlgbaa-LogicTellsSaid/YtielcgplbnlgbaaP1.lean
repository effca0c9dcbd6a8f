/- Filters as data: values, nodes, their order; sorted lists without doubles. No program in sight. -/
import Derived.Test.YtielcgplbnlgbaaMl14
set_option linter.unusedVariables false
set_option linter.unusedSimpArgs false
namespace Go.Proofs.Ytielcgplbnlgbaa

structure VA where
  kd : Int
  n : Int
  s : ByteArray
  deriving DecidableEq
abbrev VA.c (v : VA) : List MV := [.int .i64 v.kd, .int .i64 v.n, .str v.s]
def va0 : VA := ⟨0, 0, ⟨#[]⟩⟩
structure ND where
  op : Int
  n : Int
  v : VA
  deriving DecidableEq
abbrev ND.c (x : ND) : List MV := [.int .i64 x.op, .int .i64 x.n, .int .i64 x.v.kd, .int .i64 x.v.n, .str x.v.s]
def nd0 : ND := ⟨0, 0, va0⟩

theorem getD_mapd {α : Type} {f : α → List MV} {l : List α} {n : Nat} (d : α) (h : n < l.length) : (l.map f).getD n [] = f (l.getD n d) := by simp [List.getD, h]
theorem dec_not_self {α : Sort _} [DecidableEq α] {a : α} : decide (¬ a = a) = false := by simp
theorem nd_ext {x y : ND} (h : x.op = y.op ∧ x.n = y.n ∧ x.v.kd = y.v.kd ∧ x.v.n = y.v.n ∧ x.v.s = y.v.s) : x = y := by
  obtain ⟨a, b, c, d, e⟩ := x
  obtain ⟨a', b', c', d', e'⟩ := y
  simp only at h
  obtain ⟨rfl, rfl, rfl, rfl, rfl⟩ := h
  rfl
theorem getD_of_lt {α : Type} {l : List α} {n : Nat} (d : α) (h : n < l.length) : l.getD n d = l[n] := by simp [List.getD, h]

theorem getD_mem {α : Type} {l : List α} {n : Nat} (d : α) (h : n < l.length) : l.getD n d ∈ l := by rw [getD_of_lt d h]; exact List.getElem_mem h
theorem all_take_succ {α : Type} {p : α → Bool} {l : List α} {i : Nat} (h : i < l.length) : (l.take (i + 1)).all p = ((l.take i).all p && p l[i]) := by
  rw [List.take_succ_eq_append_getElem h, List.all_append]; simp
theorem any_take_succ {α : Type} {p : α → Bool} {l : List α} {i : Nat} (h : i < l.length) : (l.take (i + 1)).any p = ((l.take i).any p || p l[i]) := by
  rw [List.take_succ_eq_append_getElem h, List.any_append]; simp

/-! ### Order -/
def VA.key (v : VA) : List Int := v.kd :: v.n :: v.s.toList.map fun b => (b.toNat : Int)
def ND.key (x : ND) : List Int := x.op :: x.n :: x.v.key

theorem bytes_inj {a b : ByteArray} (h : a.toList.map (fun b => (b.toNat : Int)) = b.toList.map fun b => (b.toNat : Int)) : a = b := by
  refine (toList_eq_iff a b).1 ?_
  exact (List.map_inj_right (fun x y h => by
    have : x.toNat = y.toNat := by exact_mod_cast h
    exact UInt8.toNat_inj.1 this)).1 h

theorem VA.key_inj {a b : VA} (h : a.key = b.key) : a = b := by
  simp only [VA.key, List.cons.injEq] at h
  obtain ⟨h1, h2, h3⟩ := h
  have := bytes_inj h3
  cases a; cases b; simp_all

theorem ND.key_inj {a b : ND} (h : a.key = b.key) : a = b := by
  simp only [ND.key, List.cons.injEq] at h
  obtain ⟨h1, h2, h3⟩ := h
  have := VA.key_inj h3
  cases a; cases b; simp_all

def ordI : Ordering → Int
  | .lt => -1
  | .eq => 0
  | .gt => 1

/-- Lists of numbers, as a dictionary has them. -/
def cmpL : List Int → List Int → Ordering
  | [], [] => .eq
  | [], _ :: _ => .lt
  | _ :: _, [] => .gt
  | a :: x, b :: y => if a < b then .lt else if b < a then .gt else cmpL x y

theorem cmpL_eq : ∀ {a b : List Int}, cmpL a b = .eq ↔ a = b
  | [], [] => by simp [cmpL]
  | [], _ :: _ => by simp [cmpL]
  | _ :: _, [] => by simp [cmpL]
  | a :: x, b :: y => by
    unfold cmpL
    split
    · simp; intro h; omega
    · split
      · simp; intro h; omega
      · rw [cmpL_eq]
        constructor
        · rintro rfl; have : a = b := by omega
          rw [this]
        · intro h; cases h; rfl

theorem cmpL_swap : ∀ {a b : List Int}, cmpL a b = (cmpL b a).swap
  | [], [] => rfl
  | [], _ :: _ => rfl
  | _ :: _, [] => rfl
  | a :: x, b :: y => by
    unfold cmpL
    by_cases h1 : a < b
    · rw [if_pos h1, if_neg (by omega), if_pos h1]; rfl
    · rw [if_neg h1]
      by_cases h2 : b < a
      · rw [if_pos h2, if_pos h2]; rfl
      · rw [if_neg h2, if_neg h2, if_neg h1]; exact cmpL_swap

theorem cmpL_trans : ∀ {a b c : List Int}, cmpL a b = .lt → cmpL b c = .lt → cmpL a c = .lt
  | [], [], c, h, _ => by simp [cmpL] at h
  | [], _ :: _, [], _, h => by simp [cmpL] at h
  | [], _ :: _, _ :: _, _, _ => by simp [cmpL]
  | _ :: _, [], c, h, _ => by simp [cmpL] at h
  | _ :: _, _ :: _, [], _, h => by simp [cmpL] at h
  | a :: x, b :: y, c :: z, h1, h2 => by
    unfold cmpL at h1 h2 ⊢
    split at h1
    · split at h2
      · rw [if_pos (by omega)]
      · split at h2
        · cases h2
        · rw [if_pos (by omega)]
    · split at h1
      · cases h1
      · split at h2
        · rw [if_pos (by omega)]
        · split at h2
          · cases h2
          · rw [if_neg (by omega), if_neg (by omega)]
            exact cmpL_trans h1 h2

theorem cmpL_refl (a : List Int) : cmpL a a = .eq := cmpL_eq.2 rfl

theorem cmpL_ne {a b : Int} {x y : List Int} (h : a ≠ b) : cmpL (a :: x) (b :: y) = cmpL [a] [b] := by
  unfold cmpL
  by_cases h1 : a < b
  · rw [if_pos h1, if_pos h1]
  · have h2 : b < a := by omega
    rw [if_neg h1, if_neg h1, if_pos h2, if_pos h2]
theorem cmpL_same {a : Int} {x y : List Int} : cmpL (a :: x) (a :: y) = cmpL x y := by
  rw [cmpL, if_neg (by omega), if_neg (by omega)]
/-- The bytes of a text as numbers. -/
def bk (s : ByteArray) : List Int := s.toList.map fun b => (b.toNat : Int)
theorem bk_length (s : ByteArray) : (bk s).length = s.size := by
  rw [bk, List.length_map]
  refine Nat.le_antisymm (Nat.le_of_not_lt fun h => ?_) (Nat.le_of_not_lt fun h => ?_)
  · have h1 := toList_get s s.size
    rw [List.getElem?_eq_getElem h] at h1
    have h2 : s[s.size]? = none := by simp
    rw [h2] at h1
    cases h1
  · have h1 := toList_get s s.toList.length
    rw [List.getElem?_eq_none (Nat.le_refl _)] at h1
    have h2 : s[s.toList.length]? = some s[s.toList.length] := by simp [h]
    rw [h2] at h1
    cases h1
theorem bk_getD {s : ByteArray} {n : Nat} (h : n < s.size) : ((s.toList.getD n 0).toNat : Int) = (bk s)[n]'(by rw [bk_length]; exact h) := by
  have hl : n < s.toList.length := by have := bk_length s; rw [bk, List.length_map] at this; omega
  simp [bk, List.getD, hl]
theorem bk_drop {s : ByteArray} {n : Nat} (h : n < s.size) : (bk s).drop n = ((s.toList.getD n 0).toNat : Int) :: (bk s).drop (n + 1) := by
  rw [List.drop_eq_getElem_cons (by rw [bk_length]; exact h), bk_getD h]

theorem bk_drop_nil {s : ByteArray} {n : Nat} (h : s.size ≤ n) : (bk s).drop n = [] := List.drop_eq_nil_of_le (by rw [bk_length]; exact h)

/-- Something with a key, in order. -/
def lessK (a b : List Int) : Prop := cmpL a b = .lt
instance (a b : List Int) : Decidable (lessK a b) := by unfold lessK; infer_instance
theorem lessK_irrefl {a : List Int} : ¬ lessK a a := by unfold lessK; rw [cmpL_refl]; simp
theorem lessK_trans {a b c : List Int} (h : lessK a b) (k : lessK b c) : lessK a c := cmpL_trans h k
theorem lessK_asymm {a b : List Int} (h : lessK a b) : ¬ lessK b a := fun k => lessK_irrefl (lessK_trans h k)
theorem lessK_total {a b : List Int} (h : ¬ lessK a b) (hne : a ≠ b) : lessK b a := by
  unfold lessK at *
  cases e : cmpL a b
  · exact absurd e h
  · exact absurd (cmpL_eq.1 e) hne
  · rw [cmpL_swap, e]; rfl

theorem bytesLess_cmp : ∀ (x y : List UInt8), Op.bytesLess x y = decide (cmpL (x.map fun b => (b.toNat : Int)) (y.map fun b => (b.toNat : Int)) = .lt)
  | [], [] => by simp [Op.bytesLess, cmpL]
  | _ :: _, [] => by simp [Op.bytesLess, cmpL]
  | [], _ :: _ => by simp [Op.bytesLess, cmpL]
  | a :: x, b :: y => by
    simp only [Op.bytesLess, List.map_cons, cmpL]
    rw [bytesLess_cmp x y]
    have hlt : (a < b) ↔ (a.toNat : Int) < b.toNat := by
      rw [UInt8.lt_iff_toNat_lt]; omega
    have heq : (a = b) ↔ (a.toNat : Int) = b.toNat := by
      constructor
      · rintro rfl; rfl
      · intro h; exact UInt8.toNat_inj.1 (by exact_mod_cast h)
    by_cases h1 : (a.toNat : Int) < b.toNat
    · have := hlt.2 h1
      rw [if_pos h1]; simp [this]
    · have h1' : ¬ a < b := fun h => h1 (hlt.1 h)
      rw [if_neg h1]
      by_cases h2 : (b.toNat : Int) < a.toNat
      · have : a ≠ b := fun h => by have := heq.1 h; omega
        rw [if_pos h2]; simp [h1', this]
      · have : a = b := heq.2 (by omega)
        rw [if_neg h2]; simp [h1', this]

/-! ### Sorted lists without doubles -/
def Rising (l : List (List Int)) : Prop := l.Pairwise lessK

theorem rising_unique : ∀ {l m : List (List Int)}, Rising l → Rising m → (∀ x, x ∈ l ↔ x ∈ m) → l = m
  | [], [], _, _, _ => rfl
  | [], y :: m, _, _, h => by have := (h y).2 (List.mem_cons_self ..); cases this
  | x :: l, [], _, _, h => by have := (h x).1 (List.mem_cons_self ..); cases this
  | x :: l, y :: m, h1, h2, h => by
    obtain ⟨a1, b1⟩ := List.pairwise_cons.1 h1
    obtain ⟨a2, b2⟩ := List.pairwise_cons.1 h2
    have e : x = y := by
      rcases List.mem_cons.1 ((h x).1 (List.mem_cons_self ..)) with e | e
      · exact e
      · rcases List.mem_cons.1 ((h y).2 (List.mem_cons_self ..)) with e' | e'
        · exact e'.symm
        · exact absurd (a1 y e') (lessK_asymm (a2 x e))
    subst e
    congr 1
    refine rising_unique b1 b2 fun z => ⟨fun hz => ?_, fun hz => ?_⟩
    · rcases List.mem_cons.1 ((h z).1 (List.mem_cons_of_mem _ hz)) with e | e
      · subst e; exact absurd (a1 z hz) lessK_irrefl
      · exact e
    · rcases List.mem_cons.1 ((h z).2 (List.mem_cons_of_mem _ hz)) with e | e
      · subst e; exact absurd (a2 z hz) lessK_irrefl
      · exact e

/-- One more, in its place. -/
def insK (x : List Int) : List (List Int) → List (List Int)
  | [] => [x]
  | y :: r => if lessK y x then y :: insK x r else if y = x then y :: r else x :: y :: r

theorem mem_insK {x z : List Int} : ∀ {l : List (List Int)}, z ∈ insK x l ↔ z = x ∨ z ∈ l
  | [] => by simp [insK]
  | y :: r => by
    unfold insK
    split
    · rw [List.mem_cons, mem_insK, List.mem_cons]
      constructor
      · rintro (h | h | h)
        · exact .inr (.inl h)
        · exact .inl h
        · exact .inr (.inr h)
      · rintro (h | h | h)
        · exact .inr (.inl h)
        · exact .inl h
        · exact .inr (.inr h)
    · split
      · rename_i h; subst h; simp
      · simp

theorem rising_insK {x : List Int} : ∀ {l : List (List Int)}, Rising l → Rising (insK x l)
  | [], _ => by simp [insK, Rising]
  | y :: r, h => by
    obtain ⟨a, b⟩ := List.pairwise_cons.1 h
    unfold insK
    split
    · rename_i hl
      refine List.pairwise_cons.2 ⟨fun z hz => ?_, rising_insK b⟩
      rcases mem_insK.1 hz with rfl | hz
      · exact hl
      · exact a z hz
    · split
      · exact h
      · rename_i h1 h2
        have hxy := lessK_total h1 h2
        refine List.pairwise_cons.2 ⟨fun z hz => ?_, h⟩
        rcases List.mem_cons.1 hz with rfl | hz
        · exact hxy
        · exact lessK_trans hxy (a z hz)
end Go.Proofs.Ytielcgplbnlgbaa
