/- Parts of the proof, joined: each part says what it proves, and under which conditions. -/
import Derived.Test.YtielcgplbnlgbaaNob
import Derived.RangeFuncIn
import Derived.RangeFuncSeq
section
/- Ghost steps for rows whose elements are rows: an element that was grown apart is frozen. -/
set_option linter.unusedVariables false
set_option linter.unusedSimpArgs false
namespace Go.Proofs.Ytielcgplbnlgbaa

theorem Weak.view {σ : St} {m m' : MV} (h : Weak m m') : View σ m m' := by
  cases h with
  | same => exact .same _
  | junk => exact .junk _
  | nil e t => exact .nil e t
  | tight e xs => exact .tight e xs

/-- An element's one cell, grown apart, is frozen. -/
theorem Ghost.nest {n : Nat} {l l1 : List (Nat × MV)} {d : List (FuncId × List MV)} {σ : St} {q m : Nat} {t t1 : TypeId} {e1 : Nat} {pre post ys : List (List MV)} {n1 : Nat} (σ2 : St)
    (hm : σ m = some (.row t1 e1 ys)) (hq : σ q = some (.row t 1 (pre ++ [.vec e1 m 0 n1] :: post))) (hn : n1 = ys.length) (h2 : σ2.le σ) (h2m : σ2 m = none) (hne : q ≠ m)
    (hw : ∀ p, p ∈ l1 → Weak (lget l p.1) p.2) : Ghost ⟨n, l, d⟩ σ ⟨n, l1, d⟩ (σ2.set q (.row t 1 (pre ++ [.lst e1 ys false] :: post))) := by
  subst hn
  have hv : (St.none.set m (.row t1 e1 ys)) m = some (.row t1 e1 ys) := set_hit _ _ _
  refine Ghost.freezeIn (St.none.set m (.row t1 e1 ys)) (St.set_le (St.none_le _) hm) (fun k o1 hk => ?_) (fun k o hk => ?_) fun p hp => (hw p hp).view
  · by_cases h : k = q
    · subst h
      rw [set_hit] at hk
      cases hk
      refine ⟨_, hq, .inr ⟨t, 1, _, _, rfl, rfl, by simp, fun i x x1 hx hx1 => ?_⟩⟩
      rcases Nat.lt_trichotomy i pre.length with hi | hi | hi
      · rw [List.getElem?_append_left hi] at hx hx1
        rw [hx] at hx1; cases hx1
        exact ⟨rfl, fun j a b ha hb => by rw [ha] at hb; cases hb; exact .inl rfl⟩
      · subst hi
        rw [List.getElem?_append_right (Nat.le_refl _), Nat.sub_self] at hx hx1
        simp only [List.getElem?_cons_zero, Option.some.injEq] at hx hx1
        subst hx; subst hx1
        refine ⟨rfl, fun j a b ha hb => ?_⟩
        cases j with
        | zero =>
          simp only [List.getElem?_cons_zero, Option.some.injEq] at ha hb
          subst ha; subst hb
          exact .inr ⟨rfl, .vecAll hv rfl⟩
        | succ j => simp at ha
      · rw [List.getElem?_append_right (by omega)] at hx hx1
        obtain ⟨j, hj⟩ : ∃ j, i - pre.length = j + 1 := ⟨i - pre.length - 1, by omega⟩
        rw [hj, List.getElem?_cons_succ] at hx hx1
        rw [hx] at hx1; cases hx1
        exact ⟨rfl, fun j a b ha hb => by rw [ha] at hb; cases hb; exact .inl rfl⟩
    · rw [set_miss _ _ _ _ h] at hk
      exact ⟨o1, h2 k o1 hk, .inl rfl⟩
  · by_cases h : k = m
    · subst h
      by_cases hq' : k = q
      · exact absurd hq'.symm hne
      · rw [set_miss _ _ _ _ hq', h2m] at hk; cases hk
    · exact set_miss _ _ _ _ h ▸ rfl
/-- A call whose arguments are seen as more than they are: what they lie in is given away. -/
theorem MCalls.pre {P : Program} {g : FuncId} {ms ms' : List MV} {σ σ2 : St} {Q : MV → St → Prop} (hl : ms.length = ms'.length) (hg : Ghost ⟨ms.length, args0 0 ms, []⟩ σ ⟨ms.length, args0 0 ms', []⟩ σ2) (h : MCalls P g ms' σ2 Q) : MCalls P g ms σ Q := by
  refine ⟨h.1, fun Φ w vs hi hr => ?_⟩
  obtain ⟨-, hg⟩ := hg
  obtain ⟨Φ1, i1, r1, s1⟩ := hg Φ w vs hi ⟨hr.1, fun t => by
    simp only [FR.get, args0_get, Nat.sub_zero, Nat.zero_le, if_true]
    cases hm : ms[t]? with
    | none => exact .junk _
    | some m => exact hr.2 t m hm⟩
  refine (h.2 Φ1 w vs i1 ⟨hr.1.trans hl, fun i m hm => ?_⟩).mono ?_
  · have := r1.2 i
    simp only [FR.get, args0_get, Nat.sub_zero, Nat.zero_le, if_true, hm] at this
    exact this
  · rintro e w' ⟨v, mv, σ', Φ', rfl, q1, q2, q3, hq⟩
    exact ⟨v, mv, σ', Φ', rfl, q1, q2, s1.trans q3, hq⟩

theorem mem_args0 : ∀ {ms : List MV} {i : Nat} {p : Nat × MV}, p ∈ args0 i ms → ∃ j, p.1 = i + j ∧ ms[j]? = some p.2
  | [], _, _, h => by simp [args0] at h
  | m :: ms, i, p, h => by
    rw [args0, List.mem_cons] at h
    rcases h with rfl | h
    · exact ⟨0, rfl, rfl⟩
    · obtain ⟨j, h1, h2⟩ := mem_args0 h
      exact ⟨j + 1, by omega, by simpa using h2⟩

theorem use_give {P : Program} {g : FuncId} {ms : List MV} (ms' : List MV) {σ : St} (σv σ2 : St) {r : MV} {k : MV → St → Prop} (h : MCalls P g ms' St.none fun v _ => v = r) (hle : σv.le σ) (h2 : σ2.le σ) (hd : ∀ k o, σ2 k = some o → σv k = none)
    (hl : ms.length = ms'.length) (hv : ∀ (i : Nat) (m m' : MV), ms[i]? = some m → ms'[i]? = some m' → View σv m m') (hk : R (mlet r σ2 k)) : R (mcallE P g ms σ k) := by
  refine MCalls.pre hl (Ghost.freeze σv hle h2 hd fun p hp => ?_) (use_pure h hk)
  obtain ⟨j, h1, h3⟩ := mem_args0 hp
  rw [h1, args0_get]
  simp only [Nat.zero_add, Nat.zero_le, if_true, Nat.sub_zero]
  have hj := (List.getElem?_eq_some_iff.1 h3).1
  obtain ⟨m, hm⟩ : ∃ m, ms[j]? = some m := ⟨ms[j]'(by omega), by simp⟩
  rw [hm]
  exact hv j m _ hm h3

/-- One place is given away. -/
theorem use_give1 {P : Program} {g : FuncId} {ms : List MV} (ms' : List MV) {σ : St} (l : Nat) {o : MObj} {r : MV} {k : MV → St → Prop} (h : MCalls P g ms' St.none fun v _ => v = r) (ho : σ l = some o)
    (hl : ms.length = ms'.length) (hv : ∀ (i : Nat) (m m' : MV), ms[i]? = some m → ms'[i]? = some m' → View (St.none.set l o) m m') (hk : R (mlet r (σ.del l) k)) : R (mcallE P g ms σ k) :=
  use_give ms' (St.none.set l o) (σ.del l) h (St.set_le (St.none_le _) ho) (fun j q hq => by
    simp only [St.del] at hq
    split at hq
    · cases hq
    · exact hq) (fun j q hq => by
    simp only [St.del] at hq
    split at hq
    · cases hq
    · exact set_miss _ _ _ _ (by assumption)) hl hv hk

/-- Nothing is given away. -/
theorem use_weak {P : Program} {g : FuncId} {ms : List MV} (ms' : List MV) {σ : St} {r : MV} {k : MV → St → Prop} (h : MCalls P g ms' St.none fun v _ => v = r)
    (hl : ms.length = ms'.length) (hv : ∀ (i : Nat) (m m' : MV), ms[i]? = some m → ms'[i]? = some m' → View St.none m m') (hk : R (mlet r σ k)) : R (mcallE P g ms σ k) :=
  use_give ms' St.none σ h (St.none_le _) (St.le_refl _) (fun _ _ _ => rfl) hl hv hk

theorem views_one {σ : St} {a a' : MV} (h : View σ a a') : ∀ (i : Nat) (m m' : MV), [a][i]? = some m → [a'][i]? = some m' → View σ m m' := fun i m m' h1 h2 => by
  match i, h1, h2 with
  | 0, h1, h2 => simp only [List.getElem?_cons_zero, Option.some.injEq] at h1 h2; subst h1 h2; exact h
theorem views_two {σ : St} {a b a' b' : MV} (h : View σ a a') (k : View σ b b') : ∀ (i : Nat) (m m' : MV), [a, b][i]? = some m → [a', b'][i]? = some m' → View σ m m' := fun i m m' h1 h2 => by
  match i, h1, h2 with
  | 0, h1, h2 => simp only [List.getElem?_cons_zero, Option.some.injEq] at h1 h2; subst h1 h2; exact h
  | 1, h1, h2 => simp only [List.getElem?_cons_succ, List.getElem?_cons_zero, Option.some.injEq] at h1 h2; subst h1 h2; exact k
theorem views_three {σ : St} {a b c a' b' c' : MV} (h : View σ a a') (k : View σ b b') (k2 : View σ c c') : ∀ (i : Nat) (m m' : MV), [a, b, c][i]? = some m → [a', b', c'][i]? = some m' → View σ m m' := fun i m m' h1 h2 => by
  match i, h1, h2 with
  | 0, h1, h2 => simp only [List.getElem?_cons_zero, Option.some.injEq] at h1 h2; subst h1 h2; exact h
  | 1, h1, h2 => simp only [List.getElem?_cons_succ, List.getElem?_cons_zero, Option.some.injEq] at h1 h2; subst h1 h2; exact k
  | 2, h1, h2 => simp only [List.getElem?_cons_succ, List.getElem?_cons_zero, Option.some.injEq] at h1 h2; subst h1 h2; exact k2
end Go.Proofs.Ytielcgplbnlgbaa
end

section
/- What filters say; their atoms in order, each once. No program in sight. -/
set_option linter.unusedVariables false
set_option linter.unusedSimpArgs false
namespace Go.Proofs.Ytielcgplbnlgbaa

def isAtom (x : ND) : Bool := decide (parts x.op = 0 ∧ x.op ≠ 1 ∧ x.op ≠ 2)
def atomR (x : ND) : Bool := decide (3 ≤ x.op ∧ x.op ≤ 9)

theorem atom_same {x : ND} (h : ndOk x = true) : isAtom x = atomR x := by
  have hr := op_range h
  unfold isAtom atomR parts
  rw [Bool.eq_iff_iff, decide_eq_true_eq, decide_eq_true_eq]
  constructor
  · rintro ⟨h1, h2, h3⟩
    split at h1
    · cases h1
    · split at h1
      · cases h1
      · omega
  · intro h1
    rw [if_neg (by omega), if_neg (by omega)]
    omega

/-- What a tree says, its atoms asked. -/
def T.sem (av : ND → Bool) : T → Bool
  | .leaf x => if x.op = 1 then true else if x.op = 2 then false else av x
  | .one x a => !a.sem av
  | .two x a b => if x.op = 11 then a.sem av && b.sem av else a.sem av || b.sem av

theorem sem_congr {av av' : ND → Bool} : ∀ (t : T), t.ok → (∀ x, x ∈ t.fl → isAtom x = true → av x = av' x) → t.sem av = t.sem av'
  | .leaf x, hok, h => by
    simp only [T.sem]
    split
    · rfl
    · split
      · rfl
      · exact h x (by simp [T.fl]) (by simp only [isAtom, decide_eq_true_eq]; exact ⟨hok, by assumption, by assumption⟩)
  | .one x a, hok, h => by
    simp only [T.sem]
    rw [sem_congr a hok.2 fun y hy => h y (by simp only [T.fl, List.mem_cons]; exact .inr hy)]
  | .two x a b, hok, h => by
    simp only [T.sem]
    rw [sem_congr a hok.2.1 fun y hy => h y (by simp only [T.fl, List.mem_cons, List.mem_append]; exact .inr (.inl hy)), sem_congr b hok.2.2 fun y hy => h y (by simp only [T.fl, List.mem_cons, List.mem_append]; exact .inr (.inr hy))]

/-! ### In order, each once -/
def insN (x : ND) : List ND → List ND
  | [] => [x]
  | y :: r => if lessK y.key x.key then y :: insN x r else if y = x then y :: r else x :: y :: r

theorem insN_key (x : ND) : ∀ l : List ND, (insN x l).map ND.key = insK x.key (l.map ND.key)
  | [] => rfl
  | y :: r => by
    simp only [insN, List.map_cons, insK]
    split
    · rw [List.map_cons, insN_key x r]
    · split
      · rename_i h; subst h; simp
      · rw [if_neg (fun e => by have := ND.key_inj e; contradiction)]
        rfl

def atomsS (l : List ND) : List ND := (l.filter isAtom).foldl (fun acc x => insN x acc) []

theorem fold_rising : ∀ (l acc : List ND), Rising (acc.map ND.key) → Rising ((l.foldl (fun acc x => insN x acc) acc).map ND.key)
  | [], acc, h => h
  | x :: r, acc, h => fold_rising r (insN x acc) (by rw [insN_key]; exact rising_insK h)

theorem mem_insN {x z : ND} : ∀ {l : List ND}, z ∈ insN x l ↔ z = x ∨ z ∈ l
  | [] => by simp [insN]
  | y :: r => by
    unfold insN
    split
    · rw [List.mem_cons, mem_insN, List.mem_cons]
      constructor
      · rintro (h | h | h)
        · exact .inr (.inl h)
        · exact .inl h
        · exact .inr (.inr h)
      · rintro (h | h | h)
        · exact .inr (.inl h)
        · exact .inl h
        · exact .inr (.inr h)
    · split
      · rename_i h; subst h; simp
      · simp

theorem mem_fold {z : ND} : ∀ {l acc : List ND}, z ∈ l.foldl (fun acc x => insN x acc) acc ↔ z ∈ l ∨ z ∈ acc
  | [], acc => by simp
  | x :: r, acc => by
    rw [List.foldl_cons, mem_fold, mem_insN, List.mem_cons]
    constructor
    · rintro (h | h | h)
      · exact .inl (.inr h)
      · exact .inl (.inl h)
      · exact .inr h
    · rintro ((h | h) | h)
      · exact .inr (.inl h)
      · exact .inl h
      · exact .inr (.inr h)

theorem atoms_rising (l : List ND) : Rising ((atomsS l).map ND.key) := fold_rising _ [] (by simp [Rising])
theorem mem_atoms {l : List ND} {z : ND} : z ∈ atomsS l ↔ z ∈ l ∧ isAtom z = true := by
  rw [atomsS, mem_fold, List.mem_filter]; simp

theorem nd_unique {l m : List ND} (h1 : Rising (l.map ND.key)) (h2 : Rising (m.map ND.key)) (h : ∀ x, x ∈ l ↔ x ∈ m) : l = m := by
  have := rising_unique h1 h2 fun k => by
    simp only [List.mem_map]
    constructor
    · rintro ⟨x, hx, rfl⟩; exact ⟨x, (h x).1 hx, rfl⟩
    · rintro ⟨x, hx, rfl⟩; exact ⟨x, (h x).2 hx, rfl⟩
  exact (List.map_inj_right (fun _ _ e => ND.key_inj e)).1 this

/-- Of neighbours that are alike the first. -/
def compS : List ND → List ND
  | [] => []
  | [x] => [x]
  | x :: y :: r => if y = x then compS (x :: r) else x :: compS (y :: r)

theorem compS_snoc : ∀ (n : Nat) (l : List ND), l.length ≤ n → ∀ y x, compS (l ++ [y, x]) = if x = y then compS (l ++ [y]) else compS (l ++ [y]) ++ [x]
  | _, [], _, y, x => by
    simp only [List.nil_append, compS]
    split <;> rfl
  | n, [z], _, y, x => by
    by_cases h1 : y = z <;> by_cases h2 : x = y
    · subst h1 h2; simp [compS]
    · subst h1; simp [compS, h2]
    · subst h2; simp [compS, h1]
    · simp [compS, h1, h2]
  | 0, _ :: _ :: _, h, _, _ => by simp at h
  | n + 1, z :: w :: r, h, y, x => by
    simp only [List.length_cons] at h
    have e1 := compS_snoc n (z :: r) (by simp; omega) y x
    have e2 := compS_snoc n (w :: r) (by simp; omega) y x
    simp only [List.cons_append] at e1 e2 ⊢
    by_cases hwz : w = z
    · have a : ∀ t, compS (z :: w :: t) = compS (z :: t) := fun t => by rw [compS, if_pos hwz]
      rw [a, a, e1]
    · have a : ∀ t, compS (z :: w :: t) = z :: compS (w :: t) := fun t => by rw [compS, if_neg hwz]
      rw [a, a, e2]
      split <;> simp

/-- None is less than one ahead. -/
def Sorted (l : List ND) : Prop := l.Pairwise fun a b => ¬ lessK b.key a.key

theorem mem_compS : ∀ (n : Nat) (l : List ND), l.length ≤ n → ∀ z, z ∈ compS l ↔ z ∈ l
  | 0, l, h, z => by
    have : l = [] := List.eq_nil_of_length_eq_zero (by omega)
    subst this; simp [compS]
  | n + 1, [], h, z => by simp [compS]
  | n + 1, [x], h, z => by simp [compS]
  | n + 1, x :: y :: r, h, z => by
    simp only [List.length_cons] at h
    unfold compS
    split
    · rename_i e; subst e
      rw [mem_compS n (y :: r) (by simp; omega)]
      simp
    · rw [List.mem_cons, mem_compS n (y :: r) (by simp; omega)]
      simp only [List.mem_cons]

theorem compS_rising : ∀ (n : Nat) (l : List ND), l.length ≤ n → Sorted l → Rising ((compS l).map ND.key)
  | 0, l, h, _ => by
    have : l = [] := List.eq_nil_of_length_eq_zero (by omega)
    subst this; simp [compS, Rising]
  | n + 1, [], h, _ => by simp [compS, Rising]
  | n + 1, [x], h, _ => by simp [compS, Rising]
  | n + 1, x :: y :: r, h, hs => by
    simp only [List.length_cons] at h
    obtain ⟨h1, h2⟩ := List.pairwise_cons.1 hs
    unfold compS
    split
    · rename_i e; subst e
      exact compS_rising n (y :: r) (by simp; omega) h2
    · rename_i hne
      have ih := compS_rising n (y :: r) (by simp; omega) h2
      rw [List.map_cons]
      refine List.pairwise_cons.2 ⟨fun k hk => ?_, ih⟩
      obtain ⟨z, hz, rfl⟩ := List.mem_map.1 hk
      have hz' := (mem_compS n (y :: r) (by simp; omega) z).1 hz
      have hxy : lessK x.key y.key := lessK_total (h1 y (List.mem_cons_self ..)) (fun e => hne (ND.key_inj e))
      rcases List.mem_cons.1 hz' with rfl | hz'
      · exact hxy
      · have h3 := (List.pairwise_cons.1 h2).1 z hz'
        by_cases e : y.key = z.key
        · rw [← e]; exact hxy
        · exact lessK_trans hxy (lessK_total h3 (fun q => e q.symm))

/-- The sorted list, each once, of the atoms. -/
theorem comp_atoms {l m : List ND} (hp : m.Perm (l.filter isAtom)) (hs : Sorted m) : compS m = atomsS l :=
  nd_unique (compS_rising m.length m (Nat.le_refl _) hs) (atoms_rising l) fun x => by
    rw [mem_compS m.length m (Nat.le_refl _), hp.mem_iff, mem_atoms, List.mem_filter]
end Go.Proofs.Ytielcgplbnlgbaa
end

section
/- Words and tables of bits; what trees say of sets of atoms. No program in sight. -/
set_option linter.unusedVariables false
set_option linter.unusedSimpArgs false
namespace Go.Proofs.Ytielcgplbnlgbaa

/-- The word whose bits are told. -/
def wd (g : Nat → Bool) : Nat → Nat
  | 0 => 0
  | n + 1 => wd g n ||| (if g n = true then 2 ^ n else 0)

theorem wd_bit (g : Nat → Bool) : ∀ (n j : Nat), (wd g n).testBit j = (decide (j < n) && g j)
  | 0, j => by simp [wd]
  | n + 1, j => by
    rw [wd, Nat.testBit_or, wd_bit g n j]
    have e : (if g n = true then 2 ^ n else 0 : Nat).testBit j = (decide (j = n) && g n) := by
      cases g n
      · simp
      · simp only [if_true, Nat.testBit_two_pow, Bool.and_true]
        exact decide_eq_decide.mpr ⟨fun h => h.symm, fun h => h.symm⟩
    rw [e]
    by_cases h : j = n
    · subst h; simp
    · have : decide (j < n + 1) = decide (j < n) := decide_eq_decide.mpr ⟨fun _ => by omega, fun _ => by omega⟩
      rw [this]
      simp [h]

theorem wd_lt (g : Nat → Bool) : ∀ n, wd g n < 2 ^ n
  | 0 => by simp [wd]
  | n + 1 => by
    rw [wd]
    refine Nat.or_lt_two_pow (Nat.lt_of_lt_of_le (wd_lt g n) (Nat.pow_le_pow_right (by omega) (by omega))) ?_
    split
    · exact Nat.pow_lt_pow_right (by omega) (by omega)
    · exact Nat.two_pow_pos _

theorem wd_ext {g h : Nat → Bool} {n : Nat} (e : ∀ j, j < n → g j = h j) : wd g n = wd h n := by
  refine Nat.eq_of_testBit_eq fun j => ?_
  rw [wd_bit, wd_bit]
  by_cases hj : j < n
  · rw [e j hj]
  · simp [hj]

theorem wd_and (g h : Nat → Bool) (n : Nat) : wd g n &&& wd h n = wd (fun j => g j && h j) n := by
  refine Nat.eq_of_testBit_eq fun j => ?_
  rw [Nat.testBit_and, wd_bit, wd_bit, wd_bit]
  cases decide (j < n) <;> simp

theorem wd_or (g h : Nat → Bool) (n : Nat) : wd g n ||| wd h n = wd (fun j => g j || h j) n := by
  refine Nat.eq_of_testBit_eq fun j => ?_
  rw [Nat.testBit_or, wd_bit, wd_bit, wd_bit]
  cases decide (j < n) <;> simp

theorem wd_not (g : Nat → Bool) (n : Nat) : (2 ^ n - 1) ^^^ wd g n = wd (fun j => !g j) n := by
  refine Nat.eq_of_testBit_eq fun j => ?_
  rw [Nat.testBit_xor, wd_bit, wd_bit, Nat.testBit_two_pow_sub_one]
  cases decide (j < n) <;> simp

theorem wd_zero (n : Nat) : wd (fun _ => false) n = 0 := by
  refine Nat.eq_of_testBit_eq fun j => ?_
  rw [wd_bit]; simp

theorem wd_ones (n : Nat) : wd (fun _ => true) n = 2 ^ n - 1 := by
  refine Nat.eq_of_testBit_eq fun j => ?_
  rw [wd_bit, Nat.testBit_two_pow_sub_one]; simp

theorem wd_inj {g h : Nat → Bool} {n : Nat} (e : wd g n = wd h n) : ∀ j, j < n → g j = h j := fun j hj => by
  have := congrArg (·.testBit j) e
  simpa [wd_bit, hj] using this

theorem wd_iff0 {g : Nat → Bool} {n : Nat} : wd g n = 0 ↔ ∀ j, j < n → g j = false :=
  ⟨fun h => wd_inj (h.trans (wd_zero n).symm), fun h => (wd_ext h).trans (wd_zero n)⟩

/-- A table's word. -/
def tw (f : Nat → Bool) (i : Nat) : Nat := wd (fun j => f (64 * i + j)) 64
theorem tw_lt (f : Nat → Bool) (i : Nat) : tw f i < 18446744073709551616 := wd_lt _ 64
theorem tw_all {f g : Nat → Bool} : (∀ i, i < 16 → tw f i = tw g i) ↔ ∀ on, on < 1024 → f on = g on := by
  constructor
  · intro h on hon
    have := wd_inj (h (on / 64) (by omega)) (on % 64) (by omega)
    rwa [show 64 * (on / 64) + on % 64 = on by omega] at this
  · intro h i hi
    exact wd_ext fun j hj => h _ (by omega)
theorem tw_le {f g : Nat → Bool} : (∀ i, i < 16 → wd (fun j => f (64 * i + j) && !g (64 * i + j)) 64 = 0) ↔ ∀ on, on < 1024 → f on = true → g on = true := by
  constructor
  · intro h on hon hf
    have := wd_iff0.1 (h (on / 64) (by omega)) (on % 64) (by omega)
    rw [show 64 * (on / 64) + on % 64 = on by omega, hf] at this
    simpa using this
  · intro h i hi
    refine wd_iff0.2 fun j hj => ?_
    have := h (64 * i + j) (by omega)
    cases hf : f (64 * i + j)
    · rfl
    · rw [this hf]; rfl

theorem add_bit {i j p : Nat} (hj : j < 64) : (64 * i + j).testBit p = if p < 6 then j.testBit p else i.testBit (p - 6) := by
  rw [show 64 = 2 ^ 6 from rfl, Nat.testBit_two_pow_mul_add (j := p) (b := j) (i := 6) i hj]

/-- Place of an atom, sets of atoms. -/
def posK (l : List ND) (x : ND) : Nat := l.findIdx fun y => !decide (lessK y.key x.key)
def asg (l : List ND) (on : Nat) (x : ND) : Bool := decide (x ∈ l) && on.testBit (posK l x)

theorem posK_lt {l : List ND} (h : Rising (l.map ND.key)) {x : ND} (hx : x ∈ l) : posK l x < l.length :=
  List.findIdx_lt_length_of_exists ⟨x, hx, by simp [lessK_irrefl]⟩

theorem asg_mod {l : List ND} (h : Rising (l.map ND.key)) {n : Nat} (hn : l.length ≤ n) (on : Nat) (x : ND) : asg l (on % 2 ^ n) x = asg l on x := by
  unfold asg
  by_cases hx : x ∈ l
  · have := posK_lt h hx
    rw [Nat.testBit_mod_two_pow]
    simp [show posK l x < n by omega]
  · simp [hx]

theorem sem_mod {l : List ND} (h : Rising (l.map ND.key)) {n : Nat} (hn : l.length ≤ n) (on : Nat) (t : T) : t.sem (asg l (on % 2 ^ n)) = t.sem (asg l on) := by
  rw [show asg l (on % 2 ^ n) = asg l on from funext fun x => asg_mod h hn on x]

theorem all_mod {l : List ND} (h : Rising (l.map ND.key)) (hl : l.length ≤ 10) {p : Nat → Bool} (hp : ∀ on, p (on % 2 ^ l.length) = p on) : (∀ on, on < 1024 → p on = true) ↔ ∀ on, on < 2 ^ l.length → p on = true := by
  have h1 : 2 ^ l.length ≤ 1024 := by
    have := Nat.pow_le_pow_right (n := 2) (by omega) hl
    simpa using this
  constructor
  · exact fun k on hon => k on (by omega)
  · exact fun k on _ => by rw [← hp]; exact k _ (Nat.mod_lt _ (Nat.two_pow_pos _))

/-- What Implies tells of two trees that are fit, with not too many atoms. -/
def impB (l : List ND) (s t : T) : Bool := decide (∀ on, on < 2 ^ l.length → (!s.sem (asg l on) || t.sem (asg l on)) = true)
theorem impB_1024 {l : List ND} (h : Rising (l.map ND.key)) (hl : l.length ≤ 10) (s t : T) : impB l s t = (List.range 1024).all fun on => !s.sem (asg l on) || t.sem (asg l on) := by
  unfold impB
  rw [Bool.eq_iff_iff, decide_eq_true_eq, List.all_eq_true, ← all_mod h hl (p := fun on => !s.sem (asg l on) || t.sem (asg l on)) (fun on => by simp only [sem_mod h (Nat.le_refl _)])]
  simp only [List.mem_range]
end Go.Proofs.Ytielcgplbnlgbaa
end

section
/- Forms of filters. No program in sight. -/
set_option linter.unusedVariables false
set_option linter.unusedSimpArgs false
namespace Go.Proofs.Ytielcgplbnlgbaa

def nd (op : Int) : ND := ⟨op, 0, va0⟩
def T.root : T → ND
  | .leaf x => x
  | .one x _ => x
  | .two x _ _ => x
def T.kids : T → List T
  | .leaf _ => []
  | .one _ a => [a]
  | .two _ a b => [a, b]

theorem T.fl_kids (t : T) : t.fl = t.root :: (t.kids.map T.fl).flatten := by cases t <;> simp [T.fl, T.kids, T.root]
theorem T.ok_kids {t : T} (h : t.ok) : t.kids.length = parts t.root.op ∧ ∀ k, k ∈ t.kids → k.ok := by
  cases t with
  | leaf x => simp only [T.ok] at h; simp [T.kids, T.root, h]
  | one x a => simp only [T.ok] at h; simp [T.kids, T.root, h.1, h.2]
  | two x a b => simp only [T.ok] at h; simp [T.kids, T.root, h.1, h.2.1, h.2.2]

/-- What a tree's nodes say tells the tree. -/
theorem fl_inj : ∀ (t u : T) (r s : List ND), t.ok → u.ok → t.fl ++ r = u.fl ++ s → t = u ∧ r = s
  | .leaf x, .leaf y, r, s, ht, hu, h => by simp only [T.fl, List.cons_append, List.nil_append, List.cons.injEq] at h; exact ⟨by rw [h.1], h.2⟩
  | .leaf x, .one y b, r, s, ht, hu, h => by simp only [T.fl, List.cons_append, List.cons.injEq] at h; simp only [T.ok] at ht hu; rw [h.1] at ht; omega
  | .leaf x, .two y b c, r, s, ht, hu, h => by simp only [T.fl, List.cons_append, List.cons.injEq] at h; simp only [T.ok] at ht hu; rw [h.1] at ht; omega
  | .one x a, .leaf y, r, s, ht, hu, h => by simp only [T.fl, List.cons_append, List.cons.injEq] at h; simp only [T.ok] at ht hu; rw [h.1] at ht; omega
  | .one x a, .one y b, r, s, ht, hu, h => by
    simp only [T.fl, List.cons_append, List.cons.injEq] at h
    obtain ⟨e1, e2⟩ := fl_inj a b r s ht.2 hu.2 h.2
    exact ⟨by rw [h.1, e1], e2⟩
  | .one x a, .two y b c, r, s, ht, hu, h => by simp only [T.fl, List.cons_append, List.cons.injEq] at h; simp only [T.ok] at ht hu; rw [h.1] at ht; omega
  | .two x a a', .leaf y, r, s, ht, hu, h => by simp only [T.fl, List.cons_append, List.cons.injEq] at h; simp only [T.ok] at ht hu; rw [h.1] at ht; omega
  | .two x a a', .one y b, r, s, ht, hu, h => by simp only [T.fl, List.cons_append, List.cons.injEq] at h; simp only [T.ok] at ht hu; rw [h.1] at ht; omega
  | .two x a a', .two y b b', r, s, ht, hu, h => by
    simp only [T.fl, List.cons_append, List.cons.injEq, List.append_assoc] at h
    obtain ⟨e1, e2⟩ := fl_inj a b _ _ ht.2.1 hu.2.1 h.2
    obtain ⟨e3, e4⟩ := fl_inj a' b' r s ht.2.2 hu.2.2 e2
    exact ⟨by rw [h.1, e1, e3], e4⟩

theorem fl_eq {t u : T} (ht : t.ok) (hu : u.ok) (h : t.fl = u.fl) : t = u := (fl_inj t u [] [] ht hu (by rw [h])).1

/-! ### The order of filters -/
theorem cmpF_eq : ∀ {a b : List ND}, cmpF a b = .eq ↔ a = b
  | [], [] => by simp [cmpF]
  | [], _ :: _ => by simp [cmpF]
  | _ :: _, [] => by simp [cmpF]
  | a :: x, b :: y => by
    rw [cmpF_cons]
    constructor
    · intro h
      split at h
      · rename_i h1; rw [ND.key_inj (cmpL_eq.1 h1), cmpF_eq.1 h]
      · contradiction
    · intro h
      simp only [List.cons.injEq] at h
      rw [h.1, h.2, if_pos (cmpL_refl _)]
      exact cmpF_eq.2 rfl

theorem cmpF_swap : ∀ {a b : List ND}, cmpF a b = (cmpF b a).swap
  | [], [] => rfl
  | [], _ :: _ => rfl
  | _ :: _, [] => rfl
  | a :: x, b :: y => by
    rw [cmpF_cons, cmpF_cons, cmpL_swap]
    by_cases h : cmpL b.key a.key = .eq
    · rw [h]; simp [Ordering.swap]; exact cmpF_swap
    · rw [if_neg h, if_neg (fun e => h (by cases hq : cmpL b.key a.key <;> rw [hq] at e <;> simp_all [Ordering.swap]))]

theorem cmpF_trans : ∀ {a b c : List ND}, cmpF a b = .lt → cmpF b c = .lt → cmpF a c = .lt
  | [], [], _, h, _ => by simp [cmpF] at h
  | _ :: _, [], _, h, _ => by simp [cmpF] at h
  | [], _ :: _, [], _, h => by simp [cmpF] at h
  | [], _ :: _, _ :: _, _, _ => rfl
  | _ :: _, _ :: _, [], _, h => by simp [cmpF] at h
  | a :: x, b :: y, c :: z, h, k => by
    rw [cmpF_cons] at h k ⊢
    by_cases h1 : cmpL a.key b.key = .eq
    · rw [if_pos h1] at h
      rw [cmpL_eq.1 h1]
      by_cases h2 : cmpL b.key c.key = .eq
      · rw [if_pos h2] at k ⊢; exact cmpF_trans h k
      · rw [if_neg h2] at k ⊢; exact k
    · rw [if_neg h1] at h
      by_cases h2 : cmpL b.key c.key = .eq
      · rw [← cmpL_eq.1 h2, if_neg h1]; exact h
      · rw [if_neg h2] at k
        have := cmpL_trans h k
        rw [if_neg (by rw [this]; simp)]; exact this

def lessF (a b : T) : Prop := cmpF a.fl b.fl = .lt
theorem lessF_irrefl {a : T} : ¬ lessF a a := by unfold lessF; rw [cmpF_eq.2 rfl]; simp
theorem lessF_trans {a b c : T} (h : lessF a b) (k : lessF b c) : lessF a c := cmpF_trans h k
theorem lessF_asymm {a b : T} (h : lessF a b) : ¬ lessF b a := fun k => lessF_irrefl (lessF_trans h k)
theorem cmpF_gt {a b : T} : cmpF a.fl b.fl = .gt ↔ lessF b a := by
  unfold lessF; rw [cmpF_swap]; cases cmpF b.fl a.fl <;> simp [Ordering.swap]

/-- In order, each once. -/
def RisF (l : List T) : Prop := l.Pairwise lessF

theorem risF_unique : ∀ {l m : List T}, RisF l → RisF m → (∀ x, x ∈ l ↔ x ∈ m) → l = m
  | [], [], _, _, _ => rfl
  | [], y :: m, _, _, h => absurd ((h y).2 (List.mem_cons_self ..)) (by simp)
  | x :: l, [], _, _, h => absurd ((h x).1 (List.mem_cons_self ..)) (by simp)
  | x :: l, y :: m, h1, h2, h => by
    obtain ⟨a1, a2⟩ := List.pairwise_cons.1 h1
    obtain ⟨b1, b2⟩ := List.pairwise_cons.1 h2
    have e : x = y := by
      rcases List.mem_cons.1 ((h x).1 (List.mem_cons_self ..)) with e | hx
      · exact e
      · rcases List.mem_cons.1 ((h y).2 (List.mem_cons_self ..)) with e | hy
        · exact e.symm
        · exact absurd (a1 y hy) (lessF_asymm (b1 x hx))
    subst e
    rw [risF_unique a2 b2 fun z => ?_]
    constructor
    · intro hz
      rcases List.mem_cons.1 ((h z).1 (List.mem_cons_of_mem _ hz)) with e | hz'
      · subst e; exact absurd (a1 z hz) lessF_irrefl
      · exact hz'
    · intro hz
      rcases List.mem_cons.1 ((h z).2 (List.mem_cons_of_mem _ hz)) with e | hz'
      · subst e; exact absurd (b1 z hz) lessF_irrefl
      · exact hz'

/-- A list with one more, if it is not there: as the document goes through it. -/
def insT (x : T) : Bool → List T → List T
  | d, [] => if d = true then [] else [x]
  | d, y :: r => (if d = false ∧ cmpF x.fl y.fl ≠ .gt then [x] else []) ++ ((if cmpF x.fl y.fl ≠ .eq then [y] else []) ++ insT x (d || decide (cmpF x.fl y.fl ≠ .gt)) r)

theorem insT_past {x : T} : ∀ {l : List T}, (∀ y, y ∈ l → lessF x y) → insT x true l = l
  | [], _ => rfl
  | y :: r, h => by
    have hy : cmpF x.fl y.fl = .lt := h y (List.mem_cons_self ..)
    simp only [insT, hy]
    rw [if_neg (by simp), if_pos (by simp), Bool.true_or, insT_past fun z hz => h z (List.mem_cons_of_mem _ hz)]
    rfl

theorem insT_rising {x : T} (hx : x.ok) : ∀ {l : List T}, (∀ y, y ∈ l → y.ok) → RisF l → RisF (insT x false l) ∧ ∀ z, z ∈ insT x false l ↔ z = x ∨ z ∈ l
  | [], _, _ => by simp [insT, RisF]
  | y :: r, ho, h => by
    obtain ⟨h1, h2⟩ := List.pairwise_cons.1 h
    have hr := fun z hz => ho z (List.mem_cons_of_mem _ hz)
    cases hc : cmpF x.fl y.fl with
    | lt =>
      have e : insT x false (y :: r) = x :: y :: r := by
        simp only [insT, hc]
        rw [if_pos (by simp), if_pos (by simp)]
        rw [show (false || decide (Ordering.lt ≠ .gt)) = true by decide, insT_past fun z hz => lessF_trans hc (h1 z hz)]
        rfl
      rw [e]
      refine ⟨List.pairwise_cons.2 ⟨fun z hz => ?_, h⟩, fun z => by simp⟩
      rcases List.mem_cons.1 hz with rfl | hz
      · exact hc
      · exact lessF_trans hc (h1 z hz)
    | eq =>
      have exy := fl_eq hx (ho y (List.mem_cons_self ..)) (cmpF_eq.1 hc)
      subst exy
      have e : insT x false (x :: r) = x :: r := by
        simp only [insT, hc]
        rw [if_pos (by simp), if_neg (by simp)]
        rw [show (false || decide (Ordering.eq ≠ .gt)) = true by decide, insT_past h1]
        rfl
      rw [e]
      exact ⟨h, fun z => by simp⟩
    | gt =>
      have e : insT x false (y :: r) = y :: insT x false r := by
        simp only [insT, hc]
        rw [if_neg (by simp), if_pos (by simp)]
        rfl
      obtain ⟨i1, i2⟩ := insT_rising hx hr h2
      rw [e]
      refine ⟨List.pairwise_cons.2 ⟨fun z hz => ?_, i1⟩, fun z => ?_⟩
      · rcases (i2 z).1 hz with rfl | hz
        · exact cmpF_gt.1 hc
        · exact h1 z hz
      · rw [List.mem_cons, i2, List.mem_cons]
        constructor
        · rintro (h | h | h)
          · exact .inr (.inl h)
          · exact .inl h
          · exact .inr (.inr h)
        · rintro (h | h | h)
          · exact .inr (.inl h)
          · exact .inl h
          · exact .inr (.inr h)

def sortT (p : List T) : List T := p.foldl (fun acc x => insT x false acc) []
theorem foldT_aux : ∀ (p acc : List T), (∀ y, y ∈ p → y.ok) → (∀ y, y ∈ acc → y.ok) → RisF acc → RisF (p.foldl (fun acc x => insT x false acc) acc) ∧ ∀ z, z ∈ p.foldl (fun acc x => insT x false acc) acc ↔ z ∈ p ∨ z ∈ acc
  | [], acc, _, _, h => ⟨h, fun z => by simp⟩
  | x :: p, acc, hp, ha, h => by
    obtain ⟨i1, i2⟩ := insT_rising (hp x (List.mem_cons_self ..)) ha h
    obtain ⟨j1, j2⟩ := foldT_aux p (insT x false acc) (fun y hy => hp y (List.mem_cons_of_mem _ hy)) (fun y hy => ((i2 y).1 hy).elim (fun e => e ▸ hp x (List.mem_cons_self ..)) (ha y)) i1
    refine ⟨j1, fun z => ?_⟩
    rw [List.foldl_cons, j2, i2, List.mem_cons]
    constructor
    · rintro (h | h | h)
      · exact .inl (.inr h)
      · exact .inl (.inl h)
      · exact .inr h
    · rintro ((h | h) | h)
      · exact .inr (.inl h)
      · exact .inl h
      · exact .inr (.inr h)
theorem sortT_rising {p : List T} (hp : ∀ y, y ∈ p → y.ok) : RisF (sortT p) := (foldT_aux p [] hp (by simp) (by simp [RisF])).1
theorem mem_sortT {p : List T} (hp : ∀ y, y ∈ p → y.ok) {z : T} : z ∈ sortT p ↔ z ∈ p := by
  rw [sortT, (foldT_aux p [] hp (by simp) (by simp [RisF])).2]; simp

/-! ### Forms -/
def pcs (op : Int) : T → List T
  | .two x a b => if x.op = op then pcs op a ++ pcs op b else [.two x a b]
  | .one x a => [.one x a]
  | .leaf x => [.leaf x]
def zeroOf (op : Int) : Int := if op = 12 then 1 else 2
def unitOf (op : Int) : Int := if op = 12 then 2 else 1
def agst (l : List T) : Bool := l.any fun a => l.any fun b => decide (a.fl.length = 1 ∧ b.fl = nd 10 :: a.fl)
def foldO (op : Int) : List T → T
  | [] => .leaf (nd (unitOf op))
  | [x] => x
  | x :: y :: r => .two (nd op) x (foldO op (y :: r))
def normL (op : Int) (p : List T) : T :=
  if p.any (fun t => decide (t.root.op = zeroOf op)) = true then .leaf (nd (zeroOf op))
  else if agst (sortT (p.filter fun t => decide (t.root.op ≠ unitOf op))) = true then .leaf (nd (zeroOf op))
  else foldO op (sortT (p.filter fun t => decide (t.root.op ≠ unitOf op)))
def joinT (op : Int) (a b : T) : T := normL op (pcs op a ++ pcs op b)
def formT : T → Bool → T
  | .leaf x, tn => if x.op = 1 ∨ x.op = 2 then .leaf (nd (if tn = true then 3 - x.op else x.op)) else if tn = true then .one (nd 10) (.leaf x) else .leaf x
  | .one x a, tn => formT a (!tn)
  | .two x a b, tn => joinT (if tn = true then 23 - x.op else x.op) (formT a tn) (formT b tn)
end Go.Proofs.Ytielcgplbnlgbaa
end

section
/- Forms of filters: what they say, that they are forms. No program in sight. -/
set_option linter.unusedVariables false
set_option linter.unusedSimpArgs false
namespace Go.Proofs.Ytielcgplbnlgbaa

theorem parts_two {op : Int} (h : parts op = 2) : op = 11 ∨ op = 12 := by
  unfold parts at h
  split at h
  · omega
  · split at h
    · assumption
    · omega
theorem parts_one {op : Int} (h : parts op = 1) : op = 10 := by
  unfold parts at h
  split at h
  · assumption
  · split at h <;> omega
theorem parts_12 : parts 12 = 2 := by decide
theorem parts_11 : parts 11 = 2 := by decide
theorem parts_10 : parts 10 = 1 := by decide

theorem pcs_ok {op : Int} : ∀ {t : T}, t.ok → ∀ y, y ∈ pcs op t → y.ok
  | .leaf x, h, y, hy => by rw [pcs, List.mem_singleton] at hy; subst hy; exact h
  | .one x a, h, y, hy => by rw [pcs, List.mem_singleton] at hy; subst hy; exact h
  | .two x a b, h, y, hy => by
    rw [pcs] at hy
    split at hy
    · rcases List.mem_append.1 hy with hy | hy
      · exact pcs_ok h.2.1 y hy
      · exact pcs_ok h.2.2 y hy
    · rw [List.mem_singleton] at hy; subst hy; exact h

/-- A part that is no pair of parts. -/
def Irr (op : Int) (t : T) : Prop := pcs op t = [t]

theorem pcs_irr {op : Int} : ∀ {t : T}, ∀ y, y ∈ pcs op t → Irr op y
  | .leaf x, y, hy => by rw [pcs, List.mem_singleton] at hy; subst hy; rfl
  | .one x a, y, hy => by rw [pcs, List.mem_singleton] at hy; subst hy; rfl
  | .two x a b, y, hy => by
    rw [pcs] at hy
    split at hy
    · rcases List.mem_append.1 hy with hy | hy
      · exact pcs_irr y hy
      · exact pcs_irr y hy
    · rename_i hne
      rw [List.mem_singleton] at hy; subst hy; rw [Irr, pcs, if_neg hne]

theorem pcs_foldO {op : Int} : ∀ {l : List T}, l ≠ [] → (∀ y, y ∈ l → Irr op y) → pcs op (foldO op l) = l
  | [], h, _ => absurd rfl h
  | [x], _, h => h x (List.mem_cons_self ..)
  | x :: y :: r, _, h => by
    rw [foldO, pcs, if_pos (show (nd op).op = op from rfl), h x (List.mem_cons_self ..), pcs_foldO (by simp) fun z hz => h z (List.mem_cons_of_mem _ hz)]
    rfl

theorem sem_all (av : ND → Bool) : ∀ (t : T), t.ok → t.sem av = (pcs 11 t).all (·.sem av)
  | .leaf x, h => by simp [pcs]
  | .one x a, h => by simp [pcs]
  | .two x a b, h => by
    rw [pcs]
    split
    · rename_i e
      rw [List.all_append, ← sem_all av a h.2.1, ← sem_all av b h.2.2]
      simp [T.sem, e]
    · simp

theorem sem_any (av : ND → Bool) : ∀ (t : T), t.ok → t.sem av = (pcs 12 t).any (·.sem av)
  | .leaf x, h => by simp [pcs]
  | .one x a, h => by simp [pcs]
  | .two x a b, h => by
    rw [pcs]
    split
    · rename_i e
      rw [List.any_append, ← sem_any av a h.2.1, ← sem_any av b h.2.2]
      simp [T.sem, e]
    · simp

theorem root_leaf {t : T} (h : t.ok) {op : Int} (e : t.root.op = op) (hp : op = 1 ∨ op = 2) : ∃ x : ND, t = .leaf x ∧ x.op = op := by
  cases t with
  | leaf x => exact ⟨x, rfl, e⟩
  | one x a =>
    have := parts_one h.1
    simp only [T.root] at e; omega
  | two x a b =>
    have := parts_two h.1
    simp only [T.root] at e; omega

theorem sem_root1 {t : T} (h : t.ok) (e : t.root.op = 1) (av : ND → Bool) : t.sem av = true := by
  obtain ⟨x, rfl, hx⟩ := root_leaf h e (.inl rfl)
  simp [T.sem, hx]
theorem sem_root2 {t : T} (h : t.ok) (e : t.root.op = 2) (av : ND → Bool) : t.sem av = false := by
  obtain ⟨x, rfl, hx⟩ := root_leaf h e (.inr rfl)
  simp [T.sem, hx]

theorem fl_one {t : T} (h : t.fl.length = 1) : ∃ x : ND, t = .leaf x := by
  cases t with
  | leaf x => exact ⟨x, rfl⟩
  | one x a => have := a.fl_pos; simp only [T.fl, List.length_cons] at h; omega
  | two x a b => have := a.fl_pos; have := b.fl_pos; simp only [T.fl, List.length_cons, List.length_append] at h; omega

theorem agst_sem {l : List T} (ho : ∀ y, y ∈ l → y.ok) (h : agst l = true) : ∃ a b, a ∈ l ∧ b ∈ l ∧ ∀ av : ND → Bool, b.sem av = !a.sem av := by
  simp only [agst, List.any_eq_true, decide_eq_true_eq] at h
  obtain ⟨a, ha, b, hb, h1, h2⟩ := h
  refine ⟨a, b, ha, hb, fun av => ?_⟩
  obtain ⟨x, rfl⟩ := fl_one h1
  have e : b = .one (nd 10) (.leaf x) := fl_eq (ho b hb) ⟨by decide, ho _ ha⟩ h2
  subst e
  rfl

theorem foldO_all (av : ND → Bool) : ∀ (l : List T), (foldO 11 l).sem av = l.all (·.sem av)
  | [] => by simp [foldO, T.sem, nd, unitOf]
  | [x] => by simp [foldO]
  | x :: y :: r => by
    rw [foldO, T.sem, foldO_all av (y :: r)]
    simp [nd]
theorem foldO_any (av : ND → Bool) : ∀ (l : List T), (foldO 12 l).sem av = l.any (·.sem av)
  | [] => by simp [foldO, T.sem, nd, unitOf]
  | [x] => by simp [foldO]
  | x :: y :: r => by
    rw [foldO, T.sem, foldO_any av (y :: r)]
    simp [nd]

theorem normL_all {p : List T} (ho : ∀ y, y ∈ p → y.ok) (av : ND → Bool) : (normL 11 p).sem av = p.all (·.sem av) := by
  have hf : ∀ y, y ∈ p.filter (fun t => decide (t.root.op ≠ unitOf 11)) → y.ok := fun y hy => ho y (List.mem_filter.1 hy).1
  unfold normL
  split
  · rename_i h
    simp only [List.any_eq_true, decide_eq_true_eq] at h
    obtain ⟨z, hz, e⟩ := h
    have := sem_root2 (ho z hz) e av
    rw [show p.all (·.sem av) = false from List.all_eq_false.2 ⟨z, hz, by simp [this]⟩]
    simp [T.sem, nd, zeroOf]
  · split
    · rename_i h
      obtain ⟨a, b, ha, hb, e⟩ := agst_sem (fun y hy => hf y ((mem_sortT hf).1 hy)) h
      have ha' := (List.mem_filter.1 ((mem_sortT hf).1 ha)).1
      have hb' := (List.mem_filter.1 ((mem_sortT hf).1 hb)).1
      have : p.all (·.sem av) = false := by
        cases ea : a.sem av
        · exact List.all_eq_false.2 ⟨a, ha', by simp [ea]⟩
        · exact List.all_eq_false.2 ⟨b, hb', by simp [e av, ea]⟩
      rw [this]
      simp [T.sem, nd, zeroOf]
    · rw [foldO_all, Bool.eq_iff_iff, List.all_eq_true, List.all_eq_true]
      constructor
      · intro h x hx
        by_cases hu : x.root.op = unitOf 11
        · exact sem_root1 (ho x hx) hu av
        · exact h x ((mem_sortT hf).2 (List.mem_filter.2 ⟨hx, by simpa using hu⟩))
      · exact fun h x hx => h x (List.mem_filter.1 ((mem_sortT hf).1 hx)).1

theorem normL_any {p : List T} (ho : ∀ y, y ∈ p → y.ok) (av : ND → Bool) : (normL 12 p).sem av = p.any (·.sem av) := by
  have hf : ∀ y, y ∈ p.filter (fun t => decide (t.root.op ≠ unitOf 12)) → y.ok := fun y hy => ho y (List.mem_filter.1 hy).1
  unfold normL
  split
  · rename_i h
    simp only [List.any_eq_true, decide_eq_true_eq] at h
    obtain ⟨z, hz, e⟩ := h
    have := sem_root1 (ho z hz) e av
    rw [show p.any (·.sem av) = true from List.any_eq_true.2 ⟨z, hz, this⟩]
    simp [T.sem, nd, zeroOf]
  · split
    · rename_i h
      obtain ⟨a, b, ha, hb, e⟩ := agst_sem (fun y hy => hf y ((mem_sortT hf).1 hy)) h
      have ha' := (List.mem_filter.1 ((mem_sortT hf).1 ha)).1
      have hb' := (List.mem_filter.1 ((mem_sortT hf).1 hb)).1
      have : p.any (·.sem av) = true := by
        cases ea : a.sem av
        · exact List.any_eq_true.2 ⟨b, hb', by simp [e av, ea]⟩
        · exact List.any_eq_true.2 ⟨a, ha', ea⟩
      rw [this]
      simp [T.sem, nd, zeroOf]
    · rw [foldO_any, Bool.eq_iff_iff, List.any_eq_true, List.any_eq_true]
      constructor
      · rintro ⟨x, hx, h⟩
        exact ⟨x, (List.mem_filter.1 ((mem_sortT hf).1 hx)).1, h⟩
      · rintro ⟨x, hx, h⟩
        refine ⟨x, (mem_sortT hf).2 (List.mem_filter.2 ⟨hx, ?_⟩), h⟩
        simp only [ne_eq, decide_not, Bool.not_eq_eq_eq_not, Bool.not_true, decide_eq_false_iff_not]
        intro hu
        rw [sem_root2 (ho x hx) hu av] at h
        cases h

/-! ### Forms may be, and say what the tree says -/
def Good (t : T) : Prop := t.ok ∧ ∀ x, x ∈ t.fl → ndOk x = true
theorem ndOk_nd {op : Int} (h : op = 1 ∨ op = 2 ∨ op = 10 ∨ op = 11 ∨ op = 12) : ndOk (nd op) = true := by
  rcases h with rfl | rfl | rfl | rfl | rfl <;> decide
theorem good_leaf {x : ND} (h : parts x.op = 0) (k : ndOk x = true) : Good (.leaf x) := ⟨h, fun y hy => by rw [T.fl, List.mem_singleton] at hy; rw [hy]; exact k⟩
theorem good_nd {op : Int} (h : op = 1 ∨ op = 2) : Good (.leaf (nd op)) := good_leaf (by rcases h with rfl | rfl <;> decide) (ndOk_nd (by omega))
theorem good_one {x : ND} {a : T} : Good (.one x a) ↔ parts x.op = 1 ∧ ndOk x = true ∧ Good a := by
  simp only [Good, T.ok, T.fl, List.mem_cons]
  exact ⟨fun h => ⟨h.1.1, h.2 x (.inl rfl), h.1.2, fun y hy => h.2 y (.inr hy)⟩, fun h => ⟨⟨h.1, h.2.2.1⟩, fun y hy => hy.elim (fun e => e ▸ h.2.1) (h.2.2.2 y)⟩⟩
theorem good_two {x : ND} {a b : T} : Good (.two x a b) ↔ parts x.op = 2 ∧ ndOk x = true ∧ Good a ∧ Good b := by
  simp only [Good, T.ok, T.fl, List.mem_cons, List.mem_append]
  exact ⟨fun h => ⟨h.1.1, h.2 x (.inl rfl), ⟨h.1.2.1, fun y hy => h.2 y (.inr (.inl hy))⟩, h.1.2.2, fun y hy => h.2 y (.inr (.inr hy))⟩,
    fun h => ⟨⟨h.1, h.2.2.1.1, h.2.2.2.1⟩, fun y hy => hy.elim (fun e => e ▸ h.2.1) fun hy => hy.elim (h.2.2.1.2 y) (h.2.2.2.2 y)⟩⟩

theorem good_pcs {op : Int} : ∀ {t : T}, Good t → ∀ y, y ∈ pcs op t → Good y
  | .leaf x, h, y, hy => by rw [pcs, List.mem_singleton] at hy; subst hy; exact h
  | .one x a, h, y, hy => by rw [pcs, List.mem_singleton] at hy; subst hy; exact h
  | .two x a b, h, y, hy => by
    rw [pcs] at hy
    split at hy
    · rcases List.mem_append.1 hy with hy | hy
      · exact good_pcs (good_two.1 h).2.2.1 y hy
      · exact good_pcs (good_two.1 h).2.2.2 y hy
    · rw [List.mem_singleton] at hy; subst hy; exact h

theorem good_foldO {op : Int} (hop : op = 11 ∨ op = 12) : ∀ {l : List T}, (∀ y, y ∈ l → Good y) → Good (foldO op l)
  | [], _ => by rw [foldO]; exact good_nd (by unfold unitOf; split <;> simp)
  | [x], h => h x (List.mem_cons_self ..)
  | x :: y :: r, h => by
    rw [foldO, good_two]
    exact ⟨by rcases hop with rfl | rfl <;> decide, ndOk_nd (by omega), h x (List.mem_cons_self ..), good_foldO hop fun z hz => h z (List.mem_cons_of_mem _ hz)⟩

theorem good_normL {op : Int} (hop : op = 11 ∨ op = 12) {p : List T} (h : ∀ y, y ∈ p → Good y) : Good (normL op p) := by
  unfold normL
  have hz : Good (.leaf (nd (zeroOf op))) := good_nd (by unfold zeroOf; split <;> simp)
  split
  · exact hz
  · split
    · exact hz
    · have hf : ∀ y, y ∈ p.filter (fun t => decide (t.root.op ≠ unitOf op)) → Good y := fun y hy => h y (List.mem_filter.1 hy).1
      exact good_foldO hop fun y hy => hf y ((mem_sortT fun y hy => (hf y hy).1).1 hy)

theorem good_joinT {op : Int} (hop : op = 11 ∨ op = 12) {a b : T} (ha : Good a) (hb : Good b) : Good (joinT op a b) :=
  good_normL hop fun y hy => (List.mem_append.1 hy).elim (good_pcs ha y) (good_pcs hb y)

theorem sem_join11 {a b : T} (ha : a.ok) (hb : b.ok) (av : ND → Bool) : (joinT 11 a b).sem av = (a.sem av && b.sem av) := by
  rw [joinT, normL_all fun y hy => (List.mem_append.1 hy).elim (pcs_ok ha y) (pcs_ok hb y), List.all_append, ← sem_all av a ha, ← sem_all av b hb]
theorem sem_join12 {a b : T} (ha : a.ok) (hb : b.ok) (av : ND → Bool) : (joinT 12 a b).sem av = (a.sem av || b.sem av) := by
  rw [joinT, normL_any fun y hy => (List.mem_append.1 hy).elim (pcs_ok ha y) (pcs_ok hb y), List.any_append, ← sem_any av a ha, ← sem_any av b hb]

theorem op_turn {op : Int} (h : op = 11 ∨ op = 12) (tn : Bool) : (if tn = true then 23 - op else op) = 11 ∨ (if tn = true then 23 - op else op) = 12 := by
  cases tn
  · simpa using h
  · simp only [if_true]; omega

theorem good_form : ∀ {t : T} (tn : Bool), Good t → Good (formT t tn)
  | .leaf x, tn, h => by
    have hx := h.2 x (by simp [T.fl])
    rw [formT]
    split
    · rename_i hop
      refine good_nd ?_
      split <;> omega
    · split
      · exact good_one.2 ⟨by decide, ndOk_nd (by simp), h⟩
      · exact h
  | .one x a, tn, h => good_form (!tn) (good_one.1 h).2.2
  | .two x a b, tn, h => by
    obtain ⟨h1, h2, h3, h4⟩ := good_two.1 h
    rw [formT]
    exact good_joinT (op_turn (parts_two h1) tn) (good_form tn h3) (good_form tn h4)

theorem sem_form (av : ND → Bool) : ∀ {t : T} (tn : Bool), Good t → (formT t tn).sem av = (t.sem av ^^ tn)
  | .leaf x, tn, h => by
    rw [formT]
    split
    · rename_i hop
      rcases hop with e | e <;> cases tn <;> simp [T.sem, nd, e]
    · rename_i hop
      cases tn
      · simp
      · simp [T.sem]
  | .one x a, tn, h => by
    rw [formT, sem_form av (!tn) (good_one.1 h).2.2, T.sem]
    cases a.sem av <;> cases tn <;> rfl
  | .two x a b, tn, h => by
    obtain ⟨h1, h2, h3, h4⟩ := good_two.1 h
    have ga := good_form tn h3
    have gb := good_form tn h4
    have ea := sem_form av tn h3
    have eb := sem_form av tn h4
    rw [formT]
    rcases parts_two h1 with e | e <;> cases tn
    · simp only [e, Bool.false_eq_true, if_false]
      rw [sem_join11 ga.1 gb.1, ea, eb]; simp [T.sem, e]
    · simp only [e, if_true]
      rw [show (23 - 11 : Int) = 12 by decide, sem_join12 ga.1 gb.1, ea, eb]
      simp only [T.sem, e, if_true]
      cases a.sem av <;> cases b.sem av <;> rfl
    · simp only [e, Bool.false_eq_true, if_false]
      rw [sem_join12 ga.1 gb.1, ea, eb]; simp [T.sem, e]
    · simp only [e, if_true]
      rw [show (23 - 12 : Int) = 11 by decide, sem_join11 ga.1 gb.1, ea, eb]
      simp only [T.sem, e]
      cases a.sem av <;> cases b.sem av <;> rfl
end Go.Proofs.Ytielcgplbnlgbaa
end

section
/- Contract of the document's Kids: the conditions that the theorem names. -/

set_option linter.unusedVariables false
set_option linter.unusedSimpArgs false
namespace Go.Proofs.Ytielcgplbnlgbaa

theorem app_flat' {α : Type} (D ex Y : List α) (m y : Nat) (h1 : D.length = m) (h2 : Y.length = y) : List.take m (D ++ ex) ++ Y ++ List.drop (m + y) (D ++ ex) = (D ++ Y) ++ ex.drop y := by
  subst h1 h2
  rw [List.take_left, List.drop_append, List.drop_eq_nil_of_le (by omega), List.nil_append, Nat.add_sub_cancel_left]

abbrev T.kl (t : T) : List (List MV) := t.kids.map fun k => [.lst 5 (k.fl.map ND.c) false]

theorem kid_end {t : T} (h : t.ok) {i : Nat} (hi : i < t.kids.length) :
    endS t.fl ((1 + ((t.kids.take i).map T.fl).flatten.length : Nat) : Int) = ((1 + ((t.kids.take (i + 1)).map T.fl).flatten.length : Nat) : Int) ∧
    (t.fl.take (1 + ((t.kids.take (i + 1)).map T.fl).flatten.length)).drop (1 + ((t.kids.take i).map T.fl).flatten.length) = (t.kids.getD i (.leaf nd0)).fl ∧
    1 + ((t.kids.take i).map T.fl).flatten.length ≤ 1 + ((t.kids.take (i + 1)).map T.fl).flatten.length ∧ 1 + ((t.kids.take (i + 1)).map T.fl).flatten.length ≤ t.fl.length ∧ (t.kids.getD i (.leaf nd0)).fl.length ≤ t.fl.length := by
  obtain ⟨h1, h2⟩ := T.ok_kids h
  obtain ⟨k, hk⟩ : ∃ k, t.kids.getD i (.leaf nd0) = k := ⟨_, rfl⟩
  have hg : t.kids[i] = k := by rw [← hk, getD_of_lt _ hi]
  have hko := h2 k (by rw [← hk]; exact getD_mem _ hi)
  have e1 : ((t.kids.take (i + 1)).map T.fl).flatten = ((t.kids.take i).map T.fl).flatten ++ k.fl := by
    rw [List.take_succ_eq_append_getElem hi, hg]; simp
  have e2 : t.fl = (t.root :: ((t.kids.take i).map T.fl).flatten) ++ (k.fl ++ ((t.kids.drop (i + 1)).map T.fl).flatten) := by
    rw [T.fl_kids]
    conv => lhs; rw [← List.take_append_drop i t.kids, List.drop_eq_getElem_cons hi, hg]
    simp
  have e3 : (t.root :: ((t.kids.take i).map T.fl).flatten).length = 1 + ((t.kids.take i).map T.fl).flatten.length := by rw [List.length_cons]; omega
  rw [e1, List.length_append, hk]
  generalize hA : t.root :: ((t.kids.take i).map T.fl).flatten = A at e2 e3
  have e4 := endS_fl hko A ((t.kids.drop (i + 1)).map T.fl).flatten
  rw [← e2, e3] at e4
  refine ⟨by rw [e4, Nat.add_assoc], ?_, by omega, by rw [e2]; simp only [List.length_append]; omega, by rw [e2]; simp only [List.length_append]; omega⟩
  rw [← Nat.add_assoc, ← e3, e2, ← List.append_assoc, ← List.length_append, List.take_left, List.drop_left]

set_option maxHeartbeats 2000000 in
theorem rkids_call (t : T) (h : t.ok) (hl : t.fl.length ≤ 1000) (tt : Bool) : MCalls Try.prog 38 [.lst 5 (t.fl.map ND.c) tt, .int .i64 0] St.none (fun r _ => r = .lst 1 t.kl false) := by
  refine MCalls.seen (MCalls.body 44 [.tmp 4] Try.func38 rfl rfl rfl rfl ?_)
  have hpos := t.fl_pos
  have hf0 : (t.fl.getD 0 nd0) = t.root := by rw [T.fl_kids]; rfl
  obtain ⟨h1, h2⟩ := T.ok_kids h
  have hb2 : t.kids.length ≤ 2 := by have := parts_cases t.root.op; omega
  repeat' (first | (with_reducible first | (refine wT ?_; (first | ((fail_if_success (have := nl1)); refine wN fun nl1 hnl => ?_) | ((fail_if_success (have := nl2)); refine wN fun nl2 hnl => ?_) | ((fail_if_success (have := nl3)); refine wN fun nl3 hnl => ?_) | ((fail_if_success (have := nl4)); refine wN fun nl4 hnl => ?_) | ((fail_if_success (have := nl5)); refine wN fun nl5 hnl => ?_) | refine wN fun _ hnl => ?_); revert hnl; (repeat refine wS fun _ _ => ?_); intro hnl) | refine wD (by decide +kernel) ?_ | refine wI (fun h => ?_) fun h => ?_ | refine wF (fun h => ?_) fun h => ?_ | refine wG (fun h => ?_) fun h => ?_ | refine wH (fun h => ?_) fun h => ?_ | ((first | refine mfork_bool (fun h => ?_) fun h => ?_ | refine mgfork_bool (fun h => ?_) fun h => ?_) <;> simp only [h])) | simp (maxSteps := 4000000) (disch := first | decide | assumption | omega | (simp only [wL]; omega)) only [go_sem, simprocAttr, Try.f38, getD_mapd nd0])
  refine mloop_intro (α := Nat × Nat × List (List MV)) (fun a => ⟨44, [(7, .int .i64 (a.1 : Int)), (6, .int .i64 ((1 + ((t.kids.take a.1).map T.fl).flatten.length : Nat) : Int)), (5, .vec 1 a.2.1 0 a.1), (0, .lst 5 (t.fl.map ND.c) tt), (1, .int .i64 0)], []⟩)
    (fun a => St.none.set a.2.1 (.row 22 1 ((t.kl.take a.1) ++ a.2.2))) (fun a => a.1 ≤ t.kids.length) (fun a => t.kids.length - a.1) ?_ ?_
  · refine .of (.less ?_ (St.le_refl _)) ⟨(0, nl1, []), rfl, rfl, Nat.zero_le _⟩
    simp (maxSteps := 4000000) (disch := first | decide | assumption | omega | (simp only [wL]; omega)) only [go_sem, simprocAttr, weak_int, weak_same]
    all_goals first | exact ⟨rfl, rfl⟩ | rfl
  · rintro ⟨i, q, ex⟩ hi
    simp only at hi ⊢
    by_cases hlt : i < t.kids.length
    · obtain ⟨k1, k2, k3, k4, k5⟩ := kid_end h hlt
      have hm : min i t.kids.length = i := Nat.min_eq_left hi
      have e1 : List.map (fun k => [MV.lst 5 (List.map ND.c k.fl) false]) (t.kids.take (i + 1)) = List.map (fun k => [MV.lst 5 (List.map ND.c k.fl) false]) (t.kids.take i) ++ [[.lst 5 ((t.kids.getD i (.leaf nd0)).fl.map ND.c) false]] := by
        rw [List.take_succ_eq_append_getElem hlt, List.map_append, ← getD_of_lt (.leaf nd0) hlt]; rfl
      repeat' (first | (with_reducible refine use_pure (rparts_call _) ?_) | (with_reducible refine use_pure (rend_call _ (by omega) _ _) ?_) | (with_reducible first | (refine wT ?_; (first | ((fail_if_success (have := nl1)); refine wN fun nl1 hnl => ?_) | ((fail_if_success (have := nl2)); refine wN fun nl2 hnl => ?_) | ((fail_if_success (have := nl3)); refine wN fun nl3 hnl => ?_) | ((fail_if_success (have := nl4)); refine wN fun nl4 hnl => ?_) | ((fail_if_success (have := nl5)); refine wN fun nl5 hnl => ?_) | refine wN fun _ hnl => ?_); revert hnl; (repeat refine wS fun _ _ => ?_); intro hnl) | refine wD (by decide +kernel) ?_ | refine wI (fun h => ?_) fun h => ?_ | refine wF (fun h => ?_) fun h => ?_ | refine wG (fun h => ?_) fun h => ?_ | refine wH (fun h => ?_) fun h => ?_ | ((first | refine mfork_bool (fun h => ?_) fun h => ?_ | refine mgfork_bool (fun h => ?_) fun h => ?_) <;> simp only [h])) | simp (maxSteps := 4000000) (disch := first | decide | assumption | omega | (simp only [wL]; omega)) only [go_sem, simprocAttr, getD_mapd nd0, hf0, k1, k2, hm])
      · have hex : ex = [] := List.eq_nil_of_length_eq_zero (by omega)
        subst hex
        refine .of (Ghost.nest (t := 22) (t1 := 49) (e1 := 5) (ys := (t.kids.getD i (.leaf nd0)).fl.map ND.c) (n1 := (t.kids.getD i (.leaf nd0)).fl.length) (q := nl5) (m := nl3) (pre := List.map (fun k => [MV.lst 5 (List.map ND.c k.fl) false]) (t.kids.take i)) (post := []) St.none (by first | (simp (maxSteps := 4000000) (disch := first | decide | assumption | omega | (simp only [wL]; omega)) only [go_sem, simprocAttr]; done) | (simp (maxSteps := 4000000) (disch := first | decide | assumption | omega | (simp only [wL]; omega)) only [go_sem, simprocAttr]; rfl)) ((set_hit _ _ _).trans ?_) (by rw [List.length_map]) (St.none_le _) rfl (by assumption) ?_) ⟨(i + 1, nl5, []), rfl, ?_, by simp only; omega, by simp only; omega⟩
        · rw [List.append_nil]
        · simp (maxSteps := 4000000) (disch := first | decide | assumption | omega | (simp only [wL]; omega)) only [go_sem, simprocAttr, weak_int, weak_same]
          all_goals rfl
        · simp only
          rw [e1, List.append_nil]
      · refine .of (Ghost.nest (t := 22) (t1 := 49) (e1 := 5) (ys := (t.kids.getD i (.leaf nd0)).fl.map ND.c) (n1 := (t.kids.getD i (.leaf nd0)).fl.length) (q := nl5) (m := nl3) (pre := List.map (fun k => [MV.lst 5 (List.map ND.c k.fl) false]) (t.kids.take i)) (post := ex.drop 1) St.none (by first | (simp (maxSteps := 4000000) (disch := first | decide | assumption | omega | (simp only [wL]; omega)) only [go_sem, simprocAttr]; done) | (simp (maxSteps := 4000000) (disch := first | decide | assumption | omega | (simp only [wL]; omega)) only [go_sem, simprocAttr]; rfl)) ((set_hit _ _ _).trans ?_) (by rw [List.length_map]) (St.none_le _) rfl (by assumption) ?_) ⟨(i + 1, nl5, ex.drop 1), rfl, ?_, by simp only; omega, by simp only; omega⟩
        · rw [app_flat' (List.map (fun k => [MV.lst 5 (List.map ND.c (T.fl k)) false]) (t.kids.take i)) ex [[MV.vec 5 nl3 0 (t.kids.getD i (T.leaf nd0)).fl.length]] i 1 (by rw [List.length_map, List.length_take]; omega) rfl, List.append_assoc]
          rfl
        · simp (maxSteps := 4000000) (disch := first | decide | assumption | omega | (simp only [wL]; omega)) only [go_sem, simprocAttr, weak_int, weak_same]
          all_goals rfl
        · simp only
          rw [e1, List.append_assoc]
          rfl
    · have : i = t.kids.length := by omega
      subst this
      repeat' (first | (with_reducible refine use_pure (rparts_call _) ?_) | (with_reducible first | (refine wT ?_; (first | ((fail_if_success (have := nl1)); refine wN fun nl1 hnl => ?_) | ((fail_if_success (have := nl2)); refine wN fun nl2 hnl => ?_) | ((fail_if_success (have := nl3)); refine wN fun nl3 hnl => ?_) | ((fail_if_success (have := nl4)); refine wN fun nl4 hnl => ?_) | ((fail_if_success (have := nl5)); refine wN fun nl5 hnl => ?_) | refine wN fun _ hnl => ?_); revert hnl; (repeat refine wS fun _ _ => ?_); intro hnl) | refine wD (by decide +kernel) ?_ | refine wI (fun h => ?_) fun h => ?_ | refine wF (fun h => ?_) fun h => ?_ | refine wG (fun h => ?_) fun h => ?_ | refine wH (fun h => ?_) fun h => ?_ | ((first | refine mfork_bool (fun h => ?_) fun h => ?_ | refine mgfork_bool (fun h => ?_) fun h => ?_) <;> simp only [h])) | simp (maxSteps := 4000000) (disch := first | decide | assumption | omega | (simp only [wL]; omega)) only [go_sem, simprocAttr, getD_mapd nd0, hf0, List.take_length])
      have hv := View.vec (σ := St.none.set q (.row 22 1 (t.kl ++ ex))) (l := q) (lo := 0) (n := t.kids.length) (set_hit _ _ _) (by rw [List.length_append, List.length_map]; omega)
      have e : ((t.kl ++ ex).drop 0).take t.kids.length = t.kl := by
        rw [List.drop_zero, List.take_append_of_le_length (by rw [List.length_map]; omega), List.take_of_length_le (by rw [List.length_map]; omega)]
      rw [e] at hv
      exact hv
end Go.Proofs.Ytielcgplbnlgbaa
end

section
/- Contracts of the program's own functions for values and filters, and of the library's that they call: the conditions that each theorem names. -/
set_option linter.unusedVariables false
set_option linter.unusedSimpArgs false
namespace Go.Proofs.Ytielcgplbnlgbaa

theorem parts_call (op : Int) : MCalls Try.prog 42 [.int .i64 op] St.none (fun r _ => r = .int .i64 (parts op)) := by
  refine (MCalls.body 9 [.tmp 2] Try.func42 rfl rfl rfl rfl ?_)
  repeat' (first | (with_reducible first | (refine wN fun nl hnl => ?_; revert hnl; (repeat refine wS fun _ _ => ?_); intro hnl) | refine wD (by decide +kernel) ?_ | refine wI (fun h => ?_) fun h => ?_ | refine wF (fun h => ?_) fun h => ?_ | refine wG (fun h => ?_) fun h => ?_ | refine wH (fun h => ?_) fun h => ?_ | ((first | refine mfork_bool (fun h => ?_) fun h => ?_ | refine mgfork_bool (fun h => ?_) fun h => ?_) <;> simp only [h])) | simp (maxSteps := 4000000) (disch := first | decide | assumption | omega | (simp only [wL]; omega)) only [go_sem, simprocAttr, Try.f42])
  all_goals simp [parts, *]

theorem vcheck_call (kd n : Int) (s : ByteArray) : MCalls Try.prog 76 [.agg [.int .i64 kd, .int .i64 n, .str s]] St.none (fun r _ => r = .bool (vaOk ⟨kd, n, s⟩)) := by
  refine (MCalls.body 36 [.tmp 2] Try.func76 rfl rfl rfl rfl ?_)
  repeat' (first | (with_reducible first | (refine wN fun nl hnl => ?_; revert hnl; (repeat refine wS fun _ _ => ?_); intro hnl) | refine wD (by decide +kernel) ?_ | refine wI (fun h => ?_) fun h => ?_ | refine wF (fun h => ?_) fun h => ?_ | refine wG (fun h => ?_) fun h => ?_ | refine wH (fun h => ?_) fun h => ?_ | ((first | refine mfork_bool (fun h => ?_) fun h => ?_ | refine mgfork_bool (fun h => ?_) fun h => ?_) <;> simp only [h])) | simp (maxSteps := 4000000) (disch := first | decide | assumption | omega | (simp only [wL]; omega)) only [go_sem, simprocAttr, Try.f76])
  all_goals first
    | (simp [vaOk, va0, *]; done)
    | (simp [vaOk, va0, *]; omega)

theorem nanint_call (a : Int) : MCalls Try.prog 99 [.int .i64 a] St.none (fun r _ => r = .bool false) := by
  refine (MCalls.body 6 [.tmp 2] Try.func99 rfl rfl rfl rfl ?_)
  repeat' (first | (with_reducible first | (refine wN fun nl hnl => ?_; revert hnl; (repeat refine wS fun _ _ => ?_); intro hnl) | refine wD (by decide +kernel) ?_ | refine wI (fun h => ?_) fun h => ?_ | refine wF (fun h => ?_) fun h => ?_ | refine wG (fun h => ?_) fun h => ?_ | refine wH (fun h => ?_) fun h => ?_ | ((first | refine mfork_bool (fun h => ?_) fun h => ?_ | refine mgfork_bool (fun h => ?_) fun h => ?_) <;> simp only [h])) | simp (maxSteps := 4000000) (disch := first | decide | assumption | omega | (simp only [wL]; omega)) only [go_sem, simprocAttr, Try.f99, dec_not_self])
theorem nanstr_call (a : ByteArray) : MCalls Try.prog 111 [.str a] St.none (fun r _ => r = .bool false) := by
  refine (MCalls.body 6 [.tmp 2] Try.func111 rfl rfl rfl rfl ?_)
  repeat' (first | (with_reducible first | (refine wN fun nl hnl => ?_; revert hnl; (repeat refine wS fun _ _ => ?_); intro hnl) | refine wD (by decide +kernel) ?_ | refine wI (fun h => ?_) fun h => ?_ | refine wF (fun h => ?_) fun h => ?_ | refine wG (fun h => ?_) fun h => ?_ | refine wH (fun h => ?_) fun h => ?_ | ((first | refine mfork_bool (fun h => ?_) fun h => ?_ | refine mgfork_bool (fun h => ?_) fun h => ?_) <;> simp only [h])) | simp (maxSteps := 4000000) (disch := first | decide | assumption | omega | (simp only [wL]; omega)) only [go_sem, simprocAttr, Try.f111, dec_not_self])

theorem cmpint_call (a b : Int) : MCalls Try.prog 73 [.int .i64 a, .int .i64 b] St.none (fun r _ => r = .int .i64 (ordI (cmpL [a] [b]))) := by
  refine (MCalls.body 20 [.tmp 4] Try.func73 rfl rfl rfl rfl ?_)
  repeat' (first | (with_reducible refine use_pure (nanint_call _) ?_) | (with_reducible first | (refine wN fun nl hnl => ?_; revert hnl; (repeat refine wS fun _ _ => ?_); intro hnl) | refine wD (by decide +kernel) ?_ | refine wI (fun h => ?_) fun h => ?_ | refine wF (fun h => ?_) fun h => ?_ | refine wG (fun h => ?_) fun h => ?_ | refine wH (fun h => ?_) fun h => ?_ | ((first | refine mfork_bool (fun h => ?_) fun h => ?_ | refine mgfork_bool (fun h => ?_) fun h => ?_) <;> simp only [h])) | simp (maxSteps := 4000000) (disch := first | decide | assumption | omega | (simp only [wL]; omega)) only [go_sem, simprocAttr, Try.f73])
  all_goals simp [cmpL, ordI, *]

theorem cmpstr_call (a b : ByteArray) : MCalls Try.prog 100 [.str a, .str b] St.none (fun r _ => r = .int .i64 (ordI (cmpL (bk a) (bk b)))) := by
  refine (MCalls.body 20 [.tmp 4] Try.func100 rfl rfl rfl rfl ?_)
  have hb := bytesLess_cmp a.toList b.toList
  change _ = decide (cmpL (bk a) (bk b) = .lt) at hb
  repeat' (first | (with_reducible refine use_pure (nanstr_call _) ?_) | (with_reducible first | (refine wN fun nl hnl => ?_; revert hnl; (repeat refine wS fun _ _ => ?_); intro hnl) | refine wD (by decide +kernel) ?_ | refine wI (fun h => ?_) fun h => ?_ | refine wF (fun h => ?_) fun h => ?_ | refine wG (fun h => ?_) fun h => ?_ | refine wH (fun h => ?_) fun h => ?_ | ((first | refine mfork_bool (fun h => ?_) fun h => ?_ | refine mgfork_bool (fun h => ?_) fun h => ?_) <;> simp only [h])) | simp (maxSteps := 4000000) (disch := first | decide | assumption | omega | (simp only [wL]; omega)) only [go_sem, simprocAttr, Try.f100])
  · rw [hb] at h
    simp only [decide_eq_true_eq] at h
    rw [h]; rfl
  · rename_i h0
    rw [hb] at h0
    simp only [decide_eq_false_iff_not] at h0
    simp only [Bool.not_eq_true', Bool.or_eq_false_iff, decide_eq_false_iff_not] at h
    have h1 : cmpL (bk a) (bk b) ≠ .eq := fun e => h.2 (bytes_inj (cmpL_eq.1 e))
    cases e : cmpL (bk a) (bk b)
    · exact absurd e h0
    · exact absurd e h1
    · rfl
  · rename_i h0
    simp only [h0, Bool.false_or, Bool.not_eq_false', decide_eq_true_eq] at h
    rw [h, cmpL_refl]; rfl

theorem endS_in {l : List ND} {i : Int} (h : ¬ (i < 0 ∨ (l.length : Int) ≤ i)) : endS l i = match endN 1 (l.drop i.toNat) with
    | none => -1
    | some k => i + k := by
  unfold endS
  rw [if_neg (by omega)]
  cases endN 1 (l.drop i.toNat) <;> rfl

theorem pend_call (l : List ND) (hl : l.length ≤ 1000000) (t : Bool) (i : Int) : MCalls Try.prog 52 [.lst 5 (l.map ND.c) t, .int .i64 i] St.none (fun r _ => r = .int .i64 (endS l i)) := by
  refine (MCalls.body 38 [.tmp 4] Try.func52 rfl rfl rfl rfl ?_)
  by_cases hi : i < 0 ∨ (l.length : Int) ≤ i
  · have he : endS l i = -1 := by
      unfold endS
      by_cases h0 : i < 0
      · rw [if_pos h0]
      · rw [if_neg h0, List.drop_eq_nil_of_le (by omega)]; rfl
    rw [he]
    repeat' (first | (with_reducible first | (refine wN fun nl hnl => ?_; revert hnl; (repeat refine wS fun _ _ => ?_); intro hnl) | refine wD (by decide +kernel) ?_ | refine wI (fun h => ?_) fun h => ?_ | refine wF (fun h => ?_) fun h => ?_ | refine wG (fun h => ?_) fun h => ?_ | refine wH (fun h => ?_) fun h => ?_ | ((first | refine mfork_bool (fun h => ?_) fun h => ?_ | refine mgfork_bool (fun h => ?_) fun h => ?_) <;> simp only [h])) | simp (maxSteps := 4000000) (disch := first | decide | assumption | omega | (simp only [wL]; omega)) only [go_sem, simprocAttr, Try.f52])
  · obtain ⟨m, hm⟩ : ∃ m, l.drop i.toNat = m := ⟨_, rfl⟩
    have hml : l.length - i.toNat = m.length := by rw [← hm]; simp
    have hm0 : m.length ≤ 1000000 := by omega
    have hb : i + m.length ≤ 1000000 := by omega
    have h0 : 0 ≤ i := by omega
    rw [endS_in hi, hm]
    repeat' (first | (with_reducible first | (refine wN fun nl hnl => ?_; revert hnl; (repeat refine wS fun _ _ => ?_); intro hnl) | refine wD (by decide +kernel) ?_ | refine wI (fun h => ?_) fun h => ?_ | refine wF (fun h => ?_) fun h => ?_ | refine wG (fun h => ?_) fun h => ?_ | refine wH (fun h => ?_) fun h => ?_ | ((first | refine mfork_bool (fun h => ?_) fun h => ?_ | refine mgfork_bool (fun h => ?_) fun h => ?_) <;> simp only [h])) | simp (maxSteps := 4000000) (disch := first | decide | assumption | omega | (simp only [wL]; omega)) only [go_sem, simprocAttr, Try.f52, hm, hml])
    refine mloop_intro (α := Nat × Nat) (fun a => ⟨38, [(20, .int .i64 (a.1 : Int)), (19, .int .i64 (m.length : Int)), (18, .lst 5 (m.map ND.c) t), (5, .int .i64 (a.2 : Int)), (1, .int .i64 i)], []⟩) (fun _ => St.none)
      (fun a => a.1 ≤ m.length ∧ 1 ≤ a.2 ∧ a.2 ≤ 1 + a.1 ∧ endN 1 m = (endN a.2 (m.drop a.1)).map (· + a.1)) (fun a => m.length - a.1) (.of (.less ?_ (St.le_refl _)) ⟨(0, 1), rfl, rfl, by simp⟩) ?_
    · simp (maxSteps := 4000000) (disch := first | decide | assumption | omega | (simp only [wL]; omega)) only [go_sem, simprocAttr, weak_int, weak_same]
      all_goals omega
    · rintro ⟨k, n⟩ ⟨h1, h2, h3, h4⟩
      simp only at h1 h2 h3 h4 ⊢
      obtain ⟨q, rfl⟩ : ∃ q, n = q + 1 := ⟨n - 1, by omega⟩
      by_cases hk : k < m.length
      · have hp := parts_cases (m.getD k nd0).op
        rw [endN_step hk] at h4
        obtain ⟨pp, hpp⟩ : ∃ pp : Nat, parts (m.getD k nd0).op = pp := ⟨_, rfl⟩
        rw [hpp] at h4 hp
        by_cases hz : q + pp = 0
        · rw [hz] at h4
          have hq : q = 0 := by omega
          have hpz : pp = 0 := by omega
          subst hq
          rw [hpz] at hpp
          repeat' (first | (with_reducible refine use_pure (parts_call _) ?_) | (with_reducible first | (refine wN fun nl hnl => ?_; revert hnl; (repeat refine wS fun _ _ => ?_); intro hnl) | refine wD (by decide +kernel) ?_ | refine wI (fun h => ?_) fun h => ?_ | refine wF (fun h => ?_) fun h => ?_ | refine wG (fun h => ?_) fun h => ?_ | refine wH (fun h => ?_) fun h => ?_ | ((first | refine mfork_bool (fun h => ?_) fun h => ?_ | refine mgfork_bool (fun h => ?_) fun h => ?_) <;> simp only [h])) | simp (maxSteps := 4000000) (disch := first | decide | assumption | omega | (simp only [wL]; omega)) only [go_sem, simprocAttr, getD_mapd nd0, hpp])
          rw [h4]
          simp only [endN, Option.map_some, MV.int.injEq, true_and]
          have e1 : ((0 + 1 + k : Nat) : Int) = (k : Int) + 1 := by omega
          rw [e1, Int.add_assoc]
        · repeat' (first | (with_reducible refine use_pure (parts_call _) ?_) | (with_reducible first | (refine wN fun nl hnl => ?_; revert hnl; (repeat refine wS fun _ _ => ?_); intro hnl) | refine wD (by decide +kernel) ?_ | refine wI (fun h => ?_) fun h => ?_ | refine wF (fun h => ?_) fun h => ?_ | refine wG (fun h => ?_) fun h => ?_ | refine wH (fun h => ?_) fun h => ?_ | ((first | refine mfork_bool (fun h => ?_) fun h => ?_ | refine mgfork_bool (fun h => ?_) fun h => ?_) <;> simp only [h])) | simp (maxSteps := 4000000) (disch := first | decide | assumption | omega | (simp only [wL]; omega)) only [go_sem, simprocAttr, getD_mapd nd0, hpp])
          refine .of (.less (l1 := [(20, .int .i64 ((k + 1 : Nat) : Int)), (19, .int .i64 (m.length : Int)), (18, .lst 5 (m.map ND.c) t), (5, .int .i64 ((q + pp : Nat) : Int)), (1, .int .i64 i)]) ?_ (St.none_le _)) ⟨(k + 1, q + pp), rfl, rfl, ⟨by simp only; omega, by simp only; omega, by simp only; omega, ?_⟩, by simp only; omega⟩
          · simp (maxSteps := 4000000) (disch := first | decide | assumption | omega | (simp only [wL]; omega)) only [go_sem, simprocAttr, weak_int, weak_same]
            all_goals omega
          · rw [h4]
            simp only [Option.map_map]
            congr 1
            funext k
            simp only [Function.comp]
            omega
      · rw [List.drop_eq_nil_of_le (by omega)] at h4
        rw [h4]
        repeat' (first | (with_reducible first | (refine wN fun nl hnl => ?_; revert hnl; (repeat refine wS fun _ _ => ?_); intro hnl) | refine wD (by decide +kernel) ?_ | refine wI (fun h => ?_) fun h => ?_ | refine wF (fun h => ?_) fun h => ?_ | refine wG (fun h => ?_) fun h => ?_ | refine wH (fun h => ?_) fun h => ?_ | ((first | refine mfork_bool (fun h => ?_) fun h => ?_ | refine mgfork_bool (fun h => ?_) fun h => ?_) <;> simp only [h])) | simp (maxSteps := 4000000) (disch := first | decide | assumption | omega | (simp only [wL]; omega)) only [go_sem, simprocAttr, getD_mapd nd0])
        rfl

theorem index_call (p : ND → Bool) (g : FuncId) (l : List ND) (hl : l.length ≤ 1000000) (t : Bool) (hg : ∀ x, x ∈ l → MCalls Try.prog g [.agg x.c] St.none (fun r _ => r = .bool (p x))) :
    MCalls Try.prog 75 [.lst 5 (l.map ND.c) t, .fn (.func g) [] []] St.none (fun r _ => r = .int .i64 (if l.any p then (l.findIdx p : Int) else -1)) := by
  refine (MCalls.body 19 [.tmp 4] Try.func75 rfl rfl rfl rfl ?_)
  repeat' (first | (with_reducible first | (refine wN fun nl hnl => ?_; revert hnl; (repeat refine wS fun _ _ => ?_); intro hnl) | refine wD (by decide +kernel) ?_ | refine wI (fun h => ?_) fun h => ?_ | refine wF (fun h => ?_) fun h => ?_ | refine wG (fun h => ?_) fun h => ?_ | refine wH (fun h => ?_) fun h => ?_ | ((first | refine mfork_bool (fun h => ?_) fun h => ?_ | refine mgfork_bool (fun h => ?_) fun h => ?_) <;> simp only [h])) | simp (maxSteps := 4000000) (disch := first | decide | assumption | omega | (simp only [wL]; omega)) only [go_sem, simprocAttr, Try.f75])
  refine mloop_intro (α := Nat) (fun k => ⟨19, [(8, .int .i64 (k : Int)), (7, .int .i64 (l.length : Int)), (6, .lst 5 (l.map ND.c) t), (0, .lst 5 (l.map ND.c) t), (1, .fn (.func g) [] [])], []⟩) (fun _ => St.none)
    (fun k => k ≤ l.length ∧ (l.take k).any p = false) (fun k => l.length - k) (.of (.less ?_ (St.le_refl _)) ⟨0, rfl, rfl, by simp⟩) ?_
  · simp (maxSteps := 4000000) (disch := first | decide | assumption | omega | (simp only [wL]; omega)) only [go_sem, simprocAttr, weak_int, weak_same]
    all_goals rfl
  · rintro k ⟨h1, h2⟩
    by_cases hk : k < l.length
    · have hgk := hg _ (getD_mem nd0 hk)
      cases hp : p (l.getD k nd0)
      · rw [hp] at hgk
        repeat' (first | (with_reducible refine use_pure hgk ?_) | (with_reducible first | (refine wN fun nl hnl => ?_; revert hnl; (repeat refine wS fun _ _ => ?_); intro hnl) | refine wD (by decide +kernel) ?_ | refine wI (fun h => ?_) fun h => ?_ | refine wF (fun h => ?_) fun h => ?_ | refine wG (fun h => ?_) fun h => ?_ | refine wH (fun h => ?_) fun h => ?_ | ((first | refine mfork_bool (fun h => ?_) fun h => ?_ | refine mgfork_bool (fun h => ?_) fun h => ?_) <;> simp only [h])) | simp (maxSteps := 4000000) (disch := first | decide | assumption | omega | (simp only [wL]; omega)) only [go_sem, simprocAttr, getD_mapd nd0])
        refine .of (.less (l1 := [(8, .int .i64 ((k + 1 : Nat) : Int)), (7, .int .i64 (l.length : Int)), (6, .lst 5 (l.map ND.c) t), (0, .lst 5 (l.map ND.c) t), (1, .fn (.func g) [] [])]) ?_ (St.le_refl _)) ⟨k + 1, rfl, rfl, ⟨by omega, ?_⟩, by omega⟩
        · simp (maxSteps := 4000000) (disch := first | decide | assumption | omega | (simp only [wL]; omega)) only [go_sem, simprocAttr, weak_int, weak_same]
          all_goals omega
        · rw [any_take_succ hk, h2, ← getD_of_lt nd0 hk, hp]; rfl
      · rw [hp] at hgk
        have hany : l.any p = true := List.any_eq_true.2 ⟨_, getD_mem nd0 hk, hp⟩
        have hf : l.findIdx p = k := by
          rw [List.findIdx_eq hk]
          refine ⟨by rw [← getD_of_lt nd0 hk]; exact hp, fun j hj => ?_⟩
          have := List.any_eq_false.1 h2 l[j] (by rw [List.mem_take_iff_getElem]; exact ⟨j, by omega, rfl⟩)
          simpa using this
        rw [hany, hf]
        repeat' (first | (with_reducible refine use_pure hgk ?_) | (with_reducible first | (refine wN fun nl hnl => ?_; revert hnl; (repeat refine wS fun _ _ => ?_); intro hnl) | refine wD (by decide +kernel) ?_ | refine wI (fun h => ?_) fun h => ?_ | refine wF (fun h => ?_) fun h => ?_ | refine wG (fun h => ?_) fun h => ?_ | refine wH (fun h => ?_) fun h => ?_ | ((first | refine mfork_bool (fun h => ?_) fun h => ?_ | refine mgfork_bool (fun h => ?_) fun h => ?_) <;> simp only [h])) | simp (maxSteps := 4000000) (disch := first | decide | assumption | omega | (simp only [wL]; omega)) only [go_sem, simprocAttr, getD_mapd nd0])
    · have : k = l.length := by omega
      subst this
      rw [List.take_length] at h2
      rw [h2]
      repeat' (first | (with_reducible first | (refine wN fun nl hnl => ?_; revert hnl; (repeat refine wS fun _ _ => ?_); intro hnl) | refine wD (by decide +kernel) ?_ | refine wI (fun h => ?_) fun h => ?_ | refine wF (fun h => ?_) fun h => ?_ | refine wG (fun h => ?_) fun h => ?_ | refine wH (fun h => ?_) fun h => ?_ | ((first | refine mfork_bool (fun h => ?_) fun h => ?_ | refine mgfork_bool (fun h => ?_) fun h => ?_) <;> simp only [h])) | simp (maxSteps := 4000000) (disch := first | decide | assumption | omega | (simp only [wL]; omega)) only [go_sem, simprocAttr, getD_mapd nd0])

theorem contains_call (p : ND → Bool) (g : FuncId) (l : List ND) (hl : l.length ≤ 1000000) (t : Bool) (hg : ∀ x, x ∈ l → MCalls Try.prog g [.agg x.c] St.none (fun r _ => r = .bool (p x))) :
    MCalls Try.prog 53 [.lst 5 (l.map ND.c) t, .fn (.func g) [] []] St.none (fun r _ => r = .bool (l.any p)) := by
  refine (MCalls.body 9 [.tmp 4] Try.func53 rfl rfl rfl rfl ?_)
  have hi := index_call p g l hl t hg
  cases hany : l.any p
  · rw [hany] at hi
    simp only [Bool.false_eq_true, if_false] at hi
    repeat' (first | (with_reducible refine use_pure hi ?_) | (with_reducible first | (refine wN fun nl hnl => ?_; revert hnl; (repeat refine wS fun _ _ => ?_); intro hnl) | refine wD (by decide +kernel) ?_ | refine wI (fun h => ?_) fun h => ?_ | refine wF (fun h => ?_) fun h => ?_ | refine wG (fun h => ?_) fun h => ?_ | refine wH (fun h => ?_) fun h => ?_ | ((first | refine mfork_bool (fun h => ?_) fun h => ?_ | refine mgfork_bool (fun h => ?_) fun h => ?_) <;> simp only [h])) | simp (maxSteps := 4000000) (disch := first | decide | assumption | omega | (simp only [wL]; omega)) only [go_sem, simprocAttr, Try.f53])
  · rw [hany] at hi
    simp only [if_true] at hi
    repeat' (first | (with_reducible refine use_pure hi ?_) | (with_reducible first | (refine wN fun nl hnl => ?_; revert hnl; (repeat refine wS fun _ _ => ?_); intro hnl) | refine wD (by decide +kernel) ?_ | refine wI (fun h => ?_) fun h => ?_ | refine wF (fun h => ?_) fun h => ?_ | refine wG (fun h => ?_) fun h => ?_ | refine wH (fun h => ?_) fun h => ?_ | ((first | refine mfork_bool (fun h => ?_) fun h => ?_ | refine mgfork_bool (fun h => ?_) fun h => ?_) <;> simp only [h])) | simp (maxSteps := 4000000) (disch := first | decide | assumption | omega | (simp only [wL]; omega)) only [go_sem, simprocAttr, Try.f53])
    simp

theorem or_call (a b c : Int) : MCalls Try.prog 72 [.lst 1 [[.int .i64 a], [.int .i64 b], [.int .i64 c]] false] St.none (fun r _ => r = .int .i64 (if a ≠ 0 then a else if b ≠ 0 then b else c)) := by
  refine (MCalls.body 18 [.tmp 2] Try.func72 rfl rfl rfl rfl ?_)
  repeat' (first | (with_reducible first | (refine wN fun nl hnl => ?_; revert hnl; (repeat refine wS fun _ _ => ?_); intro hnl) | refine wD (by decide +kernel) ?_ | refine wI (fun h => ?_) fun h => ?_ | refine wF (fun h => ?_) fun h => ?_ | refine wG (fun h => ?_) fun h => ?_ | refine wH (fun h => ?_) fun h => ?_ | ((first | refine mfork_bool (fun h => ?_) fun h => ?_ | refine mgfork_bool (fun h => ?_) fun h => ?_) <;> simp only [h])) | simp (maxSteps := 4000000) (disch := first | decide | assumption | omega | (simp only [wL]; omega)) only [go_sem, simprocAttr, Try.f72])
  refine mloop_intro (α := Nat) (fun k => ⟨18, [(8, .int .i64 (k : Int)), (7, .int .i64 3), (6, .lst 1 [[.int .i64 a], [.int .i64 b], [.int .i64 c]] false), (3, .int .i64 0)], []⟩) (fun _ => St.none)
    (fun k => k ≤ 3 ∧ (0 < k → a = 0) ∧ (1 < k → b = 0) ∧ (2 < k → c = 0)) (fun k => 3 - k) (.of (.less ?_ (St.le_refl _)) ⟨0, rfl, rfl, by omega⟩) ?_
  · simp (maxSteps := 4000000) (disch := first | decide | assumption | omega | (simp only [wL]; omega)) only [go_sem, simprocAttr, weak_int, weak_same]
    all_goals omega
  · rintro k ⟨h1, h2, h3, h4⟩
    have hk : k = 0 ∨ k = 1 ∨ k = 2 ∨ k = 3 := by omega
    rcases hk with rfl | rfl | rfl | rfl
    · by_cases ha : a = 0
      · subst ha
        repeat' (first | (with_reducible first | (refine wN fun nl hnl => ?_; revert hnl; (repeat refine wS fun _ _ => ?_); intro hnl) | refine wD (by decide +kernel) ?_ | refine wI (fun h => ?_) fun h => ?_ | refine wF (fun h => ?_) fun h => ?_ | refine wG (fun h => ?_) fun h => ?_ | refine wH (fun h => ?_) fun h => ?_ | ((first | refine mfork_bool (fun h => ?_) fun h => ?_ | refine mgfork_bool (fun h => ?_) fun h => ?_) <;> simp only [h])) | simp (maxSteps := 4000000) (disch := first | decide | assumption | omega | (simp only [wL]; omega)) only [go_sem, simprocAttr])
        refine .of (.less (l1 := [(8, .int .i64 ((1 : Nat) : Int)), (7, .int .i64 3), (6, .lst 1 [[.int .i64 0], [.int .i64 b], [.int .i64 c]] false), (3, .int .i64 0)]) ?_ (St.none_le _)) ⟨1, rfl, rfl, ⟨by omega, fun _ => trivial, fun h => by first | assumption | omega, fun h => by first | assumption | omega⟩, by omega⟩
        simp (maxSteps := 4000000) (disch := first | decide | assumption | omega | (simp only [wL]; omega)) only [go_sem, simprocAttr, weak_int, weak_same]
        all_goals omega
      · repeat' (first | (with_reducible first | (refine wN fun nl hnl => ?_; revert hnl; (repeat refine wS fun _ _ => ?_); intro hnl) | refine wD (by decide +kernel) ?_ | refine wI (fun h => ?_) fun h => ?_ | refine wF (fun h => ?_) fun h => ?_ | refine wG (fun h => ?_) fun h => ?_ | refine wH (fun h => ?_) fun h => ?_ | ((first | refine mfork_bool (fun h => ?_) fun h => ?_ | refine mgfork_bool (fun h => ?_) fun h => ?_) <;> simp only [h])) | simp (maxSteps := 4000000) (disch := first | decide | assumption | omega | (simp only [wL]; omega)) only [go_sem, simprocAttr])
        all_goals simp [ha]
    · have ha := h2 (by omega)
      by_cases hb : b = 0
      · repeat' (first | (with_reducible first | (refine wN fun nl hnl => ?_; revert hnl; (repeat refine wS fun _ _ => ?_); intro hnl) | refine wD (by decide +kernel) ?_ | refine wI (fun h => ?_) fun h => ?_ | refine wF (fun h => ?_) fun h => ?_ | refine wG (fun h => ?_) fun h => ?_ | refine wH (fun h => ?_) fun h => ?_ | ((first | refine mfork_bool (fun h => ?_) fun h => ?_ | refine mgfork_bool (fun h => ?_) fun h => ?_) <;> simp only [h])) | simp (maxSteps := 4000000) (disch := first | decide | assumption | omega | (simp only [wL]; omega)) only [go_sem, simprocAttr])
        refine .of (.less (l1 := [(8, .int .i64 ((2 : Nat) : Int)), (7, .int .i64 3), (6, .lst 1 [[.int .i64 a], [.int .i64 b], [.int .i64 c]] false), (3, .int .i64 0)]) ?_ (St.none_le _)) ⟨2, rfl, rfl, ⟨by omega, fun _ => by assumption, fun h => by first | assumption | omega, fun h => by first | assumption | omega⟩, by omega⟩
        simp (maxSteps := 4000000) (disch := first | decide | assumption | omega | (simp only [wL]; omega)) only [go_sem, simprocAttr, weak_int, weak_same]
        all_goals omega
      · repeat' (first | (with_reducible first | (refine wN fun nl hnl => ?_; revert hnl; (repeat refine wS fun _ _ => ?_); intro hnl) | refine wD (by decide +kernel) ?_ | refine wI (fun h => ?_) fun h => ?_ | refine wF (fun h => ?_) fun h => ?_ | refine wG (fun h => ?_) fun h => ?_ | refine wH (fun h => ?_) fun h => ?_ | ((first | refine mfork_bool (fun h => ?_) fun h => ?_ | refine mgfork_bool (fun h => ?_) fun h => ?_) <;> simp only [h])) | simp (maxSteps := 4000000) (disch := first | decide | assumption | omega | (simp only [wL]; omega)) only [go_sem, simprocAttr])
        all_goals simp [ha, hb]
    · have ha := h2 (by omega)
      have hb := h3 (by omega)
      by_cases hc : c = 0
      · repeat' (first | (with_reducible first | (refine wN fun nl hnl => ?_; revert hnl; (repeat refine wS fun _ _ => ?_); intro hnl) | refine wD (by decide +kernel) ?_ | refine wI (fun h => ?_) fun h => ?_ | refine wF (fun h => ?_) fun h => ?_ | refine wG (fun h => ?_) fun h => ?_ | refine wH (fun h => ?_) fun h => ?_ | ((first | refine mfork_bool (fun h => ?_) fun h => ?_ | refine mgfork_bool (fun h => ?_) fun h => ?_) <;> simp only [h])) | simp (maxSteps := 4000000) (disch := first | decide | assumption | omega | (simp only [wL]; omega)) only [go_sem, simprocAttr])
        refine .of (.less (l1 := [(8, .int .i64 ((3 : Nat) : Int)), (7, .int .i64 3), (6, .lst 1 [[.int .i64 a], [.int .i64 b], [.int .i64 c]] false), (3, .int .i64 0)]) ?_ (St.none_le _)) ⟨3, rfl, rfl, ⟨by omega, fun _ => by assumption, fun h => by first | assumption | omega, fun h => by first | assumption | omega⟩, by omega⟩
        simp (maxSteps := 4000000) (disch := first | decide | assumption | omega | (simp only [wL]; omega)) only [go_sem, simprocAttr, weak_int, weak_same]
        all_goals omega
      · repeat' (first | (with_reducible first | (refine wN fun nl hnl => ?_; revert hnl; (repeat refine wS fun _ _ => ?_); intro hnl) | refine wD (by decide +kernel) ?_ | refine wI (fun h => ?_) fun h => ?_ | refine wF (fun h => ?_) fun h => ?_ | refine wG (fun h => ?_) fun h => ?_ | refine wH (fun h => ?_) fun h => ?_ | ((first | refine mfork_bool (fun h => ?_) fun h => ?_ | refine mgfork_bool (fun h => ?_) fun h => ?_) <;> simp only [h])) | simp (maxSteps := 4000000) (disch := first | decide | assumption | omega | (simp only [wL]; omega)) only [go_sem, simprocAttr])
        all_goals simp [ha, hb]
    · repeat' (first | (with_reducible first | (refine wN fun nl hnl => ?_; revert hnl; (repeat refine wS fun _ _ => ?_); intro hnl) | refine wD (by decide +kernel) ?_ | refine wI (fun h => ?_) fun h => ?_ | refine wF (fun h => ?_) fun h => ?_ | refine wG (fun h => ?_) fun h => ?_ | refine wH (fun h => ?_) fun h => ?_ | ((first | refine mfork_bool (fun h => ?_) fun h => ?_ | refine mgfork_bool (fun h => ?_) fun h => ?_) <;> simp only [h])) | simp (maxSteps := 4000000) (disch := first | decide | assumption | omega | (simp only [wL]; omega)) only [go_sem, simprocAttr])
      simp [h2 (by omega), h3 (by omega), h4 (by omega)]

theorem cmpfn_call (g : FuncId) (a b : List ND) (la : a.length ≤ 1000000) (lb : b.length ≤ 1000000) (ta tb : Bool) (hg : ∀ x y, x ∈ a → y ∈ b → MCalls Try.prog g [.agg x.c, .agg y.c] St.none (fun r _ => r = .int .i64 (ordI (cmpL x.key y.key)))) :
    MCalls Try.prog 70 [.lst 5 (a.map ND.c) ta, .lst 5 (b.map ND.c) tb, .fn (.func g) [] []] St.none (fun r _ => r = .int .i64 (ordI (cmpF a b))) := by
  refine (MCalls.body 39 [.tmp 6] Try.func70 rfl rfl rfl rfl ?_)
  repeat' (first | (with_reducible first | (refine wN fun nl hnl => ?_; revert hnl; (repeat refine wS fun _ _ => ?_); intro hnl) | refine wD (by decide +kernel) ?_ | refine wI (fun h => ?_) fun h => ?_ | refine wF (fun h => ?_) fun h => ?_ | refine wG (fun h => ?_) fun h => ?_ | refine wH (fun h => ?_) fun h => ?_ | ((first | refine mfork_bool (fun h => ?_) fun h => ?_ | refine mgfork_bool (fun h => ?_) fun h => ?_) <;> simp only [h])) | simp (maxSteps := 4000000) (disch := first | decide | assumption | omega | (simp only [wL]; omega)) only [go_sem, simprocAttr, Try.f70])
  refine mloop_intro (α := Nat) (fun k => ⟨39, [(13, .int .i64 (k : Int)), (12, .int .i64 (a.length : Int)), (11, .lst 5 (a.map ND.c) ta), (0, .lst 5 (a.map ND.c) ta), (1, .lst 5 (b.map ND.c) tb), (2, .fn (.func g) [] [])], []⟩) (fun _ => St.none)
    (fun i => i ≤ a.length ∧ i ≤ b.length ∧ cmpF a b = cmpF (a.drop i) (b.drop i)) (fun k => a.length - k) (.of (.less ?_ (St.le_refl _)) ⟨0, rfl, rfl, by simp⟩) ?_
  · simp (maxSteps := 4000000) (disch := first | decide | assumption | omega | (simp only [wL]; omega)) only [go_sem, simprocAttr, weak_int, weak_same]
    all_goals rfl
  · rintro i ⟨h3, h4, h5⟩
    by_cases hi1 : i < a.length
    · by_cases hi2 : i < b.length
      · rw [drop_getD nd0 hi1, drop_getD nd0 hi2, cmpF_cons] at h5
        have hord := hg _ _ (getD_mem nd0 hi1) (getD_mem nd0 hi2)
        generalize ho : cmpL (a.getD i nd0).key (b.getD i nd0).key = o at h5 hord
        by_cases hoe : o = .eq
        · have h0 : ordI o = 0 := by rw [hoe]; rfl
          rw [h0] at hord
          rw [if_pos hoe] at h5
          repeat' (first | (with_reducible refine use_pure hord ?_) | (with_reducible first | (refine wN fun nl hnl => ?_; revert hnl; (repeat refine wS fun _ _ => ?_); intro hnl) | refine wD (by decide +kernel) ?_ | refine wI (fun h => ?_) fun h => ?_ | refine wF (fun h => ?_) fun h => ?_ | refine wG (fun h => ?_) fun h => ?_ | refine wH (fun h => ?_) fun h => ?_ | ((first | refine mfork_bool (fun h => ?_) fun h => ?_ | refine mgfork_bool (fun h => ?_) fun h => ?_) <;> simp only [h])) | simp (maxSteps := 4000000) (disch := first | decide | assumption | omega | (simp only [wL]; omega)) only [go_sem, simprocAttr, getD_mapd nd0])
          refine .of (.less (l1 := [(13, .int .i64 ((i + 1 : Nat) : Int)), (12, .int .i64 (a.length : Int)), (11, .lst 5 (a.map ND.c) ta), (0, .lst 5 (a.map ND.c) ta), (1, .lst 5 (b.map ND.c) tb), (2, .fn (.func g) [] [])]) ?_ (St.none_le _)) ⟨i + 1, rfl, rfl, ⟨by omega, by omega, h5⟩, by omega⟩
          simp (maxSteps := 4000000) (disch := first | decide | assumption | omega | (simp only [wL]; omega)) only [go_sem, simprocAttr, weak_int, weak_same]
          all_goals omega
        · have h0 : ordI o ≠ 0 := fun h => hoe (ordI_zero.1 h)
          rw [if_neg hoe] at h5
          rw [h5]
          repeat' (first | (with_reducible refine use_pure hord ?_) | (with_reducible first | (refine wN fun nl hnl => ?_; revert hnl; (repeat refine wS fun _ _ => ?_); intro hnl) | refine wD (by decide +kernel) ?_ | refine wI (fun h => ?_) fun h => ?_ | refine wF (fun h => ?_) fun h => ?_ | refine wG (fun h => ?_) fun h => ?_ | refine wH (fun h => ?_) fun h => ?_ | ((first | refine mfork_bool (fun h => ?_) fun h => ?_ | refine mgfork_bool (fun h => ?_) fun h => ?_) <;> simp only [h])) | simp (maxSteps := 4000000) (disch := first | decide | assumption | omega | (simp only [wL]; omega)) only [go_sem, simprocAttr, getD_mapd nd0])
      · rw [drop_getD nd0 hi1, List.drop_eq_nil_of_le (show b.length ≤ i by omega)] at h5
        rw [h5]
        repeat' (first | (with_reducible first | (refine wN fun nl hnl => ?_; revert hnl; (repeat refine wS fun _ _ => ?_); intro hnl) | refine wD (by decide +kernel) ?_ | refine wI (fun h => ?_) fun h => ?_ | refine wF (fun h => ?_) fun h => ?_ | refine wG (fun h => ?_) fun h => ?_ | refine wH (fun h => ?_) fun h => ?_ | ((first | refine mfork_bool (fun h => ?_) fun h => ?_ | refine mgfork_bool (fun h => ?_) fun h => ?_) <;> simp only [h])) | simp (maxSteps := 4000000) (disch := first | decide | assumption | omega | (simp only [wL]; omega)) only [go_sem, simprocAttr, getD_mapd nd0])
        rfl
    · rw [List.drop_eq_nil_of_le (show a.length ≤ i by omega)] at h5
      by_cases h8 : i < b.length
      · rw [drop_getD nd0 h8] at h5
        rw [h5]
        repeat' (first | (with_reducible first | (refine wN fun nl hnl => ?_; revert hnl; (repeat refine wS fun _ _ => ?_); intro hnl) | refine wD (by decide +kernel) ?_ | refine wI (fun h => ?_) fun h => ?_ | refine wF (fun h => ?_) fun h => ?_ | refine wG (fun h => ?_) fun h => ?_ | refine wH (fun h => ?_) fun h => ?_ | ((first | refine mfork_bool (fun h => ?_) fun h => ?_ | refine mgfork_bool (fun h => ?_) fun h => ?_) <;> simp only [h])) | simp (maxSteps := 4000000) (disch := first | decide | assumption | omega | (simp only [wL]; omega)) only [go_sem, simprocAttr, getD_mapd nd0])
        rfl
      · rw [List.drop_eq_nil_of_le (show b.length ≤ i by omega)] at h5
        rw [h5]
        repeat' (first | (with_reducible first | (refine wN fun nl hnl => ?_; revert hnl; (repeat refine wS fun _ _ => ?_); intro hnl) | refine wD (by decide +kernel) ?_ | refine wI (fun h => ?_) fun h => ?_ | refine wF (fun h => ?_) fun h => ?_ | refine wG (fun h => ?_) fun h => ?_ | refine wH (fun h => ?_) fun h => ?_ | ((first | refine mfork_bool (fun h => ?_) fun h => ?_ | refine mgfork_bool (fun h => ?_) fun h => ?_) <;> simp only [h])) | simp (maxSteps := 4000000) (disch := first | decide | assumption | omega | (simp only [wL]; omega)) only [go_sem, simprocAttr, getD_mapd nd0])
        rfl

theorem vcompare_call (a b : VA) : MCalls Try.prog 74 [.agg a.c, .agg b.c] St.none (fun r _ => r = .int .i64 (ordI (cmpL a.key b.key))) := by
  refine (MCalls.body 28 [.tmp 4] Try.func74 rfl rfl rfl rfl ?_)
  by_cases h1 : a.kd = b.kd
  · have e1 : cmpL a.key b.key = cmpL (a.n :: bk a.s) (b.n :: bk b.s) := by rw [VA.key, VA.key, h1, cmpL_same]; rfl
    have c1 : ordI (cmpL [a.kd] [b.kd]) = 0 := by rw [h1, cmpL_refl]; rfl
    by_cases h2 : a.n = b.n
    · have e2 : cmpL a.key b.key = cmpL (bk a.s) (bk b.s) := by rw [e1, h2, cmpL_same]
      have c2 : ordI (cmpL [a.n] [b.n]) = 0 := by rw [h2, cmpL_refl]; rfl
      rw [e2]
      repeat' (first | (with_reducible refine use_pure (cmpint_call _ _) ?_) | (with_reducible refine use_pure (cmpstr_call _ _) ?_) | (with_reducible first | (refine wN fun nl hnl => ?_; revert hnl; (repeat refine wS fun _ _ => ?_); intro hnl) | refine wD (by decide +kernel) ?_ | refine wI (fun h => ?_) fun h => ?_ | refine wF (fun h => ?_) fun h => ?_ | refine wG (fun h => ?_) fun h => ?_ | refine wH (fun h => ?_) fun h => ?_ | ((first | refine mfork_bool (fun h => ?_) fun h => ?_ | refine mgfork_bool (fun h => ?_) fun h => ?_) <;> simp only [h])) | simp (maxSteps := 4000000) (disch := first | decide | assumption | omega | (simp only [wL]; omega)) only [go_sem, simprocAttr, Try.f74, c1, c2])
    · have e2 : cmpL a.key b.key = cmpL [a.n] [b.n] := by rw [e1, cmpL_ne h2]
      have c2 : ordI (cmpL [a.n] [b.n]) ≠ 0 := fun h => h2 (by have := cmpL_eq.1 (ordI_zero.1 h); simpa using this)
      rw [e2]
      repeat' (first | (with_reducible refine use_pure (cmpint_call _ _) ?_) | (with_reducible refine use_pure (cmpstr_call _ _) ?_) | (with_reducible first | (refine wN fun nl hnl => ?_; revert hnl; (repeat refine wS fun _ _ => ?_); intro hnl) | refine wD (by decide +kernel) ?_ | refine wI (fun h => ?_) fun h => ?_ | refine wF (fun h => ?_) fun h => ?_ | refine wG (fun h => ?_) fun h => ?_ | refine wH (fun h => ?_) fun h => ?_ | ((first | refine mfork_bool (fun h => ?_) fun h => ?_ | refine mgfork_bool (fun h => ?_) fun h => ?_) <;> simp only [h])) | simp (maxSteps := 4000000) (disch := first | decide | assumption | omega | (simp only [wL]; omega)) only [go_sem, simprocAttr, Try.f74, c1])
  · have e1 : cmpL a.key b.key = cmpL [a.kd] [b.kd] := by rw [VA.key, VA.key, cmpL_ne h1]
    have c1 : ordI (cmpL [a.kd] [b.kd]) ≠ 0 := fun h => h1 (by have := cmpL_eq.1 (ordI_zero.1 h); simpa using this)
    rw [e1]
    repeat' (first | (with_reducible refine use_pure (cmpint_call _ _) ?_) | (with_reducible refine use_pure (cmpstr_call _ _) ?_) | (with_reducible first | (refine wN fun nl hnl => ?_; revert hnl; (repeat refine wS fun _ _ => ?_); intro hnl) | refine wD (by decide +kernel) ?_ | refine wI (fun h => ?_) fun h => ?_ | refine wF (fun h => ?_) fun h => ?_ | refine wG (fun h => ?_) fun h => ?_ | refine wH (fun h => ?_) fun h => ?_ | ((first | refine mfork_bool (fun h => ?_) fun h => ?_ | refine mgfork_bool (fun h => ?_) fun h => ?_) <;> simp only [h])) | simp (maxSteps := 4000000) (disch := first | decide | assumption | omega | (simp only [wL]; omega)) only [go_sem, simprocAttr, Try.f74])
end Go.Proofs.Ytielcgplbnlgbaa
end

section
/- Contracts of the program's own functions for filters: the conditions that each theorem names. -/
set_option linter.unusedVariables false
set_option linter.unusedSimpArgs false
namespace Go.Proofs.Ytielcgplbnlgbaa

def cmpIntV : List MV → MV
  | [.int _ a, .int _ b] => .int .i64 (ordI (cmpL [a] [b]))
  | _ => .junk

theorem or_at (l : Nat) (a b c : Int) : MCalls Try.prog 72 [.vec 1 l 0 3] (St.ofList [l] [.row 3 1 [[.int .i64 a], [.int .i64 b], [.int .i64 c]]]) (fun r σ' => r = .int .i64 (if a ≠ 0 then a else if b ≠ 0 then b else c) ∧ σ' = St.ofList [l] [.row 3 1 [[.int .i64 a], [.int .i64 b], [.int .i64 c]]]) :=
  MCalls.lend (or_call a b c) (fun r hr => by rw [hr]; exact .int _ _) rfl (fun i m m' h1 h2 => by
    match i, h1, h2 with
    | 0, h1, h2 =>
      simp only [List.getElem?_cons_zero, Option.some.injEq] at h1 h2
      subst h1 h2
      exact .vecAll (set_hit _ _ _) rfl)

theorem key_or (x y : ND) : (if ordI (cmpL [x.op] [y.op]) ≠ 0 then ordI (cmpL [x.op] [y.op]) else if ordI (cmpL [x.n] [y.n]) ≠ 0 then ordI (cmpL [x.n] [y.n]) else ordI (cmpL x.v.key y.v.key)) = ordI (cmpL x.key y.key) := by
  have z : ∀ a b : Int, ordI (cmpL [a] [b]) = 0 ↔ a = b := fun a b => by rw [ordI_zero, cmpL_eq]; simp
  by_cases h1 : x.op = y.op
  · rw [if_neg (by simp [(z _ _).2 h1])]
    have e1 : cmpL x.key y.key = cmpL (x.n :: x.v.key) (y.n :: y.v.key) := by rw [ND.key, ND.key, h1, cmpL_same]
    by_cases h2 : x.n = y.n
    · rw [if_neg (by simp [(z _ _).2 h2]), e1, h2, cmpL_same]
    · rw [if_pos (by rw [ne_eq, z]; exact h2), e1, cmpL_ne (x := x.v.key) (y := y.v.key) h2]
  · rw [if_pos (by rw [ne_eq, z]; exact h1), ND.key, ND.key, cmpL_ne (x := x.n :: x.v.key) (y := y.n :: y.v.key) h1]

def orC (x y : ND) : Know := fun g ms => if g = 73 then some ⟨[], fun v => v = cmpIntV ms, none⟩ else if g = 74 then some ⟨[], fun v => v = .int .i64 (ordI (cmpL x.v.key y.v.key)), none⟩ else if g = 72 then (match ms with
    | [.vec _ l _ _] => some ⟨[l], fun v => v = .int .i64 (ordI (cmpL x.key y.key)), none⟩
    | _ => none) else none

theorem pcmp1_call (x y : ND) : MCalls Try.prog 71 [.agg x.c, .agg y.c] St.none (fun r _ => r = .int .i64 (ordI (cmpL x.key y.key))) := by
  refine (MCalls.body 22 [.tmp 4] Try.func71 rfl rfl rfl rfl ?_)
  have hv := vcompare_call x.v y.v
  have ho := fun l => or_at l (ordI (cmpL [x.op] [y.op])) (ordI (cmpL [x.n] [y.n])) (ordI (cmpL x.v.key y.v.key))
  simp only [key_or] at ho
  repeat' (first | (with_reducible refine mdraw_know mixed (by decide +kernel) (orC x y) ?_) | (with_reducible refine know_pure rfl (cmpint_call _ _) ?_) | (with_reducible refine know_pure rfl hv ?_) | (with_reducible first | (refine wN fun nl hnl => ?_; revert hnl; (repeat refine wS fun _ _ => ?_); intro hnl) | refine wD (by decide +kernel) ?_ | refine wI (fun h => ?_) fun h => ?_ | refine wF (fun h => ?_) fun h => ?_ | refine wG (fun h => ?_) fun h => ?_ | refine wH (fun h => ?_) fun h => ?_ | ((first | refine mfork_bool (fun h => ?_) fun h => ?_ | refine mgfork_bool (fun h => ?_) fun h => ?_) <;> simp only [h])) | simp (maxSteps := 4000000) (disch := first | decide | assumption | omega | (simp only [wL]; omega)) only [go_sem, simprocAttr, Try.f71])
  refine know_at [nl] [.row 3 1 [[.int .i64 (ordI (cmpL [x.op] [y.op]))], [.int .i64 (ordI (cmpL [x.n] [y.n]))], [.int .i64 (ordI (cmpL x.v.key y.v.key))]]] rfl ?_ (ho nl) ⟨_, rfl⟩ (fun v hv => ?_)
  · simp (maxSteps := 4000000) (disch := first | decide | assumption | omega | (simp only [wL]; omega)) only [go_sem, simprocAttr]
  subst hv
  repeat' (first | (with_reducible first | (refine wN fun nl hnl => ?_; revert hnl; (repeat refine wS fun _ _ => ?_); intro hnl) | refine wD (by decide +kernel) ?_ | refine wI (fun h => ?_) fun h => ?_ | refine wF (fun h => ?_) fun h => ?_ | refine wG (fun h => ?_) fun h => ?_ | refine wH (fun h => ?_) fun h => ?_ | ((first | refine mfork_bool (fun h => ?_) fun h => ?_ | refine mgfork_bool (fun h => ?_) fun h => ?_) <;> simp only [h])) | simp (maxSteps := 4000000) (disch := first | decide | assumption | omega | (simp only [wL]; omega)) only [go_sem, simprocAttr])

theorem vaOk_kd {v : VA} (h : vaOk v = true) : v.kd = 0 ∨ v.kd = 1 ∨ v.kd = 2 := by
  unfold vaOk at h
  split at h
  · exact .inl ‹_›
  · split at h
    · exact .inr (.inl ‹_›)
    · split at h
      · exact .inr (.inr ‹_›)
      · cases h

set_option maxHeartbeats 4000000 in
theorem pnode_call (x : ND) : MCalls Try.prog 55 [.agg x.c] St.none (fun r _ => r = .bool (ndOk x)) := by
  refine (MCalls.body 49 [.tmp 2] Try.func55 rfl rfl rfl rfl ?_)
  obtain ⟨op, n, kd, vn, s⟩ := x
  have hvc := vcheck_call kd vn s
  cases hv : vaOk ⟨kd, vn, s⟩
  · rw [hv] at hvc
    have h0 : (⟨kd, vn, s⟩ : VA) ≠ va0 := fun e => by rw [e] at hv; simp [vaOk, va0] at hv
    have hn : ndOk ⟨op, n, kd, vn, s⟩ = false := by simp [ndOk, h0, hv]
    rw [hn]
    repeat' (first | (with_reducible refine use_pure hvc ?_) | (with_reducible first | (refine wN fun nl hnl => ?_; revert hnl; (repeat refine wS fun _ _ => ?_); intro hnl) | refine wD (by decide +kernel) ?_ | refine wI (fun h => ?_) fun h => ?_ | refine wF (fun h => ?_) fun h => ?_ | refine wG (fun h => ?_) fun h => ?_ | refine wH (fun h => ?_) fun h => ?_ | ((first | refine mfork_bool (fun h => ?_) fun h => ?_ | refine mgfork_bool (fun h => ?_) fun h => ?_) <;> simp only [h])) | simp (maxSteps := 4000000) (disch := first | decide | assumption | omega | (simp only [wL]; omega)) only [go_sem, simprocAttr, Try.f55])
  · rw [hv] at hvc
    rcases vaOk_kd hv with h | h | h
    · simp only at h
      subst h
      have hz : (⟨0, vn, s⟩ : VA) = va0 := by simpa [vaOk] using hv
      simp only [va0, VA.mk.injEq, true_and] at hz
      obtain ⟨rfl, rfl⟩ := hz
      repeat' (first | (with_reducible refine use_pure hvc ?_) | (with_reducible first | (refine wN fun nl hnl => ?_; revert hnl; (repeat refine wS fun _ _ => ?_); intro hnl) | refine wD (by decide +kernel) ?_ | refine wI (fun h => ?_) fun h => ?_ | refine wF (fun h => ?_) fun h => ?_ | refine wG (fun h => ?_) fun h => ?_ | refine wH (fun h => ?_) fun h => ?_ | ((first | refine mfork_bool (fun h => ?_) fun h => ?_ | refine mgfork_bool (fun h => ?_) fun h => ?_) <;> simp only [h])) | simp (maxSteps := 4000000) (disch := first | decide | assumption | omega | (simp only [wL]; omega)) only [go_sem, simprocAttr, Try.f55])
      all_goals first
        | (simp [ndOk, va0, vaOk, andK, IntKind.wrap, IntKind.bits, IntKind.signed, *]; done)
        | (simp [ndOk, va0, vaOk, andK, IntKind.wrap, IntKind.bits, IntKind.signed, *]; omega)
        | (simp [ndOk, va0, vaOk, andK, IntKind.wrap, IntKind.bits, IntKind.signed, *]; decide)
    · simp only at h
      subst h
      have hz : (⟨1, vn, s⟩ : VA) ≠ va0 := by simp [va0]
      repeat' (first | (with_reducible refine use_pure hvc ?_) | (with_reducible first | (refine wN fun nl hnl => ?_; revert hnl; (repeat refine wS fun _ _ => ?_); intro hnl) | refine wD (by decide +kernel) ?_ | refine wI (fun h => ?_) fun h => ?_ | refine wF (fun h => ?_) fun h => ?_ | refine wG (fun h => ?_) fun h => ?_ | refine wH (fun h => ?_) fun h => ?_ | ((first | refine mfork_bool (fun h => ?_) fun h => ?_ | refine mgfork_bool (fun h => ?_) fun h => ?_) <;> simp only [h])) | simp (maxSteps := 4000000) (disch := first | decide | assumption | omega | (simp only [wL]; omega)) only [go_sem, simprocAttr, Try.f55])
      all_goals first
        | (simp [ndOk, hz, hv, andK, IntKind.wrap, IntKind.bits, IntKind.signed, *]; done)
        | (simp [ndOk, hz, hv, andK, IntKind.wrap, IntKind.bits, IntKind.signed, *]; omega)
        | (simp [ndOk, hz, hv, andK, IntKind.wrap, IntKind.bits, IntKind.signed, *]; decide)
    · simp only at h
      subst h
      have hz : (⟨2, vn, s⟩ : VA) ≠ va0 := by simp [va0]
      repeat' (first | (with_reducible refine use_pure hvc ?_) | (with_reducible first | (refine wN fun nl hnl => ?_; revert hnl; (repeat refine wS fun _ _ => ?_); intro hnl) | refine wD (by decide +kernel) ?_ | refine wI (fun h => ?_) fun h => ?_ | refine wF (fun h => ?_) fun h => ?_ | refine wG (fun h => ?_) fun h => ?_ | refine wH (fun h => ?_) fun h => ?_ | ((first | refine mfork_bool (fun h => ?_) fun h => ?_ | refine mgfork_bool (fun h => ?_) fun h => ?_) <;> simp only [h])) | simp (maxSteps := 4000000) (disch := first | decide | assumption | omega | (simp only [wL]; omega)) only [go_sem, simprocAttr, Try.f55])
      all_goals first
        | (simp [ndOk, hz, hv, andK, IntKind.wrap, IntKind.bits, IntKind.signed, *]; done)
        | (simp [ndOk, hz, hv, andK, IntKind.wrap, IntKind.bits, IntKind.signed, *]; omega)
        | (simp [ndOk, hz, hv, andK, IntKind.wrap, IntKind.bits, IntKind.signed, *]; decide)
end Go.Proofs.Ytielcgplbnlgbaa
end

section
/- Contracts of the program's own functions for filters (2), and of the library's that they call: the conditions that each theorem names. -/
set_option linter.unusedVariables false
set_option linter.unusedSimpArgs false
namespace Go.Proofs.Ytielcgplbnlgbaa

theorem nfit1_call (x : ND) : MCalls Try.prog 54 [.agg x.c] St.none (fun r _ => r = .bool (!ndOk x)) := by
  refine (MCalls.body 6 [.tmp 2] Try.func54 rfl rfl rfl rfl ?_)
  have h := pnode_call x
  repeat' (first | (with_reducible refine use_pure h ?_) | (with_reducible first | (refine wN fun nl hnl => ?_; revert hnl; (repeat refine wS fun _ _ => ?_); intro hnl) | refine wD (by decide +kernel) ?_ | refine wI (fun h => ?_) fun h => ?_ | refine wF (fun h => ?_) fun h => ?_ | refine wG (fun h => ?_) fun h => ?_ | refine wH (fun h => ?_) fun h => ?_ | ((first | refine mfork_bool (fun h => ?_) fun h => ?_ | refine mgfork_bool (fun h => ?_) fun h => ?_) <;> simp only [h])) | simp (maxSteps := 4000000) (disch := first | decide | assumption | omega | (simp only [wL]; omega)) only [go_sem, simprocAttr, Try.f54])

theorem nfit_call (l : List ND) (t : Bool) : MCalls Try.prog 33 [.lst 5 (l.map ND.c) t] St.none (fun r _ => r = .bool (fitS l)) := by
  refine (MCalls.body 21 [.tmp 2] Try.func33 rfl rfl rfl rfl ?_)
  by_cases h63 : l.length ≤ 63 ∧ 0 < l.length
  · have hne : l ≠ [] := List.length_pos_iff.1 h63.2
    have hc := contains_call (fun x => !ndOk x) 54 l (by omega) t (fun x _ => nfit1_call x)
    have hall : (l.any fun x => !ndOk x) = !l.all ndOk := by
      rw [Bool.eq_iff_iff]
      simp
    rw [hall] at hc
    repeat' (first | (with_reducible refine use_pure (pend_call _ (by omega) _ _) ?_) | (with_reducible refine use_pure hc ?_) | (with_reducible first | (refine wN fun nl hnl => ?_; revert hnl; (repeat refine wS fun _ _ => ?_); intro hnl) | refine wD (by decide +kernel) ?_ | refine wI (fun h => ?_) fun h => ?_ | refine wF (fun h => ?_) fun h => ?_ | refine wG (fun h => ?_) fun h => ?_ | refine wH (fun h => ?_) fun h => ?_ | ((first | refine mfork_bool (fun h => ?_) fun h => ?_ | refine mgfork_bool (fun h => ?_) fun h => ?_) <;> simp only [h])) | simp (maxSteps := 4000000) (disch := first | decide | assumption | omega | (simp only [wL]; omega)) only [go_sem, simprocAttr, Try.f33])
    · simp [fitS, *]
    · have he := Classical.not_not.1 h
      simp [fitS, *]
  · have hf : fitS l = false := by
      simp only [fitS, Bool.and_eq_false_iff, decide_eq_false_iff_not]
      left; left
      rintro ⟨h1, h2⟩; exact h63 ⟨h2, List.length_pos_iff.2 h1⟩
    rw [hf]
    repeat' (first | (with_reducible refine use_pure (pend_call _ (by omega) _ _) ?_) | (with_reducible first | (refine wN fun nl hnl => ?_; revert hnl; (repeat refine wS fun _ _ => ?_); intro hnl) | refine wD (by decide +kernel) ?_ | refine wI (fun h => ?_) fun h => ?_ | refine wF (fun h => ?_) fun h => ?_ | refine wG (fun h => ?_) fun h => ?_ | refine wH (fun h => ?_) fun h => ?_ | ((first | refine mfork_bool (fun h => ?_) fun h => ?_ | refine mgfork_bool (fun h => ?_) fun h => ?_) <;> simp only [h])) | simp (maxSteps := 4000000) (disch := first | decide | assumption | omega | (simp only [wL]; omega)) only [go_sem, simprocAttr, Try.f33])

theorem pcompare_call (a b : List ND) (la : a.length ≤ 1000000) (lb : b.length ≤ 1000000) (ta tb : Bool) : MCalls Try.prog 49 [.lst 5 (a.map ND.c) ta, .lst 5 (b.map ND.c) tb] St.none (fun r _ => r = .int .i64 (ordI (cmpF a b))) := by
  refine (MCalls.body 8 [.tmp 4] Try.func49 rfl rfl rfl rfl ?_)
  have h := cmpfn_call 71 a b la lb ta tb (fun x y _ _ => pcmp1_call x y)
  repeat' (first | (with_reducible refine use_pure h ?_) | (with_reducible first | (refine wN fun nl hnl => ?_; revert hnl; (repeat refine wS fun _ _ => ?_); intro hnl) | refine wD (by decide +kernel) ?_ | refine wI (fun h => ?_) fun h => ?_ | refine wF (fun h => ?_) fun h => ?_ | refine wG (fun h => ?_) fun h => ?_ | refine wH (fun h => ?_) fun h => ?_ | ((first | refine mfork_bool (fun h => ?_) fun h => ?_ | refine mgfork_bool (fun h => ?_) fun h => ?_) <;> simp only [h])) | simp (maxSteps := 4000000) (disch := first | decide | assumption | omega | (simp only [wL]; omega)) only [go_sem, simprocAttr, Try.f49])

theorem lorder_call (x y : ND) : MCalls Try.prog 44 [.agg x.c, .agg y.c] St.none (fun r _ => r = .int .i64 (ordI (cmpL x.key y.key))) := by
  refine (MCalls.body 10 [.tmp 4] Try.func44 rfl rfl rfl rfl ?_)
  have h := pcompare_call [x] [y] (by simp) (by simp) false false
  have e : cmpF [x] [y] = cmpL x.key y.key := by
    rw [cmpF_cons]
    split
    · rename_i h; rw [h]; rfl
    · rfl
  rw [e] at h
  repeat' (first | (with_reducible first | (refine wN fun nl hnl => ?_; revert hnl; (repeat refine wS fun _ _ => ?_); intro hnl) | refine wD (by decide +kernel) ?_ | refine wI (fun h => ?_) fun h => ?_ | refine wF (fun h => ?_) fun h => ?_ | refine wG (fun h => ?_) fun h => ?_ | refine wH (fun h => ?_) fun h => ?_ | ((first | refine mfork_bool (fun h => ?_) fun h => ?_ | refine mgfork_bool (fun h => ?_) fun h => ?_) <;> simp only [h])) | simp (maxSteps := 4000000) (disch := first | decide | assumption | omega | (simp only [wL]; omega)) only [go_sem, simprocAttr, Try.f44])
  refine use_lend [.lst 5 ([x].map ND.c) false, .lst 5 ([y].map ND.c) false] h (.int _ _) rfl (fun i m m' h1 h2 => ?_) ?_
  · match i, h1, h2 with
    | 0, h1, h2 =>
      simp only [List.getElem?_cons_zero, Option.some.injEq] at h1 h2
      subst h1 h2
      exact .vecAll (by first | (simp (maxSteps := 4000000) (disch := first | decide | assumption | omega | (simp only [wL]; omega)) only [go_sem, simprocAttr]; done) | (simp (maxSteps := 4000000) (disch := first | decide | assumption | omega | (simp only [wL]; omega)) only [go_sem, simprocAttr]; rfl)) rfl
    | 1, h1, h2 =>
      simp only [List.getElem?_cons_succ, List.getElem?_cons_zero, Option.some.injEq] at h1 h2
      subst h1 h2
      exact .vecAll (set_hit _ _ _) rfl
  · repeat' (first | (with_reducible first | (refine wN fun nl hnl => ?_; revert hnl; (repeat refine wS fun _ _ => ?_); intro hnl) | refine wD (by decide +kernel) ?_ | refine wI (fun h => ?_) fun h => ?_ | refine wF (fun h => ?_) fun h => ?_ | refine wG (fun h => ?_) fun h => ?_ | refine wH (fun h => ?_) fun h => ?_ | ((first | refine mfork_bool (fun h => ?_) fun h => ?_ | refine mgfork_bool (fun h => ?_) fun h => ?_) <;> simp only [h])) | simp (maxSteps := 4000000) (disch := first | decide | assumption | omega | (simp only [wL]; omega)) only [go_sem, simprocAttr])

theorem grow_call (n : Nat) (hn : n ≤ 1000000) : MCalls Try.prog 61 [.nils, .int .i64 n] St.none (fun r σ' => (n = 0 ∧ r = .nils ∧ σ' = St.none) ∨ (0 < n ∧ ∃ l, r = .vec 5 l 0 0 ∧ σ' = St.none.set l (.row 49 5 (List.replicate n nd0.c)))) := by
  refine (MCalls.body 27 [.tmp 4] Try.func61 rfl rfl rfl rfl ?_)
  by_cases h0 : n = 0
  · subst h0
    repeat' (first | (with_reducible first | (refine wN fun nl hnl => ?_; revert hnl; (repeat refine wS fun _ _ => ?_); intro hnl) | refine wD (by decide +kernel) ?_ | refine wI (fun h => ?_) fun h => ?_ | refine wF (fun h => ?_) fun h => ?_ | refine wG (fun h => ?_) fun h => ?_ | refine wH (fun h => ?_) fun h => ?_ | ((first | refine mfork_bool (fun h => ?_) fun h => ?_ | refine mgfork_bool (fun h => ?_) fun h => ?_) <;> simp only [h])) | simp (maxSteps := 4000000) (disch := first | decide | assumption | omega | (simp only [wL]; omega)) only [go_sem, simprocAttr, Try.f61])
    exact .inl trivial
  · repeat' (first | (with_reducible first | (refine wN fun nl hnl => ?_; revert hnl; (repeat refine wS fun _ _ => ?_); intro hnl) | refine wD (by decide +kernel) ?_ | refine wI (fun h => ?_) fun h => ?_ | refine wF (fun h => ?_) fun h => ?_ | refine wG (fun h => ?_) fun h => ?_ | refine wH (fun h => ?_) fun h => ?_ | ((first | refine mfork_bool (fun h => ?_) fun h => ?_ | refine mgfork_bool (fun h => ?_) fun h => ?_) <;> simp only [h])) | simp (maxSteps := 4000000) (disch := first | decide | assumption | omega | (simp only [wL]; omega)) only [go_sem, simprocAttr, Try.f61])
    refine .inr ⟨by show 0 < n; omega, nl, rfl, ?_⟩
    rw [show ((n : Int) - 0).toNat = n by omega]
    rfl

theorem flat_take_succ {ls : List (List ND)} {i : Nat} (h : i < ls.length) : (ls.take (i + 1)).flatten = (ls.take i).flatten ++ ls.getD i [] := by
  rw [List.take_succ_eq_append_getElem h, List.flatten_append, getD_of_lt [] h]
  simp

theorem flat_le {ls : List (List ND)} (hs : ∀ l, l ∈ ls → l.length ≤ 1000) : ∀ {i : Nat}, i ≤ ls.length → (ls.take i).flatten.length ≤ 1000 * i
  | 0, _ => by simp
  | i + 1, h => by
    rw [flat_take_succ h, List.length_append]
    have := hs _ (getD_mem [] h)
    have := flat_le hs (i := i) (by omega)
    omega

theorem app_flat {α : Type} (D ex Y : List α) (m y : Nat) (h1 : D.length = m) (h2 : Y.length = y) : List.take m (D ++ ex) ++ Y ++ List.drop (m + y) (D ++ ex) = (D ++ Y) ++ ex.drop y := by
  subst h1 h2
  rw [List.take_left, List.drop_append, List.drop_eq_nil_of_le (by omega), List.nil_append, Nat.add_sub_cancel_left]

theorem concat_call (ls : List (List ND)) (t : Bool) (hl : ls.length ≤ 1000) (hs : ∀ l, l ∈ ls → l.length ≤ 1000) : MCalls Try.prog 41 [.lst 1 (ls.map fun l => [.lst 5 (l.map ND.c) false]) t] St.none (fun r _ => r = .lst 5 (ls.flatten.map ND.c) false) := by
  refine MCalls.seen (MCalls.body 36 [.tmp 2] Try.func41 rfl rfl rfl rfl ?_)
  have htot := flat_le hs (i := ls.length) (Nat.le_refl _)
  rw [List.take_length] at htot
  repeat' (first | (with_reducible first | (refine wN fun nl hnl => ?_; revert hnl; (repeat refine wS fun _ _ => ?_); intro hnl) | refine wD (by decide +kernel) ?_ | refine wI (fun h => ?_) fun h => ?_ | refine wF (fun h => ?_) fun h => ?_ | refine wG (fun h => ?_) fun h => ?_ | refine wH (fun h => ?_) fun h => ?_ | ((first | refine mfork_bool (fun h => ?_) fun h => ?_ | refine mgfork_bool (fun h => ?_) fun h => ?_) <;> simp only [h])) | simp (maxSteps := 4000000) (disch := first | decide | assumption | omega | (simp only [wL]; omega)) only [go_sem, simprocAttr, Try.f41])
  refine mloop_intro (α := Nat) (fun i => ⟨36, [(11, .int .i64 (i : Int)), (10, .int .i64 (ls.length : Int)), (9, .lst 1 (ls.map fun l => [.lst 5 (l.map ND.c) false]) t), (3, .int .i64 ((ls.take i).flatten.length : Int)), (0, .lst 1 (ls.map fun l => [.lst 5 (l.map ND.c) false]) t)], []⟩) (fun _ => St.none)
    (fun i => i ≤ ls.length) (fun i => ls.length - i) (.of (.less ?_ (St.le_refl _)) ⟨0, rfl, rfl, by simp⟩) ?_
  · simp (maxSteps := 4000000) (disch := first | decide | assumption | omega | (simp only [wL]; omega)) only [go_sem, simprocAttr, weak_int, weak_same]
    all_goals first | rfl | omega | simp
  · intro i hi
    by_cases hlt : i < ls.length
    · have h1 := hs _ (getD_mem [] hlt)
      have h2 := flat_le hs hi
      repeat' (first | (with_reducible first | (refine wN fun nl hnl => ?_; revert hnl; (repeat refine wS fun _ _ => ?_); intro hnl) | refine wD (by decide +kernel) ?_ | refine wI (fun h => ?_) fun h => ?_ | refine wF (fun h => ?_) fun h => ?_ | refine wG (fun h => ?_) fun h => ?_ | refine wH (fun h => ?_) fun h => ?_ | ((first | refine mfork_bool (fun h => ?_) fun h => ?_ | refine mgfork_bool (fun h => ?_) fun h => ?_) <;> simp only [h])) | simp (maxSteps := 4000000) (disch := first | decide | assumption | omega | (simp only [wL]; omega)) only [go_sem, simprocAttr, getD_mapd []])
      refine .of (.less (l1 := [(11, .int .i64 ((i + 1 : Nat) : Int)), (10, .int .i64 (ls.length : Int)), (9, .lst 1 (ls.map fun l => [.lst 5 (l.map ND.c) false]) t), (3, .int .i64 ((ls.take (i + 1)).flatten.length : Int)), (0, .lst 1 (ls.map fun l => [.lst 5 (l.map ND.c) false]) t)]) ?_ (St.le_refl _)) ⟨i + 1, rfl, rfl, by omega, by omega⟩
      rw [flat_take_succ hlt, List.length_append]
      simp (maxSteps := 4000000) (disch := first | decide | assumption | omega | (simp only [wL]; omega)) only [go_sem, simprocAttr, weak_int, weak_same]
      all_goals omega
    · have : i = ls.length := by omega
      subst this
      repeat' (first | (with_reducible first | (refine wN fun nl hnl => ?_; revert hnl; (repeat refine wS fun _ _ => ?_); intro hnl) | refine wD (by decide +kernel) ?_ | refine wI (fun h => ?_) fun h => ?_ | refine wF (fun h => ?_) fun h => ?_ | refine wG (fun h => ?_) fun h => ?_ | refine wH (fun h => ?_) fun h => ?_ | ((first | refine mfork_bool (fun h => ?_) fun h => ?_ | refine mgfork_bool (fun h => ?_) fun h => ?_) <;> simp only [h])) | simp (maxSteps := 4000000) (disch := first | decide | assumption | omega | (simp only [wL]; omega)) only [go_sem, simprocAttr, List.take_length])
      refine use_frame (grow_call ls.flatten.length (by omega)) (St.none_le _) ?_
      rintro v σ' h -
      rw [minus_none]
      rcases h with ⟨h0, rfl, rfl⟩ | ⟨h0, l, rfl, rfl⟩
      · repeat' (first | (with_reducible first | (refine wN fun nl hnl => ?_; revert hnl; (repeat refine wS fun _ _ => ?_); intro hnl) | refine wD (by decide +kernel) ?_ | refine wI (fun h => ?_) fun h => ?_ | refine wF (fun h => ?_) fun h => ?_ | refine wG (fun h => ?_) fun h => ?_ | refine wH (fun h => ?_) fun h => ?_ | ((first | refine mfork_bool (fun h => ?_) fun h => ?_ | refine mgfork_bool (fun h => ?_) fun h => ?_) <;> simp only [h])) | simp (maxSteps := 4000000) (disch := first | decide | assumption | omega | (simp only [wL]; omega)) only [go_sem, simprocAttr, over_none, over_set])
        refine mloop_intro (α := Nat × Nat × List (List MV)) (fun a => ⟨36, [(27, .int .i64 (a.1 : Int)), (26, .int .i64 (ls.length : Int)), (25, .lst 1 (ls.map fun l => [.lst 5 (l.map ND.c) false]) t), (6, .vec 5 a.2.1 0 (ls.take a.1).flatten.length)], []⟩)
          (fun a => St.none.set a.2.1 (.row 49 5 ((ls.take a.1).flatten.map ND.c ++ a.2.2))) (fun a => a.1 ≤ ls.length) (fun a => ls.length - a.1) ?_ ?_
        · refine Gh.row 49 5 (fun k => [(27, .int .i64 0), (26, .int .i64 (ls.length : Int)), (25, .lst 1 (ls.map fun l => [.lst 5 (l.map ND.c) false]) t), (6, .vec 5 k 0 0)]) (fun k p hp => ?_) fun k hk => .done ⟨(0, k, []), rfl, rfl, Nat.zero_le _⟩
          simp only [List.mem_cons, List.not_mem_nil, or_false] at hp
          rcases hp with rfl | rfl | rfl | rfl
          · exact .inl rfl
          · exact .inl rfl
          · exact .inl rfl
          · exact .inr ⟨rfl, .inl rfl⟩
        · rintro ⟨i, q, ex⟩ hi
          simp only at hi ⊢
          by_cases hlt : i < ls.length
          · have h1 := hs _ (getD_mem [] hlt)
            have h2 := flat_le hs hi
            repeat' (first | (with_reducible first | (refine wN fun nl hnl => ?_; revert hnl; (repeat refine wS fun _ _ => ?_); intro hnl) | refine wD (by decide +kernel) ?_ | refine wI (fun h => ?_) fun h => ?_ | refine wF (fun h => ?_) fun h => ?_ | refine wG (fun h => ?_) fun h => ?_ | refine wH (fun h => ?_) fun h => ?_ | ((first | refine mfork_bool (fun h => ?_) fun h => ?_ | refine mgfork_bool (fun h => ?_) fun h => ?_) <;> simp only [h])) | simp (maxSteps := 4000000) (disch := first | decide | assumption | omega | (simp only [wL]; omega)) only [go_sem, simprocAttr, getD_mapd []])
            · have hex : ex = [] := List.eq_nil_of_length_eq_zero (by omega)
              subst hex
              refine .of (.less (l1 := [(27, .int .i64 ((i + 1 : Nat) : Int)), (26, .int .i64 (ls.length : Int)), (25, .lst 1 (ls.map fun l => [.lst 5 (l.map ND.c) false]) t), (6, .vec 5 nl 0 (ls.take (i + 1)).flatten.length)])
                (σ1 := St.none.set nl (.row 49 5 ((ls.take (i + 1)).flatten.map ND.c ++ []))) ?_ (St.set_le (St.none_le _) ((set_hit _ _ _).trans ?_))) ⟨(i + 1, nl, []), rfl, rfl, by simp only; omega, by simp only; omega⟩
              · rw [flat_take_succ hlt, List.length_append]
                simp (maxSteps := 4000000) (disch := first | decide | assumption | omega | (simp only [wL]; omega)) only [go_sem, simprocAttr, weak_int, weak_same]
                all_goals omega
              · rw [flat_take_succ hlt, List.map_append, List.append_nil, List.append_nil]
            · refine .of (.less (l1 := [(27, .int .i64 ((i + 1 : Nat) : Int)), (26, .int .i64 (ls.length : Int)), (25, .lst 1 (ls.map fun l => [.lst 5 (l.map ND.c) false]) t), (6, .vec 5 nl 0 (ls.take (i + 1)).flatten.length)])
                (σ1 := St.none.set nl (.row 49 5 ((ls.take (i + 1)).flatten.map ND.c ++ ex.drop (ls.getD i []).length))) ?_ (St.set_le (St.none_le _) ((set_hit _ _ _).trans ?_))) ⟨(i + 1, nl, ex.drop (ls.getD i []).length), rfl, rfl, by simp only; omega, by simp only; omega⟩
              · rw [flat_take_succ hlt, List.length_append]
                simp (maxSteps := 4000000) (disch := first | decide | assumption | omega | (simp only [wL]; omega)) only [go_sem, simprocAttr, weak_int, weak_same]
                all_goals omega
              · rw [flat_take_succ hlt, List.map_append]
                exact congrArg (fun r => some (MObj.row 49 5 r)) (app_flat _ _ _ _ _ (by rw [List.length_map]) (by rw [List.length_map]))
          · have : i = ls.length := by omega
            subst this
            repeat' (first | (with_reducible first | (refine wN fun nl hnl => ?_; revert hnl; (repeat refine wS fun _ _ => ?_); intro hnl) | refine wD (by decide +kernel) ?_ | refine wI (fun h => ?_) fun h => ?_ | refine wF (fun h => ?_) fun h => ?_ | refine wG (fun h => ?_) fun h => ?_ | refine wH (fun h => ?_) fun h => ?_ | ((first | refine mfork_bool (fun h => ?_) fun h => ?_ | refine mgfork_bool (fun h => ?_) fun h => ?_) <;> simp only [h])) | simp (maxSteps := 4000000) (disch := first | decide | assumption | omega | (simp only [wL]; omega)) only [go_sem, simprocAttr, List.take_length])
            have hv := View.vec (σ := St.none.set q (.row 49 5 (ls.flatten.map ND.c ++ ex))) (l := q) (lo := 0) (n := ls.flatten.length) (set_hit _ _ _) (by rw [List.length_append, List.length_map]; omega)
            have e : ((ls.flatten.map ND.c ++ ex).drop 0).take ls.flatten.length = ls.flatten.map ND.c := by
              rw [List.drop_zero, List.take_append_of_le_length (by rw [List.length_map]; omega), List.take_of_length_le (by rw [List.length_map]; omega)]
            rw [e] at hv
            exact hv
      · repeat' (first | (with_reducible first | (refine wN fun nl hnl => ?_; revert hnl; (repeat refine wS fun _ _ => ?_); intro hnl) | refine wD (by decide +kernel) ?_ | refine wI (fun h => ?_) fun h => ?_ | refine wF (fun h => ?_) fun h => ?_ | refine wG (fun h => ?_) fun h => ?_ | refine wH (fun h => ?_) fun h => ?_ | ((first | refine mfork_bool (fun h => ?_) fun h => ?_ | refine mgfork_bool (fun h => ?_) fun h => ?_) <;> simp only [h])) | simp (maxSteps := 4000000) (disch := first | decide | assumption | omega | (simp only [wL]; omega)) only [go_sem, simprocAttr, over_none, over_set])
        refine mloop_intro (α := Nat × Nat × List (List MV)) (fun a => ⟨36, [(27, .int .i64 (a.1 : Int)), (26, .int .i64 (ls.length : Int)), (25, .lst 1 (ls.map fun l => [.lst 5 (l.map ND.c) false]) t), (6, .vec 5 a.2.1 0 (ls.take a.1).flatten.length)], []⟩)
          (fun a => St.none.set a.2.1 (.row 49 5 ((ls.take a.1).flatten.map ND.c ++ a.2.2))) (fun a => a.1 ≤ ls.length) (fun a => ls.length - a.1) ?_ ?_
        · refine .of (.less ?_ (St.le_refl _)) ⟨(0, l, List.replicate ls.flatten.length nd0.c), rfl, rfl, Nat.zero_le _⟩
          simp (maxSteps := 4000000) (disch := first | decide | assumption | omega | (simp only [wL]; omega)) only [go_sem, simprocAttr, weak_int, weak_same]
          all_goals first
            | rfl
            | omega
            | exact ⟨rfl, weak_same.2 trivial⟩
            | exact weak_same.2 trivial
        · rintro ⟨i, q, ex⟩ hi
          simp only at hi ⊢
          by_cases hlt : i < ls.length
          · have h1 := hs _ (getD_mem [] hlt)
            have h2 := flat_le hs hi
            repeat' (first | (with_reducible first | (refine wN fun nl hnl => ?_; revert hnl; (repeat refine wS fun _ _ => ?_); intro hnl) | refine wD (by decide +kernel) ?_ | refine wI (fun h => ?_) fun h => ?_ | refine wF (fun h => ?_) fun h => ?_ | refine wG (fun h => ?_) fun h => ?_ | refine wH (fun h => ?_) fun h => ?_ | ((first | refine mfork_bool (fun h => ?_) fun h => ?_ | refine mgfork_bool (fun h => ?_) fun h => ?_) <;> simp only [h])) | simp (maxSteps := 4000000) (disch := first | decide | assumption | omega | (simp only [wL]; omega)) only [go_sem, simprocAttr, getD_mapd []])
            · have hex : ex = [] := List.eq_nil_of_length_eq_zero (by omega)
              subst hex
              refine .of (.less (l1 := [(27, .int .i64 ((i + 1 : Nat) : Int)), (26, .int .i64 (ls.length : Int)), (25, .lst 1 (ls.map fun l => [.lst 5 (l.map ND.c) false]) t), (6, .vec 5 nl 0 (ls.take (i + 1)).flatten.length)])
                (σ1 := St.none.set nl (.row 49 5 ((ls.take (i + 1)).flatten.map ND.c ++ []))) ?_ (St.set_le (St.none_le _) ((set_hit _ _ _).trans ?_))) ⟨(i + 1, nl, []), rfl, rfl, by simp only; omega, by simp only; omega⟩
              · rw [flat_take_succ hlt, List.length_append]
                simp (maxSteps := 4000000) (disch := first | decide | assumption | omega | (simp only [wL]; omega)) only [go_sem, simprocAttr, weak_int, weak_same]
                all_goals omega
              · rw [flat_take_succ hlt, List.map_append, List.append_nil, List.append_nil]
            · refine .of (.less (l1 := [(27, .int .i64 ((i + 1 : Nat) : Int)), (26, .int .i64 (ls.length : Int)), (25, .lst 1 (ls.map fun l => [.lst 5 (l.map ND.c) false]) t), (6, .vec 5 nl 0 (ls.take (i + 1)).flatten.length)])
                (σ1 := St.none.set nl (.row 49 5 ((ls.take (i + 1)).flatten.map ND.c ++ ex.drop (ls.getD i []).length))) ?_ (St.set_le (St.none_le _) ((set_hit _ _ _).trans ?_))) ⟨(i + 1, nl, ex.drop (ls.getD i []).length), rfl, rfl, by simp only; omega, by simp only; omega⟩
              · rw [flat_take_succ hlt, List.length_append]
                simp (maxSteps := 4000000) (disch := first | decide | assumption | omega | (simp only [wL]; omega)) only [go_sem, simprocAttr, weak_int, weak_same]
                all_goals omega
              · rw [flat_take_succ hlt, List.map_append]
                exact congrArg (fun r => some (MObj.row 49 5 r)) (app_flat _ _ _ _ _ (by rw [List.length_map]) (by rw [List.length_map]))
          · have : i = ls.length := by omega
            subst this
            repeat' (first | (with_reducible first | (refine wN fun nl hnl => ?_; revert hnl; (repeat refine wS fun _ _ => ?_); intro hnl) | refine wD (by decide +kernel) ?_ | refine wI (fun h => ?_) fun h => ?_ | refine wF (fun h => ?_) fun h => ?_ | refine wG (fun h => ?_) fun h => ?_ | refine wH (fun h => ?_) fun h => ?_ | ((first | refine mfork_bool (fun h => ?_) fun h => ?_ | refine mgfork_bool (fun h => ?_) fun h => ?_) <;> simp only [h])) | simp (maxSteps := 4000000) (disch := first | decide | assumption | omega | (simp only [wL]; omega)) only [go_sem, simprocAttr, List.take_length])
            have hv := View.vec (σ := St.none.set q (.row 49 5 (ls.flatten.map ND.c ++ ex))) (l := q) (lo := 0) (n := ls.flatten.length) (set_hit _ _ _) (by rw [List.length_append, List.length_map]; omega)
            have e : ((ls.flatten.map ND.c ++ ex).drop 0).take ls.flatten.length = ls.flatten.map ND.c := by
              rw [List.drop_zero, List.take_append_of_le_length (by rw [List.length_map]; omega), List.take_of_length_le (by rw [List.length_map]; omega)]
            rw [e] at hv
            exact hv
end Go.Proofs.Ytielcgplbnlgbaa
end

section
/- Contracts of the document's Join, insert and against: the conditions that the theorems name. -/
set_option linter.unusedVariables false
set_option linter.unusedSimpArgs false
namespace Go.Proofs.Ytielcgplbnlgbaa

abbrev lcell (l : List ND) : List MV := [.lst 5 (l.map ND.c) false]
abbrev tcell (t : T) : List MV := [.lst 5 (t.fl.map ND.c) false]

set_option maxHeartbeats 2000000 in
theorem rjoin_call (op : Int) (ls : List (List ND)) (tt : Bool) (hl : ls.length ≤ 1000) (hs : ∀ l, l ∈ ls → l.length ≤ 1000) :
    MCalls Try.prog 28 [.int .i64 op, .lst 1 (ls.map lcell) tt] St.none (fun r _ => r = .lst 5 ((nd op :: ls.flatten).map ND.c) false) := by
  refine MCalls.seen (MCalls.body 23 [.tmp 4] Try.func28 rfl rfl rfl rfl ?_)
  have h5 : 1 + (ls.take ls.length).flatten.length ≤ 1000001 := by have := flat_le hs (i := ls.length) (Nat.le_refl _); omega
  repeat' (first | (with_reducible first | (refine wT ?_; (first | ((fail_if_success (have := nl1)); refine wN fun nl1 hnl => ?_) | ((fail_if_success (have := nl2)); refine wN fun nl2 hnl => ?_) | refine wN fun _ hnl => ?_); revert hnl; (repeat refine wS fun _ _ => ?_); intro hnl) | refine wD (by decide +kernel) ?_ | refine wI (fun h => ?_) fun h => ?_ | refine wF (fun h => ?_) fun h => ?_ | refine wG (fun h => ?_) fun h => ?_ | refine wH (fun h => ?_) fun h => ?_ | ((first | refine mfork_bool (fun h => ?_) fun h => ?_ | refine mgfork_bool (fun h => ?_) fun h => ?_) <;> simp only [h])) | simp (maxSteps := 4000000) (disch := first | decide | assumption | omega | (simp only [wL]; omega)) only [go_sem, simprocAttr, Try.f28])
  refine mloop_intro (α := Nat × Nat × List ND) (fun a => ⟨23, [(6, .int .i64 (a.1 : Int)), (5, .vec 5 a.2.1 0 a.2.2.length), (0, .int .i64 op), (1, .lst 1 (ls.map lcell) tt)], []⟩)
    (fun a => St.none.set a.2.1 (.row 49 5 (a.2.2.map ND.c))) (fun a => a.1 ≤ ls.length ∧ a.2.2 = nd op :: (ls.take a.1).flatten) (fun a => ls.length - a.1) ?_ ?_
  · refine .of (.less ?_ (St.le_refl _)) ⟨(0, nl1, [nd op]), rfl, rfl, Nat.zero_le _, by simp⟩
    simp (maxSteps := 4000000) (disch := first | decide | assumption | omega | (simp only [wL]; omega)) only [go_sem, simprocAttr, weak_int, weak_same]
    all_goals rfl
  · rintro ⟨i, q, D⟩ ⟨hi, hD⟩
    simp only at hi hD ⊢
    have hDl : D.length = 1 + (ls.take i).flatten.length := by rw [hD, List.length_cons]; omega
    have h2 := flat_le hs hi
    by_cases hlt : i < ls.length
    · have h1 := hs _ (getD_mem [] hlt)
      have hD1 : D ++ ls.getD i [] = nd op :: (ls.take (i + 1)).flatten := by rw [hD, flat_take_succ hlt]; rfl
      obtain ⟨Y, hY⟩ : ∃ Y, ls.getD i [] = Y := ⟨_, rfl⟩
      rw [hY] at h1 hD1
      repeat' (first | (with_reducible first | (refine wT ?_; (first | ((fail_if_success (have := nl1)); refine wN fun nl1 hnl => ?_) | ((fail_if_success (have := nl2)); refine wN fun nl2 hnl => ?_) | refine wN fun _ hnl => ?_); revert hnl; (repeat refine wS fun _ _ => ?_); intro hnl) | refine wD (by decide +kernel) ?_ | refine wI (fun h => ?_) fun h => ?_ | refine wF (fun h => ?_) fun h => ?_ | refine wG (fun h => ?_) fun h => ?_ | refine wH (fun h => ?_) fun h => ?_ | ((first | refine mfork_bool (fun h => ?_) fun h => ?_ | refine mgfork_bool (fun h => ?_) fun h => ?_) <;> simp only [h])) | simp (maxSteps := 4000000) (disch := first | decide | assumption | omega | (simp only [wL]; omega)) only [go_sem, simprocAttr, getD_mapd [], hY])
      refine .of (.less ?_ (St.set_le (St.none_le _) (set_hit _ _ _))) ⟨(i + 1, nl2, D ++ Y), rfl, rfl, ⟨by simp only; omega, hD1⟩, by simp only; omega⟩
      rw [List.length_append]
      simp (maxSteps := 4000000) (disch := first | decide | assumption | omega | (simp only [wL]; omega)) only [go_sem, simprocAttr, weak_int, weak_same]
      all_goals rfl
    · have : i = ls.length := by omega
      subst this
      repeat' (first | (with_reducible first | (refine wT ?_; (first | ((fail_if_success (have := nl1)); refine wN fun nl1 hnl => ?_) | ((fail_if_success (have := nl2)); refine wN fun nl2 hnl => ?_) | refine wN fun _ hnl => ?_); revert hnl; (repeat refine wS fun _ _ => ?_); intro hnl) | refine wD (by decide +kernel) ?_ | refine wI (fun h => ?_) fun h => ?_ | refine wF (fun h => ?_) fun h => ?_ | refine wG (fun h => ?_) fun h => ?_ | refine wH (fun h => ?_) fun h => ?_ | ((first | refine mfork_bool (fun h => ?_) fun h => ?_ | refine mgfork_bool (fun h => ?_) fun h => ?_) <;> simp only [h])) | simp (maxSteps := 4000000) (disch := first | decide | assumption | omega | (simp only [wL]; omega)) only [go_sem, simprocAttr])
      rw [List.take_length] at hD
      subst hD
      exact .vecAll (set_hit _ _ _) (by simp only [List.length_map, List.length_cons])

/-- The same, of one part in a row that is held. -/
theorem rjoin_at (op : Int) (a : List ND) (ha : a.length ≤ 1000) (l0 : Nat) :
    MCalls Try.prog 28 [.int .i64 op, .vec 1 l0 0 1] (St.ofList [l0] [.row 22 1 [lcell a]]) (fun r σ' => r = .lst 5 ((nd op :: a).map ND.c) false ∧ σ' = St.ofList [l0] [.row 22 1 [lcell a]]) := by
  simp only [St.ofList]
  refine MCalls.gh (MCalls.body 23 [.tmp 4] Try.func28 rfl rfl rfl rfl ?_)
  repeat' (first | (with_reducible first | (refine wT ?_; (first | ((fail_if_success (have := nl1)); refine wN fun nl1 hnl => ?_) | ((fail_if_success (have := nl2)); refine wN fun nl2 hnl => ?_) | refine wN fun _ hnl => ?_); revert hnl; (repeat refine wS fun _ _ => ?_); intro hnl) | refine wD (by decide +kernel) ?_ | refine wI (fun h => ?_) fun h => ?_ | refine wF (fun h => ?_) fun h => ?_ | refine wG (fun h => ?_) fun h => ?_ | refine wH (fun h => ?_) fun h => ?_ | ((first | refine mfork_bool (fun h => ?_) fun h => ?_ | refine mgfork_bool (fun h => ?_) fun h => ?_) <;> simp only [h])) | simp (maxSteps := 4000000) (disch := first | decide | assumption | omega | (simp only [wL]; omega)) only [go_sem, simprocAttr, Try.f28])
  refine mloop_intro (α := Nat × Nat × List ND) (fun b => ⟨23, [(6, .int .i64 (b.1 : Int)), (5, .vec 5 b.2.1 0 b.2.2.length), (0, .int .i64 op), (1, .vec 1 l0 0 1)], []⟩)
    (fun b => (St.none.set l0 (.row 22 1 [lcell a])).set b.2.1 (.row 49 5 (b.2.2.map ND.c))) (fun b => b.2.1 ≠ l0 ∧ (b.1 = 0 ∧ b.2.2 = [nd op] ∨ b.1 = 1 ∧ b.2.2 = nd op :: a)) (fun b => 1 - b.1) ?_ ?_
  · refine .of (.less ?_ (St.le_refl _)) ⟨(0, nl1, [nd op]), rfl, rfl, ⟨by assumption, .inl ⟨rfl, rfl⟩⟩⟩
    simp (maxSteps := 4000000) (disch := first | decide | assumption | omega | (simp only [wL]; omega)) only [go_sem, simprocAttr, weak_int, weak_same]
    all_goals rfl
  · rintro ⟨i, q, D⟩ ⟨hq, h⟩
    simp only at hq h ⊢
    rcases h with ⟨rfl, rfl⟩ | ⟨rfl, rfl⟩
    · repeat' (first | (with_reducible first | (refine wT ?_; (first | ((fail_if_success (have := nl1)); refine wN fun nl1 hnl => ?_) | ((fail_if_success (have := nl2)); refine wN fun nl2 hnl => ?_) | refine wN fun _ hnl => ?_); revert hnl; (repeat refine wS fun _ _ => ?_); intro hnl) | refine wD (by decide +kernel) ?_ | refine wI (fun h => ?_) fun h => ?_ | refine wF (fun h => ?_) fun h => ?_ | refine wG (fun h => ?_) fun h => ?_ | refine wH (fun h => ?_) fun h => ?_ | ((first | refine mfork_bool (fun h => ?_) fun h => ?_ | refine mgfork_bool (fun h => ?_) fun h => ?_) <;> simp only [h])) | simp (maxSteps := 4000000) (disch := first | decide | assumption | omega | (simp only [wL]; omega)) only [go_sem, simprocAttr])
      refine .of (.less ?_ (St.le_refl _)) ⟨(1, nl2, nd op :: a), rfl, rfl, ⟨by assumption, .inr ⟨rfl, rfl⟩⟩, by simp⟩
      rw [List.length_cons, Nat.add_comm]
      simp (maxSteps := 4000000) (disch := first | decide | assumption | omega | (simp only [wL]; omega)) only [go_sem, simprocAttr, weak_int, weak_same]
      all_goals rfl
    · repeat' (first | (with_reducible first | (refine wT ?_; (first | ((fail_if_success (have := nl1)); refine wN fun nl1 hnl => ?_) | ((fail_if_success (have := nl2)); refine wN fun nl2 hnl => ?_) | refine wN fun _ hnl => ?_); revert hnl; (repeat refine wS fun _ _ => ?_); intro hnl) | refine wD (by decide +kernel) ?_ | refine wI (fun h => ?_) fun h => ?_ | refine wF (fun h => ?_) fun h => ?_ | refine wG (fun h => ?_) fun h => ?_ | refine wH (fun h => ?_) fun h => ?_ | ((first | refine mfork_bool (fun h => ?_) fun h => ?_ | refine mgfork_bool (fun h => ?_) fun h => ?_) <;> simp only [h])) | simp (maxSteps := 4000000) (disch := first | decide | assumption | omega | (simp only [wL]; omega)) only [go_sem, simprocAttr])
      refine .step (Ghost.freeze (l1 := [(0, .lst 5 ((nd op).c :: a.map ND.c) false)]) (σ1 := St.none.set l0 (.row 22 1 [lcell a])) (St.none.set q (.row 49 5 ((nd op).c :: a.map ND.c))) (St.set_le (St.none_le _) (set_hit _ _ _)) (St.set_le (St.none_le _) ((set_miss _ _ _ _ (Ne.symm hq)).trans (set_hit _ _ _))) ?_ ?_) (.done ⟨_, rfl, rfl, rfl⟩)
      · intro k o hk
        by_cases h : k = l0
        · subst h; exact set_miss _ _ _ _ (Ne.symm hq)
        · rw [set_miss _ _ _ _ h] at hk; cases hk
      · intro p hp
        simp only [List.mem_cons, List.not_mem_nil, or_false] at hp
        subst hp
        exact .vecAll (set_hit _ _ _) (by simp only [List.length_map, List.length_cons])

/-- The document's list with one more. -/
theorem insT_end {x : T} {d : Bool} : insT x d [] = if d = true then [] else [x] := rfl

set_option maxHeartbeats 4000000 in
theorem rinsert_call (l : List T) (x : T) (hl : l.length ≤ 1000) (hn : ∀ y, y ∈ l → y.fl.length ≤ 1000) (hx : x.fl.length ≤ 1000) (sl : ∀ y, y ∈ l → ∀ z, z ∈ y.fl → z.v.s.size ≤ 1000000) (sx : ∀ z, z ∈ x.fl → z.v.s.size ≤ 1000000) (tt : Bool) :
    MCalls Try.prog 81 [.lst 1 (l.map tcell) tt, .lst 5 (x.fl.map ND.c) false] St.none (fun r _ => r = .lst 1 ((insT x false l).map tcell) false) := by
  refine MCalls.seen (MCalls.body 48 [.tmp 4] Try.func81 rfl rfl rfl rfl ?_)
  repeat' (first | (with_reducible first | (refine wT ?_; (first | ((fail_if_success (have := nl1)); refine wN fun nl1 hnl => ?_) | ((fail_if_success (have := nl2)); refine wN fun nl2 hnl => ?_) | ((fail_if_success (have := nl3)); refine wN fun nl3 hnl => ?_) | ((fail_if_success (have := nl4)); refine wN fun nl4 hnl => ?_) | ((fail_if_success (have := nl5)); refine wN fun nl5 hnl => ?_) | refine wN fun _ hnl => ?_); revert hnl; (repeat refine wS fun _ _ => ?_); intro hnl) | refine wD (by decide +kernel) ?_ | refine wI (fun h => ?_) fun h => ?_ | refine wF (fun h => ?_) fun h => ?_ | refine wG (fun h => ?_) fun h => ?_ | refine wH (fun h => ?_) fun h => ?_ | ((first | refine mfork_bool (fun h => ?_) fun h => ?_ | refine mgfork_bool (fun h => ?_) fun h => ?_) <;> simp only [h])) | simp (maxSteps := 4000000) (disch := first | decide | assumption | omega | (simp only [wL]; omega)) only [go_sem, simprocAttr, Try.f81])
  refine mloop_intro (α := Nat × Nat × Bool × List T) (fun a => ⟨48, [(7, .int .i64 (a.1 : Int)), (6, .bool a.2.2.1), (5, .vec 1 a.2.1 0 a.2.2.2.length), (0, .lst 1 (l.map tcell) tt), (1, .lst 5 (x.fl.map ND.c) false)], []⟩)
    (fun a => St.none.set a.2.1 (.row 22 1 (a.2.2.2.map tcell))) (fun a => a.1 ≤ l.length ∧ a.2.2.2.length ≤ 2 * a.1 ∧ insT x false l = a.2.2.2 ++ insT x a.2.2.1 (l.drop a.1)) (fun a => l.length - a.1) ?_ ?_
  · refine .of (.less ?_ (St.le_refl _)) ⟨(0, nl1, false, []), rfl, rfl, Nat.zero_le _, Nat.zero_le _, rfl⟩
    simp (maxSteps := 4000000) (disch := first | decide | assumption | omega | (simp only [wL]; omega)) only [go_sem, simprocAttr, weak_int, weak_same]
    all_goals rfl
  · rintro ⟨i, q, d, D⟩ ⟨hi, hDl, hD⟩
    simp only at hi hDl hD ⊢
    by_cases hlt : i < l.length
    · have hy := getD_mem (.leaf nd0) hlt
      have hdr : l.drop i = l.getD i (.leaf nd0) :: l.drop (i + 1) := by rw [List.drop_eq_getElem_cons hlt, getD_of_lt _ hlt]
      obtain ⟨y, hyE⟩ : ∃ y, l.getD i (.leaf nd0) = y := ⟨_, rfl⟩
      rw [hyE] at hy hdr
      have c1 := rcompare_call x.fl y.fl (by omega) (by have := hn y hy; omega) sx (sl y hy) false false
      rw [hdr] at hD
      simp only [insT] at hD
      cases d <;> cases hc : cmpF x.fl y.fl <;> rw [hc] at c1 hD <;> simp (config := { decide := true }) only [ordI, if_true, if_false, Bool.or_true, Bool.or_false, Bool.false_or, Bool.true_or, decide_true, decide_false, List.nil_append, List.cons_append] at c1 hD
      all_goals repeat' (first | (with_reducible refine use_pure c1 ?_) | (with_reducible first | (refine wT ?_; (first | ((fail_if_success (have := nl1)); refine wN fun nl1 hnl => ?_) | ((fail_if_success (have := nl2)); refine wN fun nl2 hnl => ?_) | ((fail_if_success (have := nl3)); refine wN fun nl3 hnl => ?_) | ((fail_if_success (have := nl4)); refine wN fun nl4 hnl => ?_) | ((fail_if_success (have := nl5)); refine wN fun nl5 hnl => ?_) | refine wN fun _ hnl => ?_); revert hnl; (repeat refine wS fun _ _ => ?_); intro hnl) | refine wD (by decide +kernel) ?_ | refine wI (fun h => ?_) fun h => ?_ | refine wF (fun h => ?_) fun h => ?_ | refine wG (fun h => ?_) fun h => ?_ | refine wH (fun h => ?_) fun h => ?_ | ((first | refine mfork_bool (fun h => ?_) fun h => ?_ | refine mgfork_bool (fun h => ?_) fun h => ?_) <;> simp only [h])) | simp (maxSteps := 4000000) (disch := first | decide | assumption | omega | (simp only [wL]; omega)) only [go_sem, simprocAttr, getD_mapd (T.leaf nd0), hyE])
      · refine .of (.less ?_ (St.set_le (St.none_le _) ((set_hit _ _ _).trans ?_))) ⟨(i + 1, nl5, true, D ++ [x, y]), rfl, rfl, ⟨by simp only; omega, by (try simp only [List.length_append, List.length_cons, List.length_nil]); omega, by rw [hD]; try simp⟩, by simp only; omega⟩
        · rw [show (D ++ [x, y]).length = D.length + 1 + 1 by simp]
          simp (maxSteps := 4000000) (disch := first | decide | assumption | omega | (simp only [wL]; omega)) only [go_sem, simprocAttr, weak_int, weak_same]
          all_goals rfl
        · simp
      · refine .of (.less ?_ (St.set_le (St.none_le _) ((set_hit _ _ _).trans ?_))) ⟨(i + 1, nl3, true, D ++ [x]), rfl, rfl, ⟨by simp only; omega, by (try simp only [List.length_append, List.length_cons, List.length_nil]); omega, by rw [hD]; try simp⟩, by simp only; omega⟩
        · rw [show (D ++ [x]).length = D.length + 1 by simp]
          simp (maxSteps := 4000000) (disch := first | decide | assumption | omega | (simp only [wL]; omega)) only [go_sem, simprocAttr, weak_int, weak_same]
          all_goals rfl
        · simp
      · refine .of (.less ?_ (St.set_le (St.none_le _) ((set_hit _ _ _).trans ?_))) ⟨(i + 1, nl3, false, D ++ [y]), rfl, rfl, ⟨by simp only; omega, by (try simp only [List.length_append, List.length_cons, List.length_nil]); omega, by rw [hD]; try simp⟩, by simp only; omega⟩
        · rw [show (D ++ [y]).length = D.length + 1 by simp]
          simp (maxSteps := 4000000) (disch := first | decide | assumption | omega | (simp only [wL]; omega)) only [go_sem, simprocAttr, weak_int, weak_same]
          all_goals rfl
        · simp
      · refine .of (.less ?_ (St.set_le (St.none_le _) ((set_hit _ _ _).trans ?_))) ⟨(i + 1, nl3, true, D ++ [y]), rfl, rfl, ⟨by simp only; omega, by (try simp only [List.length_append, List.length_cons, List.length_nil]); omega, by rw [hD]; try simp⟩, by simp only; omega⟩
        · rw [show (D ++ [y]).length = D.length + 1 by simp]
          simp (maxSteps := 4000000) (disch := first | decide | assumption | omega | (simp only [wL]; omega)) only [go_sem, simprocAttr, weak_int, weak_same]
          all_goals rfl
        · simp
      · refine .of (.less ?_ (St.set_le (St.none_le _) ((set_hit _ _ _).trans ?_))) ⟨(i + 1, q, true, D), rfl, rfl, ⟨by simp only; omega, by (try simp only [List.length_append, List.length_cons, List.length_nil]); omega, by rw [hD]; try simp⟩, by simp only; omega⟩
        · rw [show (D).length = D.length by simp]
          simp (maxSteps := 4000000) (disch := first | decide | assumption | omega | (simp only [wL]; omega)) only [go_sem, simprocAttr, weak_int, weak_same]
          all_goals rfl
        · simp
      · refine .of (.less ?_ (St.set_le (St.none_le _) ((set_hit _ _ _).trans ?_))) ⟨(i + 1, nl3, true, D ++ [y]), rfl, rfl, ⟨by simp only; omega, by (try simp only [List.length_append, List.length_cons, List.length_nil]); omega, by rw [hD]; try simp⟩, by simp only; omega⟩
        · rw [show (D ++ [y]).length = D.length + 1 by simp]
          simp (maxSteps := 4000000) (disch := first | decide | assumption | omega | (simp only [wL]; omega)) only [go_sem, simprocAttr, weak_int, weak_same]
          all_goals rfl
        · simp
    · have hie : i = l.length := by omega
      subst hie
      rw [List.drop_length, insT_end] at hD
      cases d <;> simp only [if_true, Bool.false_eq_true, if_false, List.append_nil] at hD
      · repeat' (first | (with_reducible first | (refine wT ?_; (first | ((fail_if_success (have := nl1)); refine wN fun nl1 hnl => ?_) | ((fail_if_success (have := nl2)); refine wN fun nl2 hnl => ?_) | ((fail_if_success (have := nl3)); refine wN fun nl3 hnl => ?_) | ((fail_if_success (have := nl4)); refine wN fun nl4 hnl => ?_) | ((fail_if_success (have := nl5)); refine wN fun nl5 hnl => ?_) | refine wN fun _ hnl => ?_); revert hnl; (repeat refine wS fun _ _ => ?_); intro hnl) | refine wD (by decide +kernel) ?_ | refine wI (fun h => ?_) fun h => ?_ | refine wF (fun h => ?_) fun h => ?_ | refine wG (fun h => ?_) fun h => ?_ | refine wH (fun h => ?_) fun h => ?_ | ((first | refine mfork_bool (fun h => ?_) fun h => ?_ | refine mgfork_bool (fun h => ?_) fun h => ?_) <;> simp only [h])) | simp (maxSteps := 4000000) (disch := first | decide | assumption | omega | (simp only [wL]; omega)) only [go_sem, simprocAttr])
        rw [hD, List.map_append]
        exact .vecAll (set_hit _ _ _) (by simp)
      · repeat' (first | (with_reducible first | (refine wT ?_; (first | ((fail_if_success (have := nl1)); refine wN fun nl1 hnl => ?_) | ((fail_if_success (have := nl2)); refine wN fun nl2 hnl => ?_) | ((fail_if_success (have := nl3)); refine wN fun nl3 hnl => ?_) | ((fail_if_success (have := nl4)); refine wN fun nl4 hnl => ?_) | ((fail_if_success (have := nl5)); refine wN fun nl5 hnl => ?_) | refine wN fun _ hnl => ?_); revert hnl; (repeat refine wS fun _ _ => ?_); intro hnl) | refine wD (by decide +kernel) ?_ | refine wI (fun h => ?_) fun h => ?_ | refine wF (fun h => ?_) fun h => ?_ | refine wG (fun h => ?_) fun h => ?_ | refine wH (fun h => ?_) fun h => ?_ | ((first | refine mfork_bool (fun h => ?_) fun h => ?_ | refine mgfork_bool (fun h => ?_) fun h => ?_) <;> simp only [h])) | simp (maxSteps := 4000000) (disch := first | decide | assumption | omega | (simp only [wL]; omega)) only [go_sem, simprocAttr])
        rw [hD]
        exact .vecAll (set_hit _ _ _) (by simp)

end Go.Proofs.Ytielcgplbnlgbaa
end

section
/- Contract of the document's against: the conditions that the theorem names. -/
set_option linter.unusedVariables false
set_option linter.unusedSimpArgs false
namespace Go.Proofs.Ytielcgplbnlgbaa

def badB (a b : T) : Bool := decide (a.fl.length = 1 ∧ b.fl = nd 10 :: a.fl)
theorem agst_bad (l : List T) : agst l = l.any fun a => l.any fun b => badB a b := rfl

/-- What is known in against. -/
noncomputable def agC (a b : T) : Know := fun g ms => if g = 28 then (match ms with
    | [_, .vec _ l0 _ _] => some ⟨[l0], fun v => v = .lst 5 ((nd 10 :: a.fl).map ND.c) false, none⟩
    | _ => none) else if g = 22 then some ⟨[], fun v => v = .bool (decide (b.fl = nd 10 :: a.fl)), none⟩ else none

set_option maxHeartbeats 4000000 in
theorem ragainst_call (l : List T) (hl : l.length ≤ 1000) (hn : ∀ y, y ∈ l → y.fl.length ≤ 1000) (tt : Bool) : MCalls Try.prog 82 [.lst 1 (l.map tcell) tt] St.none (fun r _ => r = .bool (agst l)) := by
  refine (MCalls.body 36 [.tmp 2] Try.func82 rfl rfl rfl rfl ?_)
  rw [agst_bad]
  repeat' (first | (with_reducible first | (refine wT ?_; (first | ((fail_if_success (have := nl1)); refine wN fun nl1 hnl => ?_) | refine wN fun _ hnl => ?_); revert hnl; (repeat refine wS fun _ _ => ?_); intro hnl) | refine wD (by decide +kernel) ?_ | refine wI (fun h => ?_) fun h => ?_ | refine wF (fun h => ?_) fun h => ?_ | refine wG (fun h => ?_) fun h => ?_ | refine wH (fun h => ?_) fun h => ?_ | ((first | refine mfork_bool (fun h => ?_) fun h => ?_ | refine mgfork_bool (fun h => ?_) fun h => ?_) <;> simp only [h])) | simp (maxSteps := 4000000) (disch := first | decide | assumption | omega | (simp only [wL]; omega)) only [go_sem, simprocAttr, Try.f82])
  refine mloop_intro (α := Nat) (fun i => ⟨36, [(3, .int .i64 (i : Int)), (0, .lst 1 (l.map tcell) tt)], []⟩)
    (fun _ => St.none) (fun i => i ≤ l.length ∧ (l.take i).any (fun a => l.any fun b => badB a b) = false) (fun i => l.length - i) (.of (.less ?_ (St.le_refl _)) ⟨0, rfl, rfl, Nat.zero_le _, rfl⟩) ?_
  · simp (maxSteps := 4000000) (disch := first | decide | assumption | omega | (simp only [wL]; omega)) only [go_sem, simprocAttr, weak_int, weak_same]
    all_goals rfl
  · rintro i ⟨hi, hq⟩
    by_cases hlt : i < l.length
    · have ha := getD_mem (.leaf nd0) hlt
      have hai : l[i] = l.getD i (.leaf nd0) := (getD_of_lt _ hlt).symm
      obtain ⟨a, haE⟩ : ∃ a, l.getD i (.leaf nd0) = a := ⟨_, rfl⟩
      rw [haE] at ha hai
      have hna := hn a ha
      repeat' (first | (with_reducible first | (refine wT ?_; (first | ((fail_if_success (have := nl1)); refine wN fun nl1 hnl => ?_) | refine wN fun _ hnl => ?_); revert hnl; (repeat refine wS fun _ _ => ?_); intro hnl) | refine wD (by decide +kernel) ?_ | refine wI (fun h => ?_) fun h => ?_ | refine wF (fun h => ?_) fun h => ?_ | refine wG (fun h => ?_) fun h => ?_ | refine wH (fun h => ?_) fun h => ?_ | ((first | refine mfork_bool (fun h => ?_) fun h => ?_ | refine mgfork_bool (fun h => ?_) fun h => ?_) <;> simp only [h])) | simp (maxSteps := 4000000) (disch := first | decide | assumption | omega | (simp only [wL]; omega)) only [go_sem, simprocAttr])
      refine mloop_intro (α := Nat) (fun k => ⟨36, [(4, .int .i64 (k : Int)), (3, .int .i64 (i : Int)), (0, .lst 1 (l.map tcell) tt)], []⟩)
        (fun _ => St.none) (fun k => k ≤ l.length ∧ (l.take k).any (fun b => badB a b) = false) (fun k => l.length - k) (.of (.less ?_ (St.le_refl _)) ⟨0, rfl, rfl, Nat.zero_le _, rfl⟩) ?_
      · simp (maxSteps := 4000000) (disch := first | decide | assumption | omega | (simp only [wL]; omega)) only [go_sem, simprocAttr, weak_int, weak_same]
        all_goals rfl
      · rintro k ⟨hk, hb⟩
        by_cases hkl : k < l.length
        · have hbm := getD_mem (.leaf nd0) hkl
          have hbk : l[k] = l.getD k (.leaf nd0) := (getD_of_lt _ hkl).symm
          obtain ⟨b, hbE⟩ : ∃ b, l.getD k (.leaf nd0) = b := ⟨_, rfl⟩
          rw [hbE] at hbm hbk
          have hnb := hn b hbm
          have hsame := rsame_call b.fl (nd 10 :: a.fl) (by omega) false false
          simp only [List.map_cons] at hsame
          have next : badB a b = false → (l.take (k + 1)).any (fun b => badB a b) = false := fun e => by rw [any_take_succ hkl, hb, hbk, e]; rfl
          have hT : badB a b = true → (l.any fun a => l.any fun b => badB a b) = true := fun e => List.any_eq_true.2 ⟨a, ha, List.any_eq_true.2 ⟨b, hbm, e⟩⟩
          have hbd : badB a b = decide (a.fl.length = 1 ∧ b.fl = nd 10 :: a.fl) := rfl
          clear hb hbk hai ha hbm hnb hq hn
          generalize (l.any fun a => l.any fun b => badB a b) = out at hT ⊢
          by_cases h1 : a.fl.length = 1
          · repeat' (first | (with_reducible first | (refine wT ?_; (first | ((fail_if_success (have := nl1)); refine wN fun nl1 hnl => ?_) | refine wN fun _ hnl => ?_); revert hnl; (repeat refine wS fun _ _ => ?_); intro hnl) | refine wD (by decide +kernel) ?_ | refine wI (fun h => ?_) fun h => ?_ | refine wF (fun h => ?_) fun h => ?_ | refine wG (fun h => ?_) fun h => ?_ | refine wH (fun h => ?_) fun h => ?_ | ((first | refine mfork_bool (fun h => ?_) fun h => ?_ | refine mgfork_bool (fun h => ?_) fun h => ?_) <;> simp only [h])) | simp (maxSteps := 4000000) (disch := first | decide | assumption | omega | (simp only [wL]; omega)) only [go_sem, simprocAttr, getD_mapd (T.leaf nd0), haE, hbE, h1])
            refine mdraw_know mixed (by decide +kernel) (agC a b) ?_
            repeat' (first | (with_reducible first | (refine wT ?_; (first | ((fail_if_success (have := nl1)); refine wN fun nl1 hnl => ?_) | refine wN fun _ hnl => ?_); revert hnl; (repeat refine wS fun _ _ => ?_); intro hnl) | refine wD (by decide +kernel) ?_ | refine wI (fun h => ?_) fun h => ?_ | refine wF (fun h => ?_) fun h => ?_ | refine wG (fun h => ?_) fun h => ?_ | refine wH (fun h => ?_) fun h => ?_ | ((first | refine mfork_bool (fun h => ?_) fun h => ?_ | refine mgfork_bool (fun h => ?_) fun h => ?_) <;> simp only [h])) | simp (maxSteps := 4000000) (disch := first | decide | assumption | omega | (simp only [wL]; omega)) only [go_sem, simprocAttr, getD_mapd (T.leaf nd0), haE, hbE, h1])
            refine know_at [nl1] [.row 22 1 [lcell a.fl]] rfl ?_ (rjoin_at 10 a.fl (by omega) nl1) ⟨_, rfl⟩ (fun v hv => ?_)
            · simp (maxSteps := 4000000) (disch := first | decide | assumption | omega | (simp only [wL]; omega)) only [go_sem, simprocAttr]
            subst hv
            repeat' (first | (with_reducible refine know_pure rfl hsame ?_) | (with_reducible first | (refine wT ?_; (first | ((fail_if_success (have := nl1)); refine wN fun nl1 hnl => ?_) | refine wN fun _ hnl => ?_); revert hnl; (repeat refine wS fun _ _ => ?_); intro hnl) | refine wD (by decide +kernel) ?_ | refine wI (fun h => ?_) fun h => ?_ | refine wF (fun h => ?_) fun h => ?_ | refine wG (fun h => ?_) fun h => ?_ | refine wH (fun h => ?_) fun h => ?_ | ((first | refine mfork_bool (fun h => ?_) fun h => ?_ | refine mgfork_bool (fun h => ?_) fun h => ?_) <;> simp only [h])) | simp (maxSteps := 4000000) (disch := first | decide | assumption | omega | (simp only [wL]; omega)) only [go_sem, simprocAttr])
            · exact (hT (by rw [hbd]; simp [h1, h])).symm
            · refine .of (.less ?_ (St.none_le _)) ⟨k + 1, rfl, rfl, ⟨by omega, next (by rw [hbd]; simp [h])⟩, by omega⟩
              simp (maxSteps := 4000000) (disch := first | decide | assumption | omega | (simp only [wL]; omega)) only [go_sem, simprocAttr, weak_int, weak_same]
              all_goals rfl
          · repeat' (first | (with_reducible first | (refine wT ?_; (first | ((fail_if_success (have := nl1)); refine wN fun nl1 hnl => ?_) | refine wN fun _ hnl => ?_); revert hnl; (repeat refine wS fun _ _ => ?_); intro hnl) | refine wD (by decide +kernel) ?_ | refine wI (fun h => ?_) fun h => ?_ | refine wF (fun h => ?_) fun h => ?_ | refine wG (fun h => ?_) fun h => ?_ | refine wH (fun h => ?_) fun h => ?_ | ((first | refine mfork_bool (fun h => ?_) fun h => ?_ | refine mgfork_bool (fun h => ?_) fun h => ?_) <;> simp only [h])) | simp (maxSteps := 4000000) (disch := first | decide | assumption | omega | (simp only [wL]; omega)) only [go_sem, simprocAttr, getD_mapd (T.leaf nd0), haE, hbE, h1])
            refine mdraw_know mixed (by decide +kernel) (agC a b) ?_
            repeat' (first | (with_reducible first | (refine wT ?_; (first | ((fail_if_success (have := nl1)); refine wN fun nl1 hnl => ?_) | refine wN fun _ hnl => ?_); revert hnl; (repeat refine wS fun _ _ => ?_); intro hnl) | refine wD (by decide +kernel) ?_ | refine wI (fun h => ?_) fun h => ?_ | refine wF (fun h => ?_) fun h => ?_ | refine wG (fun h => ?_) fun h => ?_ | refine wH (fun h => ?_) fun h => ?_ | ((first | refine mfork_bool (fun h => ?_) fun h => ?_ | refine mgfork_bool (fun h => ?_) fun h => ?_) <;> simp only [h])) | simp (maxSteps := 4000000) (disch := first | decide | assumption | omega | (simp only [wL]; omega)) only [go_sem, simprocAttr, getD_mapd (T.leaf nd0), haE, hbE, h1])
            refine .of (.less ?_ (St.le_refl _)) ⟨k + 1, rfl, rfl, ⟨by omega, next (by rw [hbd]; simp [h1])⟩, by omega⟩
            simp (maxSteps := 4000000) (disch := first | decide | assumption | omega | (simp only [wL]; omega)) only [go_sem, simprocAttr, weak_int, weak_same]
            all_goals rfl
        · have hke : k = l.length := by omega
          subst hke
          repeat' (first | (with_reducible first | (refine wT ?_; (first | ((fail_if_success (have := nl1)); refine wN fun nl1 hnl => ?_) | refine wN fun _ hnl => ?_); revert hnl; (repeat refine wS fun _ _ => ?_); intro hnl) | refine wD (by decide +kernel) ?_ | refine wI (fun h => ?_) fun h => ?_ | refine wF (fun h => ?_) fun h => ?_ | refine wG (fun h => ?_) fun h => ?_ | refine wH (fun h => ?_) fun h => ?_ | ((first | refine mfork_bool (fun h => ?_) fun h => ?_ | refine mgfork_bool (fun h => ?_) fun h => ?_) <;> simp only [h])) | simp (maxSteps := 4000000) (disch := first | decide | assumption | omega | (simp only [wL]; omega)) only [go_sem, simprocAttr])
          refine .of (.less ?_ (St.le_refl _)) ⟨i + 1, rfl, rfl, ⟨by omega, ?_⟩, by omega⟩
          · simp (maxSteps := 4000000) (disch := first | decide | assumption | omega | (simp only [wL]; omega)) only [go_sem, simprocAttr, weak_int, weak_same]
            all_goals rfl
          · rw [List.take_length] at hb
            rw [any_take_succ hlt, hq, hai, hb]; rfl
    · have hie : i = l.length := by omega
      subst hie
      rw [List.take_length] at hq
      rw [hq]
      repeat' (first | (with_reducible first | (refine wT ?_; (first | ((fail_if_success (have := nl1)); refine wN fun nl1 hnl => ?_) | refine wN fun _ hnl => ?_); revert hnl; (repeat refine wS fun _ _ => ?_); intro hnl) | refine wD (by decide +kernel) ?_ | refine wI (fun h => ?_) fun h => ?_ | refine wF (fun h => ?_) fun h => ?_ | refine wG (fun h => ?_) fun h => ?_ | refine wH (fun h => ?_) fun h => ?_ | ((first | refine mfork_bool (fun h => ?_) fun h => ?_ | refine mgfork_bool (fun h => ?_) fun h => ?_) <;> simp only [h])) | simp (maxSteps := 4000000) (disch := first | decide | assumption | omega | (simp only [wL]; omega)) only [go_sem, simprocAttr])
end Go.Proofs.Ytielcgplbnlgbaa
end

section
/- The form of a form is it; the order of parts does not matter. No program in sight. -/
set_option linter.unusedVariables false
set_option linter.unusedSimpArgs false
namespace Go.Proofs.Ytielcgplbnlgbaa

theorem agst_sub {l m : List T} (h : ∀ x, x ∈ l → x ∈ m) (k : agst l = true) : agst m = true := by
  simp only [agst, List.any_eq_true, decide_eq_true_eq] at k ⊢
  obtain ⟨a, ha, b, hb, e⟩ := k
  exact ⟨a, h a ha, b, h b hb, e⟩

theorem normL_ext2 {op : Int} {p p' : List T} (ho : ∀ y, y ∈ p → y.ok) (ho' : ∀ y, y ∈ p' → y.ok) (h1 : p.any (fun t => decide (t.root.op = zeroOf op)) = p'.any (fun t => decide (t.root.op = zeroOf op)))
    (h2 : ∀ z, z ∈ p.filter (fun t => decide (t.root.op ≠ unitOf op)) ↔ z ∈ p'.filter (fun t => decide (t.root.op ≠ unitOf op))) : normL op p = normL op p' := by
  have f1 : ∀ y, y ∈ p.filter (fun t => decide (t.root.op ≠ unitOf op)) → y.ok := fun y hy => ho y (List.mem_filter.1 hy).1
  have f2 : ∀ y, y ∈ p'.filter (fun t => decide (t.root.op ≠ unitOf op)) → y.ok := fun y hy => ho' y (List.mem_filter.1 hy).1
  have : sortT (p.filter fun t => decide (t.root.op ≠ unitOf op)) = sortT (p'.filter fun t => decide (t.root.op ≠ unitOf op)) :=
    risF_unique (sortT_rising f1) (sortT_rising f2) fun z => by rw [mem_sortT f1, mem_sortT f2]; exact h2 z
  unfold normL
  rw [h1, this]

theorem normL_ext {op : Int} {p p' : List T} (ho : ∀ y, y ∈ p → y.ok) (h : ∀ z, z ∈ p ↔ z ∈ p') : normL op p = normL op p' := by
  refine normL_ext2 ho (fun y hy => ho y ((h y).2 hy)) ?_ fun z => by rw [List.mem_filter, List.mem_filter, h]
  rw [Bool.eq_iff_iff, List.any_eq_true, List.any_eq_true]
  exact ⟨fun ⟨x, hx, e⟩ => ⟨x, (h x).1 hx, e⟩, fun ⟨x, hx, e⟩ => ⟨x, (h x).2 hx, e⟩⟩

theorem zero_unit (op : Int) : zeroOf op ≠ unitOf op ∧ (zeroOf op = 1 ∨ zeroOf op = 2) ∧ (unitOf op = 1 ∨ unitOf op = 2) := by
  unfold zeroOf unitOf
  split <;> simp

theorem normL_id {op : Int} {l : List T} (hr : RisF l) (ho : ∀ y, y ∈ l → y.ok) (hn : ∀ y, y ∈ l → y.root.op ≠ 1 ∧ y.root.op ≠ 2) (ha : agst l = false) : normL op l = foldO op l := by
  obtain ⟨z1, z2, z3⟩ := zero_unit op
  have e1 : l.any (fun t => decide (t.root.op = zeroOf op)) = false := by
    rw [List.any_eq_false]
    intro y hy
    have := hn y hy
    rw [decide_eq_true_eq]
    rcases z2 with e | e <;> rw [e] <;> omega
  have e2 : l.filter (fun t => decide (t.root.op ≠ unitOf op)) = l := by
    rw [List.filter_eq_self]
    intro y hy
    have := hn y hy
    rw [decide_eq_true_eq]
    rcases z3 with e | e <;> rw [e] <;> omega
  have e3 : sortT l = l := risF_unique (sortT_rising ho) hr fun z => mem_sortT ho
  unfold normL
  rw [e1, e2, e3, ha, if_neg (by simp), if_neg (by simp)]

inductive NF : T → Prop where
  | cst (op : Int) (h : op = 1 ∨ op = 2) : NF (.leaf (nd op))
  | atom (x : ND) (h0 : parts x.op = 0) (h1 : ¬ (x.op = 1 ∨ x.op = 2)) : NF (.leaf x)
  | nota (x : ND) (h0 : parts x.op = 0) (h1 : ¬ (x.op = 1 ∨ x.op = 2)) : NF (.one (nd 10) (.leaf x))
  | join (op : Int) (hop : op = 11 ∨ op = 12) (l : List T) (h2 : 2 ≤ l.length) (hr : RisF l) (hy : ∀ y, y ∈ l → NF y) (ho : ∀ y, y ∈ l → y.ok) (hi : ∀ y, y ∈ l → Irr op y)
      (hn : ∀ y, y ∈ l → y.root.op ≠ 1 ∧ y.root.op ≠ 2) (ha : agst l = false) : NF (foldO op l)

theorem NF.pcs {t : T} (h : NF t) {op : Int} (hop : op = 11 ∨ op = 12) : ∀ y, y ∈ pcs op t → NF y := by
  cases h with
  | cst o h => intro y hy; rw [Proofs.Ytielcgplbnlgbaa.pcs, List.mem_singleton] at hy; subst hy; exact .cst o h
  | atom x h0 h1 => intro y hy; rw [Proofs.Ytielcgplbnlgbaa.pcs, List.mem_singleton] at hy; subst hy; exact .atom x h0 h1
  | nota x h0 h1 => intro y hy; rw [Proofs.Ytielcgplbnlgbaa.pcs, List.mem_singleton] at hy; subst hy; exact .nota x h0 h1
  | join o ho' l h2 hr hy ho hi hn ha =>
    intro y hm
    by_cases e : o = op
    · subst e
      rw [pcs_foldO (by intro e; rw [e] at h2; simp at h2) hi] at hm
      exact hy y hm
    · have : Proofs.Ytielcgplbnlgbaa.pcs op (foldO o l) = [foldO o l] := by
        match l, h2 with
        | a :: b :: r, _ => rw [foldO, Proofs.Ytielcgplbnlgbaa.pcs, if_neg (by exact e)]
      rw [this, List.mem_singleton] at hm
      subst hm
      exact .join o ho' l h2 hr hy ho hi hn ha

theorem NF_normL {op : Int} (hop : op = 11 ∨ op = 12) {p : List T} (hp : ∀ y, y ∈ p → NF y) (ho : ∀ y, y ∈ p → y.ok) (hi : ∀ y, y ∈ p → Irr op y) : NF (normL op p) := by
  obtain ⟨z1, z2, z3⟩ := zero_unit op
  unfold normL
  split
  · exact .cst _ z2
  · rename_i hz
    split
    · exact .cst _ z2
    · rename_i hag
      have f1 : ∀ y, y ∈ p.filter (fun t => decide (t.root.op ≠ unitOf op)) → y.ok := fun y hy => ho y (List.mem_filter.1 hy).1
      have hm : ∀ y, y ∈ sortT (p.filter fun t => decide (t.root.op ≠ unitOf op)) → y ∈ p ∧ y.root.op ≠ unitOf op := fun y hy => by
        have := List.mem_filter.1 ((mem_sortT f1).1 hy)
        exact ⟨this.1, by simpa using this.2⟩
      have hr := sortT_rising f1
      generalize sortT (p.filter fun t => decide (t.root.op ≠ unitOf op)) = l at *
      match l, hm, hr, hag with
      | [], _, _, _ => rw [foldO]; exact .cst _ z3
      | [x], hm, _, _ => exact hp x (hm x (List.mem_cons_self ..)).1
      | x :: y :: r, hm, hr, hag =>
        refine .join op hop _ (by simp) hr (fun z hz' => hp z (hm z hz').1) (fun z hz' => ho z (hm z hz').1) (fun z hz' => hi z (hm z hz').1) (fun z hz' => ?_) (by simpa using hag)
        have h1 := (hm z hz').2
        have h2 : z.root.op ≠ zeroOf op := fun e => hz (List.any_eq_true.2 ⟨z, (hm z hz').1, by simpa using e⟩)
        unfold unitOf at h1
        unfold zeroOf at h2
        split at h1
        · rename_i h; rw [if_pos h] at h2; omega
        · rename_i h; rw [if_neg h] at h2; omega

theorem NF_form : ∀ {t : T} (tn : Bool), t.ok → Good t → NF (formT t tn)
  | .leaf x, tn, h, g => by
    rw [formT]
    split
    · rename_i hop
      refine .cst _ ?_
      split <;> omega
    · rename_i hop
      split
      · exact .nota x h hop
      · exact .atom x h hop
  | .one x a, tn, h, g => NF_form (!tn) h.2 (good_one.1 g).2.2
  | .two x a b, tn, h, g => by
    obtain ⟨h1, h2, h3, h4⟩ := good_two.1 g
    have hop := op_turn (parts_two h1) tn
    rw [formT, joinT]
    have ga := good_form tn h3
    have gb := good_form tn h4
    exact NF_normL hop (fun y hy => (List.mem_append.1 hy).elim ((NF_form tn h.2.1 h3).pcs hop y) ((NF_form tn h.2.2 h4).pcs hop y))
      (fun y hy => (List.mem_append.1 hy).elim (pcs_ok ga.1 y) (pcs_ok gb.1 y)) (fun y hy => (List.mem_append.1 hy).elim (pcs_irr y) (pcs_irr y))

theorem form_foldO {op : Int} (hop : op = 11 ∨ op = 12) : ∀ {l : List T}, l ≠ [] → RisF l → (∀ y, y ∈ l → y.ok) → (∀ y, y ∈ l → formT y false = y) → (∀ y, y ∈ l → Irr op y) →
    (∀ y, y ∈ l → y.root.op ≠ 1 ∧ y.root.op ≠ 2) → agst l = false → formT (foldO op l) false = foldO op l
  | [], h, _, _, _, _, _, _ => absurd rfl h
  | [x], _, _, _, hf, _, _, _ => hf x (List.mem_cons_self ..)
  | x :: y :: r, _, hr, ho, hf, hi, hn, ha => by
    have hr2 := (List.pairwise_cons.1 hr).2
    have ha2 : agst (y :: r) = false := by
      rw [← Bool.not_eq_true]
      intro k
      rw [agst_sub (fun z hz => List.mem_cons_of_mem _ hz) k] at ha
      cases ha
    have ih := form_foldO hop (l := y :: r) (by simp) hr2 (fun z hz => ho z (List.mem_cons_of_mem _ hz)) (fun z hz => hf z (List.mem_cons_of_mem _ hz)) (fun z hz => hi z (List.mem_cons_of_mem _ hz)) (fun z hz => hn z (List.mem_cons_of_mem _ hz)) ha2
    rw [foldO, formT, ih, hf x (List.mem_cons_self ..)]
    simp only [Bool.false_eq_true, if_false]
    show joinT op x (foldO op (y :: r)) = _
    rw [joinT, hi x (List.mem_cons_self ..), pcs_foldO (by simp) fun z hz => hi z (List.mem_cons_of_mem _ hz)]
    exact normL_id hr ho hn ha

theorem form_NF {t : T} (h : NF t) : formT t false = t := by
  induction h with
  | cst op h => rw [formT, if_pos (by exact h)]; rfl
  | atom x h0 h1 => rw [formT, if_neg h1]; rfl
  | nota x h0 h1 => rw [formT, formT, if_neg h1]; rfl
  | join op hop l h2 hr hy ho hi hn ha ih => exact form_foldO hop (by intro e; rw [e] at h2; simp at h2) hr ho ih hi hn ha

theorem form_form {t : T} (g : Good t) : formT (formT t false) false = formT t false := form_NF (NF_form false g.1 g)

/-! ### The order of parts -/
theorem normL_in {op : Int} {p q : List T} (hp : ∀ y, y ∈ p → y.ok) (hq : ∀ y, y ∈ q → y.ok) (hi : ∀ y, y ∈ p → Irr op y) : normL op (q ++ pcs op (normL op p)) = normL op (q ++ p) := by
  obtain ⟨z1, z2, z3⟩ := zero_unit op
  have hqp : ∀ y, y ∈ q ++ p → y.ok := fun y hy => (List.mem_append.1 hy).elim (hq y) (hp y)
  have lz : ∀ (r : List T), normL op (q ++ pcs op (.leaf (nd (zeroOf op)))) = .leaf (nd (zeroOf op)) := fun r => by
    unfold normL
    rw [if_pos (List.any_eq_true.2 ⟨.leaf (nd (zeroOf op)), by simp [pcs], by simp [T.root, nd]⟩)]
  have f1 : ∀ y, y ∈ p.filter (fun t => decide (t.root.op ≠ unitOf op)) → y.ok := fun y hy => hp y (List.mem_filter.1 hy).1
  have f2 : ∀ y, y ∈ (q ++ p).filter (fun t => decide (t.root.op ≠ unitOf op)) → y.ok := fun y hy => hqp y (List.mem_filter.1 hy).1
  by_cases hz : p.any (fun t => decide (t.root.op = zeroOf op)) = true
  · have e1 : normL op p = .leaf (nd (zeroOf op)) := by unfold normL; rw [if_pos hz]
    have e2 : normL op (q ++ p) = .leaf (nd (zeroOf op)) := by unfold normL; rw [if_pos (by rw [List.any_append, hz, Bool.or_true])]
    rw [e1, e2, lz p]
  · by_cases ha : agst (sortT (p.filter fun t => decide (t.root.op ≠ unitOf op))) = true
    · have e1 : normL op p = .leaf (nd (zeroOf op)) := by unfold normL; rw [if_neg hz, if_pos ha]
      have e2 : normL op (q ++ p) = .leaf (nd (zeroOf op)) := by
        unfold normL
        split
        · rfl
        · rw [if_pos (agst_sub (fun x hx => ?_) ha)]
          have := List.mem_filter.1 ((mem_sortT f1).1 hx)
          exact (mem_sortT f2).2 (List.mem_filter.2 ⟨List.mem_append.2 (.inr this.1), this.2⟩)
      rw [e1, e2, lz p]
    · have e1 : normL op p = foldO op (sortT (p.filter fun t => decide (t.root.op ≠ unitOf op))) := by unfold normL; rw [if_neg hz, if_neg ha]
      have hz' : p.any (fun t => decide (t.root.op = zeroOf op)) = false := by simpa using hz
      have hm : ∀ y, y ∈ sortT (p.filter fun t => decide (t.root.op ≠ unitOf op)) ↔ y ∈ p.filter (fun t => decide (t.root.op ≠ unitOf op)) := fun y => mem_sortT f1
      rw [e1]
      generalize sortT (p.filter fun t => decide (t.root.op ≠ unitOf op)) = l at *
      by_cases hl : l = []
      · subst hl
        have hpe : ∀ y, ¬ y ∈ p.filter (fun t => decide (t.root.op ≠ unitOf op)) := fun y hy => by have := (hm y).2 hy; cases this
        have hu : pcs op (foldO op []) = [.leaf (nd (unitOf op))] := rfl
        rw [hu]
        refine normL_ext2 (fun y hy => (List.mem_append.1 hy).elim (hq y) fun hy => ?_) hqp ?_ fun z => ?_
        · rw [List.mem_singleton] at hy; subst hy; exact (good_nd z3).1
        · rw [List.any_append, List.any_append, hz']
          simp [T.root, nd, Ne.symm z1]
        · rw [List.filter_append, List.filter_append, List.mem_append, List.mem_append]
          constructor
          · rintro (h | h)
            · exact .inl h
            · simp [T.root, nd] at h
          · rintro (h | h)
            · exact .inl h
            · exact absurd h (hpe z)
      · have hin : ∀ y, y ∈ l → y ∈ p ∧ y.root.op ≠ unitOf op := fun y hy => by
          have := List.mem_filter.1 ((hm y).1 hy)
          exact ⟨this.1, by simpa using this.2⟩
        rw [pcs_foldO hl fun y hy => hi y (hin y hy).1]
        refine normL_ext2 (fun y hy => (List.mem_append.1 hy).elim (hq y) fun hy => hp y (hin y hy).1) hqp ?_ fun z => ?_
        · rw [List.any_append, List.any_append, hz']
          have : l.any (fun t => decide (t.root.op = zeroOf op)) = false := by
            rw [List.any_eq_false] at hz' ⊢
            exact fun y hy => hz' y (hin y hy).1
          rw [this]
        · rw [List.filter_append, List.filter_append, List.mem_append, List.mem_append, ← hm]
          constructor
          · rintro (h | h)
            · exact .inl h
            · exact .inr (List.mem_filter.1 h).1
          · rintro (h | h)
            · exact .inl h
            · exact .inr (List.mem_filter.2 ⟨h, by simpa using (hin z h).2⟩)

theorem form_swap {op : Int} (hop : op = 11 ∨ op = 12) {a b : T} (ga : Good a) (gb : Good b) : formT (.two (nd op) a b) false = formT (.two (nd op) b a) false := by
  have ha := (good_form false ga).1
  have hb := (good_form false gb).1
  simp only [formT, joinT, Bool.false_eq_true, if_false]
  exact normL_ext (fun y hy => (List.mem_append.1 hy).elim (pcs_ok ha y) (pcs_ok hb y)) fun z => by rw [List.mem_append, List.mem_append, Or.comm]

theorem form_twice {op : Int} (hop : op = 11 ∨ op = 12) {a b : T} (ga : Good a) (gb : Good b) : formT (.two (nd op) a (.two (nd op) b a)) false = formT (.two (nd op) a b) false := by
  have ha := (good_form false ga).1
  have hb := (good_form false gb).1
  simp only [formT, joinT, Bool.false_eq_true, if_false]
  show normL op (pcs op (formT a false) ++ pcs op (normL op (pcs op (formT b false) ++ pcs op (formT a false)))) = normL op (pcs op (formT a false) ++ pcs op (formT b false))
  rw [normL_in (fun y hy => (List.mem_append.1 hy).elim (pcs_ok hb y) (pcs_ok ha y)) (pcs_ok ha) (fun y hy => (List.mem_append.1 hy).elim (pcs_irr y) (pcs_irr y))]
  refine normL_ext (fun y hy => (List.mem_append.1 hy).elim (pcs_ok ha y) fun hy => (List.mem_append.1 hy).elim (pcs_ok hb y) (pcs_ok ha y)) fun z => ?_
  simp only [List.mem_append]
  constructor
  · rintro (h | h | h)
    · exact .inl h
    · exact .inr h
    · exact .inl h
  · rintro (h | h)
    · exact .inl h
    · exact .inr (.inl h)
end Go.Proofs.Ytielcgplbnlgbaa
end

section
/- Forms of filters: how long they are. No program in sight. -/
set_option linter.unusedVariables false
set_option linter.unusedSimpArgs false
namespace Go.Proofs.Ytielcgplbnlgbaa

/-- How long parts are together, with one for each. -/
def wgt (l : List T) : Nat := (l.map fun t => t.fl.length + 1).sum
theorem wgt_nil : wgt [] = 0 := rfl
theorem wgt_cons (t : T) (l : List T) : wgt (t :: l) = t.fl.length + 1 + wgt l := by simp [wgt]
theorem wgt_append (l m : List T) : wgt (l ++ m) = wgt l + wgt m := by simp [wgt]
theorem wgt_len (l : List T) : l.length ≤ wgt l := by
  induction l with
  | nil => simp
  | cons t l ih => rw [wgt_cons, List.length_cons]; omega
theorem wgt_mem {l : List T} {t : T} (h : t ∈ l) : t.fl.length + 1 ≤ wgt l := by
  induction l with
  | nil => cases h
  | cons u l ih =>
    rw [wgt_cons]
    rcases List.mem_cons.1 h with rfl | h
    · omega
    · have := ih h; omega

theorem pcs_wgt {op : Int} : ∀ t : T, wgt (pcs op t) ≤ t.fl.length + 1
  | .leaf x => by simp [pcs, wgt_cons, wgt_nil, T.fl]
  | .one x a => by simp [pcs, wgt_cons, wgt_nil]
  | .two x a b => by
    unfold pcs
    split
    · have h1 := pcs_wgt (op := op) a
      have h2 := pcs_wgt (op := op) b
      rw [wgt_append]
      simp only [T.fl, List.length_cons, List.length_append]
      omega
    · rw [wgt_cons, wgt_nil]; omega

theorem insT_wgt {x : T} : ∀ (d : Bool) (l : List T), wgt (insT x d l) ≤ wgt l + (if d = true then 0 else x.fl.length + 1)
  | d, [] => by cases d <;> simp [insT, wgt_cons, wgt_nil]
  | d, y :: r => by
    have h := insT_wgt (x := x) (d || decide (cmpF x.fl y.fl ≠ .gt)) r
    simp only [insT, wgt_append, wgt_cons]
    cases d <;> cases hc : cmpF x.fl y.fl <;> rw [hc] at h <;> simp [wgt_cons, wgt_nil] at h ⊢ <;> omega

theorem sortT_wgt_aux : ∀ (p acc : List T), wgt (p.foldl (fun acc x => insT x false acc) acc) ≤ wgt acc + wgt p
  | [], acc => by simp [wgt_nil]
  | x :: p, acc => by
    have h1 := sortT_wgt_aux p (insT x false acc)
    have h2 := insT_wgt (x := x) false acc
    simp only [Bool.false_eq_true, if_false] at h2
    rw [List.foldl_cons, wgt_cons]
    omega
theorem sortT_wgt (p : List T) : wgt (sortT p) ≤ wgt p := by
  have := sortT_wgt_aux p []
  rw [wgt_nil, Nat.zero_add] at this
  exact this
theorem filter_wgt (f : T → Bool) : ∀ p : List T, wgt (p.filter f) ≤ wgt p
  | [] => by simp
  | x :: p => by
    have := filter_wgt f p
    rw [List.filter_cons]
    split <;> simp only [wgt_cons] <;> omega
theorem take_wgt (p : List T) (i : Nat) : wgt (p.take i) ≤ wgt p := by
  conv => rhs; rw [← List.take_append_drop i p, wgt_append]
  omega
theorem drop_wgt (p : List T) (i : Nat) : wgt (p.drop i) ≤ wgt p := by
  conv => rhs; rw [← List.take_append_drop i p, wgt_append]
  omega

theorem foldO_len (op : Int) : ∀ l : List T, (foldO op l).fl.length ≤ max 1 (wgt l - 1)
  | [] => by simp only [foldO, T.fl, List.length_cons, List.length_nil]; omega
  | [x] => by rw [foldO, wgt_cons, wgt_nil]; omega
  | x :: y :: r => by
    have h := foldO_len op (y :: r)
    have hp := y.fl_pos
    rw [foldO, wgt_cons]
    simp only [T.fl, List.length_cons, List.length_append]
    rw [wgt_cons] at h ⊢
    omega

theorem normL_len (op : Int) (p : List T) : (normL op p).fl.length ≤ max 1 (wgt p - 1) := by
  unfold normL
  split
  · simp only [T.fl, List.length_cons, List.length_nil]; omega
  · split
    · simp only [T.fl, List.length_cons, List.length_nil]; omega
    · have h1 := foldO_len op (sortT (p.filter fun t => decide (t.root.op ≠ unitOf op)))
      have h2 := sortT_wgt (p.filter fun t => decide (t.root.op ≠ unitOf op))
      have h3 := filter_wgt (fun t => decide (t.root.op ≠ unitOf op)) p
      omega

theorem joinT_len (op : Int) (a b : T) : (joinT op a b).fl.length ≤ a.fl.length + b.fl.length + 1 := by
  have h := normL_len op (pcs op a ++ pcs op b)
  have h1 := pcs_wgt (op := op) a
  have h2 := pcs_wgt (op := op) b
  rw [wgt_append] at h
  unfold joinT
  omega

theorem formT_len : ∀ (t : T) (tn : Bool), (formT t tn).fl.length ≤ 2 * t.fl.length
  | .leaf x, tn => by
    unfold formT
    split
    · simp [T.fl]
    · split <;> simp [T.fl]
  | .one x a, tn => by
    have := formT_len a (!tn)
    rw [formT]
    simp only [T.fl, List.length_cons]
    omega
  | .two x a b, tn => by
    have h1 := formT_len a tn
    have h2 := formT_len b tn
    rw [formT]
    have h3 := joinT_len (if tn = true then 23 - x.op else x.op) (formT a tn) (formT b tn)
    simp only [T.fl, List.length_cons, List.length_append]
    omega

theorem vaOk_size {v : VA} (h : vaOk v = true) : v.s.size ≤ 1000000 := by
  unfold vaOk at h
  split at h
  · simp only [decide_eq_true_eq] at h
    rw [h]; decide
  · split at h
    · simp only [decide_eq_true_eq] at h
      rw [h.2.2]; decide
    · split at h
      · simp only [decide_eq_true_eq] at h
        omega
      · cases h
theorem ndOk_size {x : ND} (h : ndOk x = true) : x.v.s.size ≤ 1000000 := by
  have h0 : va0.s.size ≤ 1000000 := by decide
  unfold ndOk at h
  split at h
  · simp only [decide_eq_true_eq] at h; rw [h.2]; exact h0
  · split at h
    · simp only [decide_eq_true_eq] at h; rw [h.2.2]; exact h0
    · split at h
      · simp only [decide_eq_true_eq] at h; rw [h.2.2]; exact h0
      · split at h
        · simp only [decide_eq_true_eq] at h; exact vaOk_size h.2.2.1
        · split at h
          · simp only [decide_eq_true_eq] at h; exact vaOk_size h.2.2.1
          · cases h
theorem good_size {t : T} (h : Good t) : ∀ x, x ∈ t.fl → x.v.s.size ≤ 1000000 := fun x hx => ndOk_size (h.2 x hx)

/-- The atoms of a form are the tree's. -/
theorem pcs_mem {op : Int} : ∀ {t y : T}, y ∈ pcs op t → ∀ x, x ∈ y.fl → x ∈ t.fl
  | .leaf z, y, h, x, hx => by simp only [pcs, List.mem_singleton] at h; rw [h] at hx; exact hx
  | .one z a, y, h, x, hx => by simp only [pcs, List.mem_singleton] at h; rw [h] at hx; exact hx
  | .two z a b, y, h, x, hx => by
    unfold pcs at h
    split at h
    · simp only [T.fl, List.mem_cons, List.mem_append]
      rcases List.mem_append.1 h with h | h
      · exact .inr (.inl (pcs_mem h x hx))
      · exact .inr (.inr (pcs_mem h x hx))
    · rw [List.mem_singleton] at h; rw [h] at hx; exact hx
theorem nd_noatom {op : Int} (h : op = 1 ∨ op = 2 ∨ op = 10 ∨ op = 11 ∨ op = 12) : isAtom (nd op) = false := by
  rcases h with rfl | rfl | rfl | rfl | rfl <;> decide
theorem foldO_atoms {op : Int} (hop : op = 11 ∨ op = 12) : ∀ {l : List T} {x : ND}, x ∈ (foldO op l).fl → isAtom x = true → ∃ y, y ∈ l ∧ x ∈ y.fl
  | [], x, hx, ha => by
    simp only [foldO, T.fl, List.mem_singleton] at hx
    rw [hx, nd_noatom (by unfold unitOf; split <;> omega)] at ha
    cases ha
  | [y], x, hx, ha => ⟨y, List.mem_cons_self .., hx⟩
  | y :: z :: r, x, hx, ha => by
    simp only [foldO, T.fl, List.mem_cons, List.mem_append] at hx
    rcases hx with rfl | hx | hx
    · rw [nd_noatom (by omega)] at ha; cases ha
    · exact ⟨y, List.mem_cons_self .., hx⟩
    · obtain ⟨w, hw, h⟩ := foldO_atoms hop hx ha
      exact ⟨w, List.mem_cons_of_mem _ hw, h⟩
theorem normL_atoms {op : Int} (hop : op = 11 ∨ op = 12) {p : List T} (ho : ∀ y, y ∈ p → y.ok) {x : ND} (hx : x ∈ (normL op p).fl) (ha : isAtom x = true) : ∃ y, y ∈ p ∧ x ∈ y.fl := by
  have hz : isAtom (nd (zeroOf op)) = false := nd_noatom (by unfold zeroOf; split <;> omega)
  unfold normL at hx
  split at hx
  · simp only [T.fl, List.mem_singleton] at hx
    rw [hx, hz] at ha; cases ha
  · split at hx
    · simp only [T.fl, List.mem_singleton] at hx
      rw [hx, hz] at ha; cases ha
    · obtain ⟨y, hy, h⟩ := foldO_atoms hop hx ha
      rw [mem_sortT (fun y hy => ho y (List.mem_filter.1 hy).1)] at hy
      exact ⟨y, (List.mem_filter.1 hy).1, h⟩
theorem form_atoms : ∀ {t : T} {tn : Bool} {x : ND}, Good t → x ∈ (formT t tn).fl → isAtom x = true → x ∈ t.fl
  | .leaf y, tn, x, g, hx, ha => by
    unfold formT at hx
    split at hx
    · rename_i h
      simp only [T.fl, List.mem_singleton] at hx
      rw [hx, nd_noatom (by split <;> omega)] at ha; cases ha
    · split at hx
      · simp only [T.fl, List.mem_cons, List.not_mem_nil, or_false] at hx
        rcases hx with rfl | rfl
        · rw [nd_noatom (by omega)] at ha; cases ha
        · simp [T.fl]
      · exact hx
  | .one y a, tn, x, g, hx, ha => by
    rw [formT] at hx
    exact List.mem_cons_of_mem _ (form_atoms (good_one.1 g).2.2 hx ha)
  | .two y a b, tn, x, g, hx, ha => by
    obtain ⟨h1, _, ga, gb⟩ := good_two.1 g
    rw [formT] at hx
    have hop := op_turn (parts_two h1) tn
    obtain ⟨w, hw, h⟩ := normL_atoms hop (fun y hy => by
      rcases List.mem_append.1 hy with hy | hy
      · exact pcs_ok (good_form tn ga).1 y hy
      · exact pcs_ok (good_form tn gb).1 y hy) hx ha
    simp only [T.fl, List.mem_cons, List.mem_append]
    rcases List.mem_append.1 hw with hw | hw
    · exact .inr (.inl (form_atoms ga (pcs_mem hw x h) ha))
    · exact .inr (.inr (form_atoms gb (pcs_mem hw x h) ha))
end Go.Proofs.Ytielcgplbnlgbaa
end

section
/- Contract of the document's pieces: the conditions that the theorem names. -/
set_option linter.unusedVariables false
set_option linter.unusedSimpArgs false
namespace Go.Proofs.Ytielcgplbnlgbaa

/-- A call that answers a new place. -/
theorem use_new {P : Program} {g : FuncId} {ms : List MV} {σ : St} {o : MObj} {u : Nat → MV} {k : MV → St → Prop} (h : MCalls P g ms St.none fun v σ' => ∃ l, v = u l ∧ σ' = St.none.set l o) (hk : ∀ l, σ l = none → R (mlet (u l) (σ.set l o) k)) : R (mcallE P g ms σ k) :=
  use_frame h (St.none_le σ) fun v σ' hv hf => by
    obtain ⟨l, rfl, rfl⟩ := hv
    rw [minus_none, over_set, over_none]
    refine hk l ?_
    rcases hf l o (set_hit _ _ _) with h | ⟨o', h⟩
    · exact h
    · simp [St.none] at h

theorem nd_cinj {x y : ND} (h : x.c = y.c) : x = y := by
  obtain ⟨a, b, c, d, e⟩ := x
  obtain ⟨a', b', c', d', e'⟩ := y
  simp only [ND.c, List.cons.injEq, MV.int.injEq, MV.str.injEq, true_and, and_true] at h
  obtain ⟨rfl, rfl, rfl, rfl, rfl⟩ := h
  rfl
theorem nds_cinj : ∀ {l m : List ND}, l.map ND.c = m.map ND.c → l = m
  | [], [], _ => rfl
  | [], _ :: _, h => by simp at h
  | _ :: _, [], h => by simp at h
  | x :: l, y :: m, h => by
    rw [List.map_cons, List.map_cons, List.cons.injEq] at h
    rw [nd_cinj h.1, nds_cinj h.2]

/-- What pieces answers. -/
abbrev pcO (op : Int) (t : T) : MObj := .row 22 1 ((pcs op t).map tcell)
abbrev pcU (op : Int) (t : T) (l : Nat) : MV := .vec 1 l 0 (pcs op t).length
noncomputable def pcC (op : Int) (a b : T) : Know :=
  kn [(80, [.lst 5 (a.fl.map ND.c) false, .int .i64 op], ⟨[], fun _ => True, some (pcO op a, pcU op a)⟩), (80, [.lst 5 (b.fl.map ND.c) false, .int .i64 op], ⟨[], fun _ => True, some (pcO op b, pcU op b)⟩)]
theorem pcC_a {op : Int} {a b : T} : pcC op a b 80 [.lst 5 (a.fl.map ND.c) false, .int .i64 op] = some ⟨[], fun _ => True, some (pcO op a, pcU op a)⟩ := kn_hit
theorem pcC_b {op : Int} {a b : T} (ha : a.ok) (hb : b.ok) : pcC op a b 80 [.lst 5 (b.fl.map ND.c) false, .int .i64 op] = some ⟨[], fun _ => True, some (pcO op b, pcU op b)⟩ :=
  kn_skip (fun h => by
    have h := h.2
    simp only [List.cons.injEq, MV.lst.injEq, true_and, and_true] at h
    rw [fl_eq ha hb (nds_cinj h)]) kn_hit

set_option maxRecDepth 20000 in
set_option maxHeartbeats 2000000 in
theorem rpieces_call (op : Int) (hop : op = 11 ∨ op = 12) : ∀ t : T, t.ok → t.fl.length ≤ 1000 → MCalls Try.prog 80 [.lst 5 (t.fl.map ND.c) false, .int .i64 op] St.none (fun v σ' => ∃ l, v = pcU op t l ∧ σ' = St.none.set l (pcO op t))
  | .leaf x, h, hl => by
    refine MCalls.drops (MCalls.body 27 [.tmp 4] Try.func80 rfl rfl rfl rfl ?_)
    have hne : x.op ≠ op := fun e => by
      simp only [T.ok, e] at h
      rcases hop with rfl | rfl <;> (revert h; decide)
    have e : pcs op (.leaf x) = [.leaf x] := by rw [pcs]
    simp only [pcU, pcO, e, T.fl, List.map_cons, List.map_nil, List.length_cons, List.length_nil] at hl ⊢
    repeat' (first | (with_reducible first | (refine wT ?_; (first | ((fail_if_success (have := nl1)); refine wN fun nl1 hnl => ?_) | refine wN fun _ hnl => ?_); revert hnl; (repeat refine wS fun _ _ => ?_); intro hnl) | refine wD (by decide +kernel) ?_ | refine wI (fun h => ?_) fun h => ?_ | refine wF (fun h => ?_) fun h => ?_ | refine wG (fun h => ?_) fun h => ?_ | refine wH (fun h => ?_) fun h => ?_ | ((first | refine mfork_bool (fun h => ?_) fun h => ?_ | refine mgfork_bool (fun h => ?_) fun h => ?_) <;> simp only [h])) | simp (maxSteps := 4000000) (disch := first | decide | assumption | omega | (simp only [wL]; omega)) only [go_sem, simprocAttr, Try.f80])
    exact ⟨_, St.le_refl _, _, rfl, rfl⟩
  | .one x a, h, hl => by
    refine MCalls.drops (MCalls.body 27 [.tmp 4] Try.func80 rfl rfl rfl rfl ?_)
    have h1 := parts_one h.1
    have hne : x.op ≠ op := by omega
    have e : pcs op (.one x a) = [.one x a] := by rw [pcs]
    simp only [pcU, pcO, e, List.map_cons, List.map_nil, List.length_cons, List.length_nil]
    simp only [T.fl] at hl ⊢
    repeat' (first | (with_reducible first | (refine wT ?_; (first | ((fail_if_success (have := nl1)); refine wN fun nl1 hnl => ?_) | refine wN fun _ hnl => ?_); revert hnl; (repeat refine wS fun _ _ => ?_); intro hnl) | refine wD (by decide +kernel) ?_ | refine wI (fun h => ?_) fun h => ?_ | refine wF (fun h => ?_) fun h => ?_ | refine wG (fun h => ?_) fun h => ?_ | refine wH (fun h => ?_) fun h => ?_ | ((first | refine mfork_bool (fun h => ?_) fun h => ?_ | refine mgfork_bool (fun h => ?_) fun h => ?_) <;> simp only [h])) | simp (maxSteps := 4000000) (disch := first | decide | assumption | omega | (simp only [wL]; omega)) only [go_sem, simprocAttr, Try.f80])
    exact ⟨_, St.le_refl _, _, rfl, rfl⟩
  | .two x a b, h, hl => by
    refine MCalls.drops (MCalls.body 27 [.tmp 4] Try.func80 rfl rfl rfl rfl ?_)
    have hk := rkids_call (.two x a b) h hl false
    simp only [T.fl, T.kl, T.kids, List.map_cons, List.map_nil] at hl hk ⊢
    by_cases hop' : x.op = op
    · have hla : a.fl.length ≤ 1000 ∧ b.fl.length ≤ 1000 := by simp only [List.length_cons, List.length_append] at hl; omega
      have iha := rpieces_call op hop a h.2.1 hla.1
      have ihb := rpieces_call op hop b h.2.2 hla.2
      have e : pcs op (.two x a b) = pcs op a ++ pcs op b := by rw [pcs, if_pos hop']
      have hwa := Nat.le_trans (wgt_len _) (pcs_wgt (op := op) a)
      have hwb := Nat.le_trans (wgt_len _) (pcs_wgt (op := op) b)
      repeat' (first | (with_reducible refine use_pure hk ?_) | (with_reducible first | (refine wT ?_; (first | ((fail_if_success (have := nl1)); refine wN fun nl1 hnl => ?_) | refine wN fun _ hnl => ?_); revert hnl; (repeat refine wS fun _ _ => ?_); intro hnl) | refine wD (by decide +kernel) ?_ | refine wI (fun h => ?_) fun h => ?_ | refine wF (fun h => ?_) fun h => ?_ | refine wG (fun h => ?_) fun h => ?_ | refine wH (fun h => ?_) fun h => ?_ | ((first | refine mfork_bool (fun h => ?_) fun h => ?_ | refine mgfork_bool (fun h => ?_) fun h => ?_) <;> simp only [h])) | simp (maxSteps := 4000000) (disch := first | decide | assumption | omega | (simp only [wL]; omega)) only [go_sem, simprocAttr, Try.f80])
      refine mdraw_know mixed (by decide +kernel) (pcC op a b) ?_
      repeat' (first | (with_reducible first | (refine wT ?_; (first | ((fail_if_success (have := nl1)); refine wN fun nl1 hnl => ?_) | refine wN fun _ hnl => ?_); revert hnl; (repeat refine wS fun _ _ => ?_); intro hnl) | refine wD (by decide +kernel) ?_ | refine wI (fun h => ?_) fun h => ?_ | refine wF (fun h => ?_) fun h => ?_ | refine wG (fun h => ?_) fun h => ?_ | refine wH (fun h => ?_) fun h => ?_ | ((first | refine mfork_bool (fun h => ?_) fun h => ?_ | refine mgfork_bool (fun h => ?_) fun h => ?_) <;> simp only [h])) | simp (maxSteps := 4000000) (disch := first | decide | assumption | omega | (simp only [wL]; omega)) only [go_sem, simprocAttr])
      refine know_new pcC_a iha fun qa hqa => ?_
      repeat' (first | (with_reducible first | (refine wT ?_; (first | ((fail_if_success (have := nl1)); refine wN fun nl1 hnl => ?_) | refine wN fun _ hnl => ?_); revert hnl; (repeat refine wS fun _ _ => ?_); intro hnl) | refine wD (by decide +kernel) ?_ | refine wI (fun h => ?_) fun h => ?_ | refine wF (fun h => ?_) fun h => ?_ | refine wG (fun h => ?_) fun h => ?_ | refine wH (fun h => ?_) fun h => ?_ | ((first | refine mfork_bool (fun h => ?_) fun h => ?_ | refine mgfork_bool (fun h => ?_) fun h => ?_) <;> simp only [h])) | simp (maxSteps := 4000000) (disch := first | decide | assumption | omega | (simp only [wL]; omega)) only [go_sem, simprocAttr])
      refine know_new (pcC_b h.2.1 h.2.2) ihb fun qb hqb => ?_
      revert hqb; (repeat (with_reducible refine set_none_intro fun _ _ => ?_)); intro hqb
      repeat' (first | (with_reducible first | (refine wT ?_; (first | ((fail_if_success (have := nl1)); refine wN fun nl1 hnl => ?_) | refine wN fun _ hnl => ?_); revert hnl; (repeat refine wS fun _ _ => ?_); intro hnl) | refine wD (by decide +kernel) ?_ | refine wI (fun h => ?_) fun h => ?_ | refine wF (fun h => ?_) fun h => ?_ | refine wG (fun h => ?_) fun h => ?_ | refine wH (fun h => ?_) fun h => ?_ | ((first | refine mfork_bool (fun h => ?_) fun h => ?_ | refine mgfork_bool (fun h => ?_) fun h => ?_) <;> simp only [h])) | simp (maxSteps := 4000000) (disch := first | decide | assumption | omega | (simp only [wL]; omega)) only [go_sem, simprocAttr, List.take_length, Nat.min_self])
      refine ⟨St.none.set nl1 (pcO op (.two x a b)), St.set_le (St.none_le _) ((set_hit _ _ _).trans ?_), nl1, ?_, rfl⟩
      · rw [pcO, e]
      · rw [pcU, e, List.length_append]
    · have e : pcs op (.two x a b) = [.two x a b] := by rw [pcs, if_neg hop']
      simp only [pcU, pcO, e, List.map_cons, List.map_nil, List.length_cons, List.length_nil]
      repeat' (first | (with_reducible first | (refine wT ?_; (first | ((fail_if_success (have := nl1)); refine wN fun nl1 hnl => ?_) | refine wN fun _ hnl => ?_); revert hnl; (repeat refine wS fun _ _ => ?_); intro hnl) | refine wD (by decide +kernel) ?_ | refine wI (fun h => ?_) fun h => ?_ | refine wF (fun h => ?_) fun h => ?_ | refine wG (fun h => ?_) fun h => ?_ | refine wH (fun h => ?_) fun h => ?_ | ((first | refine mfork_bool (fun h => ?_) fun h => ?_ | refine mgfork_bool (fun h => ?_) fun h => ?_) <;> simp only [h])) | simp (maxSteps := 4000000) (disch := first | decide | assumption | omega | (simp only [wL]; omega)) only [go_sem, simprocAttr, Try.f80])
      exact ⟨_, St.le_refl _, _, rfl, rfl⟩
end Go.Proofs.Ytielcgplbnlgbaa
end

section
/- Contract of the document's joined: the conditions that the theorem names. -/
set_option linter.unusedVariables false
set_option linter.unusedSimpArgs false
namespace Go.Proofs.Ytielcgplbnlgbaa

theorem sortT_snoc (p : List T) (x : T) : sortT (p ++ [x]) = insT x false (sortT p) := by simp [sortT]
theorem filter_take_succ {p : List T} {f : T → Bool} {i : Nat} (h : i < p.length) : (p.take (i + 1)).filter f = (p.take i).filter f ++ (if f p[i] = true then [p[i]] else []) := by
  rw [List.take_succ_eq_append_getElem h, List.filter_append]
  congr 1
  rw [List.filter_cons]
  split <;> rfl
theorem foldO_cons (op : Int) (x : T) {l : List T} (h : l ≠ []) : foldO op (x :: l) = .two (nd op) x (foldO op l) := by
  cases l with
  | nil => exact absurd rfl h
  | cons y r => rfl
theorem root_getD (t : T) : (t.fl.map ND.c).getD 0 [] = t.root.c := by rw [T.fl_kids]; rfl

theorem any_take_succ' {p : List T} {f : T → Bool} {i : Nat} (h : i < p.length) : (p.take (i + 1)).any f = ((p.take i).any f || f p[i]) := by
  rw [List.take_succ_eq_append_getElem h, List.any_append]; simp

set_option maxHeartbeats 8000000 in
/-- Behind the pieces. -/
theorem rjoined_call (op : Int) (hop : op = 11 ∨ op = 12) (a b : T) (ga : Good a) (gb : Good b) (la : a.fl.length ≤ 200) (lb : b.fl.length ≤ 200) :
    MCalls Try.prog 60 [.int .i64 op, .lst 5 (a.fl.map ND.c) false, .lst 5 (b.fl.map ND.c) false] St.none (fun r _ => r = .lst 5 ((joinT op a b).fl.map ND.c) false) := by
  refine MCalls.seen (MCalls.body 90 [.tmp 6] Try.func60 rfl rfl rfl rfl ?_)
  have ca := rpieces_call op hop a ga.1 (by omega)
  have cb := rpieces_call op hop b gb.1 (by omega)
  have hwa := pcs_wgt (op := op) a
  have hwb := pcs_wgt (op := op) b
  have hw : wgt (pcs op a ++ pcs op b) ≤ 402 := by rw [wgt_append]; omega
  have gp : ∀ y, y ∈ pcs op a ++ pcs op b → Good y := fun y hy => (List.mem_append.1 hy).elim (good_pcs ga y) (good_pcs gb y)
  have hla := Nat.le_trans (wgt_len _) hwa
  have hlb := Nat.le_trans (wgt_len _) hwb
  have huz : unitOf op ≠ zeroOf op := by unfold unitOf zeroOf; split <;> omega
  have hj : joinT op a b = normL op (pcs op a ++ pcs op b) := rfl
  rw [hj]
  have hPl : (pcs op a ++ pcs op b).length = (pcs op a).length + (pcs op b).length := List.length_append
  obtain ⟨P, hP⟩ : ∃ P, pcs op a ++ pcs op b = P := ⟨_, rfl⟩
  rw [hP] at hw gp hPl ⊢
  have hPn : P.length ≤ 402 := Nat.le_trans (wgt_len P) hw
  -- the sorted part
  have srt : ∀ i, wgt (sortT ((P.take i).filter fun t => decide (t.root.op ≠ unitOf op))) ≤ 402 ∧ ∀ y, y ∈ sortT ((P.take i).filter fun t => decide (t.root.op ≠ unitOf op)) → Good y := fun i => by
    refine ⟨Nat.le_trans (sortT_wgt _) (Nat.le_trans (filter_wgt _ _) (Nat.le_trans (take_wgt _ _) hw)), fun y hy => ?_⟩
    rw [mem_sortT fun z hz => (gp z (List.mem_of_mem_take (List.mem_filter.1 hz).1)).1] at hy
    exact gp y (List.mem_of_mem_take (List.mem_filter.1 hy).1)
  have fin : ∀ L : List T, L = sortT (P.filter fun t => decide (t.root.op ≠ unitOf op)) → P.any (fun t => decide (t.root.op = zeroOf op)) = false → normL op P = (if agst L = true then .leaf (nd (zeroOf op)) else foldO op L) := fun L hL hz => by
    unfold normL
    rw [hL, hz]; simp
  have finz : P.any (fun t => decide (t.root.op = zeroOf op)) = true → normL op P = .leaf (nd (zeroOf op)) := fun hz => by unfold normL; rw [if_pos hz]
  clear hj ga gb
  by_cases h12 : op = 12
  all_goals
    have hun : unitOf op = if op = 12 then 2 else 1 := rfl
    have hze : zeroOf op = if op = 12 then 1 else 2 := rfl
    first | rw [if_pos h12] at hun hze | rw [if_neg h12] at hun hze
    repeat' (first | (with_reducible first | (refine wT ?_; (first | ((fail_if_success (have := nl1)); refine wN fun nl1 hnl => ?_) | ((fail_if_success (have := nl2)); refine wN fun nl2 hnl => ?_) | ((fail_if_success (have := nl3)); refine wN fun nl3 hnl => ?_) | refine wN fun _ hnl => ?_); revert hnl; (repeat refine wS fun _ _ => ?_); intro hnl) | refine wD (by decide +kernel) ?_ | refine wI (fun h => ?_) fun h => ?_ | refine wF (fun h => ?_) fun h => ?_ | refine wG (fun h => ?_) fun h => ?_ | refine wH (fun h => ?_) fun h => ?_ | ((first | refine mfork_bool (fun h => ?_) fun h => ?_ | refine mgfork_bool (fun h => ?_) fun h => ?_) <;> simp only [h])) | simp (maxSteps := 4000000) (disch := first | decide | assumption | omega | (simp only [wL]; omega)) only [go_sem, simprocAttr, Try.f60])
    refine use_new ca fun qa hqa => ?_
    repeat' (first | (with_reducible first | (refine wT ?_; (first | ((fail_if_success (have := nl1)); refine wN fun nl1 hnl => ?_) | ((fail_if_success (have := nl2)); refine wN fun nl2 hnl => ?_) | ((fail_if_success (have := nl3)); refine wN fun nl3 hnl => ?_) | refine wN fun _ hnl => ?_); revert hnl; (repeat refine wS fun _ _ => ?_); intro hnl) | refine wD (by decide +kernel) ?_ | refine wI (fun h => ?_) fun h => ?_ | refine wF (fun h => ?_) fun h => ?_ | refine wG (fun h => ?_) fun h => ?_ | refine wH (fun h => ?_) fun h => ?_ | ((first | refine mfork_bool (fun h => ?_) fun h => ?_ | refine mgfork_bool (fun h => ?_) fun h => ?_) <;> simp only [h])) | simp (maxSteps := 4000000) (disch := first | decide | assumption | omega | (simp only [wL]; omega)) only [go_sem, simprocAttr])
    refine use_new cb fun qb hqb => ?_
    revert hqb; (repeat (with_reducible refine set_none_intro fun _ _ => ?_)); intro hqb
    repeat' (first | (with_reducible first | (refine wT ?_; (first | ((fail_if_success (have := nl1)); refine wN fun nl1 hnl => ?_) | ((fail_if_success (have := nl2)); refine wN fun nl2 hnl => ?_) | ((fail_if_success (have := nl3)); refine wN fun nl3 hnl => ?_) | refine wN fun _ hnl => ?_); revert hnl; (repeat refine wS fun _ _ => ?_); intro hnl) | refine wD (by decide +kernel) ?_ | refine wI (fun h => ?_) fun h => ?_ | refine wF (fun h => ?_) fun h => ?_ | refine wG (fun h => ?_) fun h => ?_ | refine wH (fun h => ?_) fun h => ?_ | ((first | refine mfork_bool (fun h => ?_) fun h => ?_ | refine mgfork_bool (fun h => ?_) fun h => ?_) <;> simp only [h])) | simp (maxSteps := 4000000) (disch := first | decide | assumption | omega | (simp only [wL]; omega)) only [go_sem, simprocAttr, List.take_length, Nat.min_self, hP])
    refine mloop_intro (α := Nat × List T) (fun s => ⟨90, [(11, .int .i64 (s.1 : Int)), (10, .lst 1 (s.2.map tcell) false), (9, .lst 1 (P.map tcell) false), (8, .int .i64 (zeroOf op)), (7, .int .i64 (unitOf op)), (0, .int .i64 op)], []⟩)
      (fun _ => St.none) (fun s => s.1 ≤ P.length ∧ s.2 = sortT ((P.take s.1).filter fun t => decide (t.root.op ≠ unitOf op)) ∧ (P.take s.1).any (fun t => decide (t.root.op = zeroOf op)) = false) (fun s => P.length - s.1) ?_ ?_
    · refine .of (Ghost.freeze _ (St.le_refl _) (σ1 := St.none) (St.none_le _) (fun k o hk => by cases hk) ?_) ⟨(0, []), rfl, rfl, Nat.zero_le _, rfl, rfl⟩
      intro p hp
      simp only [List.mem_cons, List.not_mem_nil, or_false] at hp
      rcases hp with rfl | rfl | rfl | rfl | rfl | rfl
      · exact .same _
      · exact .vecAll (by first | (simp (maxSteps := 4000000) (disch := first | decide | assumption | omega | (simp only [wL]; omega)) only [go_sem, simprocAttr]; done) | (simp (maxSteps := 4000000) (disch := first | decide | assumption | omega | (simp only [wL]; omega)) only [go_sem, simprocAttr]; rfl)) rfl
      · exact .vecAll (by first | (simp (maxSteps := 4000000) (disch := first | decide | assumption | omega | (simp only [wL]; omega)) only [go_sem, simprocAttr]; done) | (simp (maxSteps := 4000000) (disch := first | decide | assumption | omega | (simp only [wL]; omega)) only [go_sem, simprocAttr]; rfl)) (by rw [List.length_map]; omega)
      · rw [hze]; exact .same _
      · rw [hun]; exact .same _
      · exact .same _
    · rintro ⟨i, L⟩ ⟨hi, hL, hz⟩
      simp only at hi hL hz ⊢
      obtain ⟨s1, s2⟩ := srt i
      rw [← hL] at s1 s2
      have hLl := Nat.le_trans (wgt_len L) s1
      by_cases hlt : i < P.length
      · have hx := getD_mem (.leaf nd0) hlt
        have hxi : P[i] = P.getD i (.leaf nd0) := (getD_of_lt _ hlt).symm
        obtain ⟨x, hxE⟩ : ∃ x, P.getD i (.leaf nd0) = x := ⟨_, rfl⟩
        rw [hxE] at hx hxi
        have hroot := root_getD x
        have hpos := x.fl_pos
        have gx := gp x hx
        have hwx := wgt_mem hx
        have hins := rinsert_call L x (by omega) (fun y hy => by have := wgt_mem hy; omega) (by omega) (fun y hy => good_size (s2 y hy)) (good_size gx) false
        repeat' (first | (with_reducible refine use_pure hins ?_) | (with_reducible first | (refine wT ?_; (first | ((fail_if_success (have := nl1)); refine wN fun nl1 hnl => ?_) | ((fail_if_success (have := nl2)); refine wN fun nl2 hnl => ?_) | ((fail_if_success (have := nl3)); refine wN fun nl3 hnl => ?_) | refine wN fun _ hnl => ?_); revert hnl; (repeat refine wS fun _ _ => ?_); intro hnl) | refine wD (by decide +kernel) ?_ | refine wI (fun h => ?_) fun h => ?_ | refine wF (fun h => ?_) fun h => ?_ | refine wG (fun h => ?_) fun h => ?_ | refine wH (fun h => ?_) fun h => ?_ | ((first | refine mfork_bool (fun h => ?_) fun h => ?_ | refine mgfork_bool (fun h => ?_) fun h => ?_) <;> simp only [h])) | simp (maxSteps := 4000000) (disch := first | decide | assumption | omega | (simp only [wL]; omega)) only [go_sem, simprocAttr, getD_mapd (T.leaf nd0), hxE, hroot])
        · rw [finz (List.any_eq_true.2 ⟨x, hx, by simp [h]⟩)]
          exact .vecAll (set_hit _ _ _) rfl
        · rename_i h1
          have h2 := h
          refine .of (.less ?_ (St.le_refl _)) ⟨(i + 1, insT x false L), rfl, rfl, ⟨by simp only; omega, ?_, ?_⟩, by simp only; omega⟩
          · simp (maxSteps := 4000000) (disch := first | decide | assumption | omega | (simp only [wL]; omega)) only [go_sem, simprocAttr, weak_int, weak_same]
            all_goals rfl
          · simp only
            rw [filter_take_succ hlt, hxi, if_pos (by simp [h2]), sortT_snoc, ← hL]
          · simp only
            rw [any_take_succ' hlt, hz, hxi]; simp [h1]
        · rename_i h1
          have h2 := h
          refine .of (.less ?_ (St.le_refl _)) ⟨(i + 1, L), rfl, rfl, ⟨by simp only; omega, ?_, ?_⟩, by simp only; omega⟩
          · simp (maxSteps := 4000000) (disch := first | decide | assumption | omega | (simp only [wL]; omega)) only [go_sem, simprocAttr, weak_int, weak_same]
            all_goals rfl
          · simp only
            rw [filter_take_succ hlt, hxi, if_neg (by simpa using h2), List.append_nil, ← hL]
          · simp only
            rw [any_take_succ' hlt, hz, hxi]; simp [h1]
      · have hie : i = P.length := by omega
        subst hie
        rw [List.take_length] at hL hz
        rw [fin L hL hz]
        have hag := ragainst_call L (by omega) (fun y hy => by have := wgt_mem hy; omega) false
        have hfl : ∀ k, (foldO op (L.drop k)).fl.length ≤ 402 := fun k => by
          have h1 := foldO_len op (L.drop k)
          have h2 := drop_wgt L k
          omega
        clear hL hz fin finz srt
        cases hab : agst L <;> rw [hab] at hag
        · by_cases hne : L = []
          · subst hne
            simp only [List.map_nil] at hag
            repeat' (first | (with_reducible refine use_pure hag ?_) | (with_reducible first | (refine wT ?_; (first | ((fail_if_success (have := nl1)); refine wN fun nl1 hnl => ?_) | ((fail_if_success (have := nl2)); refine wN fun nl2 hnl => ?_) | ((fail_if_success (have := nl3)); refine wN fun nl3 hnl => ?_) | refine wN fun _ hnl => ?_); revert hnl; (repeat refine wS fun _ _ => ?_); intro hnl) | refine wD (by decide +kernel) ?_ | refine wI (fun h => ?_) fun h => ?_ | refine wF (fun h => ?_) fun h => ?_ | refine wG (fun h => ?_) fun h => ?_ | refine wH (fun h => ?_) fun h => ?_ | ((first | refine mfork_bool (fun h => ?_) fun h => ?_ | refine mgfork_bool (fun h => ?_) fun h => ?_) <;> simp only [h])) | simp (maxSteps := 4000000) (disch := first | decide | assumption | omega | (simp only [wL]; omega)) only [go_sem, simprocAttr])
            exact .vecAll (set_hit _ _ _) rfl
          · have hLp : 0 < L.length := List.length_pos_iff.2 hne
            obtain ⟨m, hm⟩ : ∃ m, L.length = m + 1 := ⟨L.length - 1, by omega⟩
            have em : (((m + 1 : Nat) : Int) - 1) = (m : Int) := by omega
            have hlast : L.getD m (.leaf nd0) = foldO op (L.drop m) := by
              rw [List.drop_eq_getElem_cons (by omega), List.drop_eq_nil_of_le (by omega), getD_of_lt _ (by omega)]; rfl
            repeat' (first | (with_reducible refine use_pure hag ?_) | (with_reducible first | (refine wT ?_; (first | ((fail_if_success (have := nl1)); refine wN fun nl1 hnl => ?_) | ((fail_if_success (have := nl2)); refine wN fun nl2 hnl => ?_) | ((fail_if_success (have := nl3)); refine wN fun nl3 hnl => ?_) | refine wN fun _ hnl => ?_); revert hnl; (repeat refine wS fun _ _ => ?_); intro hnl) | refine wD (by decide +kernel) ?_ | refine wI (fun h => ?_) fun h => ?_ | refine wF (fun h => ?_) fun h => ?_ | refine wG (fun h => ?_) fun h => ?_ | refine wH (fun h => ?_) fun h => ?_ | ((first | refine mfork_bool (fun h => ?_) fun h => ?_ | refine mgfork_bool (fun h => ?_) fun h => ?_) <;> simp only [h])) | simp (maxSteps := 4000000) (disch := first | decide | assumption | omega | (simp only [wL]; omega)) only [go_sem, simprocAttr, getD_mapd (T.leaf nd0), hm, em, hlast])
            refine mloop_intro (α := Nat) (fun k => ⟨90, [(13, .int .i64 ((k : Int) - 1)), (12, .lst 5 ((foldO op (L.drop k)).fl.map ND.c) false), (10, .lst 1 (L.map tcell) false), (0, .int .i64 op)], []⟩)
              (fun _ => St.none) (fun k => k ≤ m) (fun k => k) (.of (.less ?_ (St.le_refl _)) ⟨m, rfl, rfl, Nat.le_refl _⟩) ?_
            · simp (maxSteps := 4000000) (disch := first | decide | assumption | omega | (simp only [wL]; omega)) only [go_sem, simprocAttr, weak_int, weak_same]
              all_goals omega
            · intro k hk
              have hk : k ≤ m := hk
              cases k with
              | zero =>
                have e0 : (((0 : Nat) : Int) - 1) = -1 := rfl
                repeat' (first | (with_reducible first | (refine wT ?_; (first | ((fail_if_success (have := nl1)); refine wN fun nl1 hnl => ?_) | ((fail_if_success (have := nl2)); refine wN fun nl2 hnl => ?_) | ((fail_if_success (have := nl3)); refine wN fun nl3 hnl => ?_) | refine wN fun _ hnl => ?_); revert hnl; (repeat refine wS fun _ _ => ?_); intro hnl) | refine wD (by decide +kernel) ?_ | refine wI (fun h => ?_) fun h => ?_ | refine wF (fun h => ?_) fun h => ?_ | refine wG (fun h => ?_) fun h => ?_ | refine wH (fun h => ?_) fun h => ?_ | ((first | refine mfork_bool (fun h => ?_) fun h => ?_ | refine mgfork_bool (fun h => ?_) fun h => ?_) <;> simp only [h])) | simp (maxSteps := 4000000) (disch := first | decide | assumption | omega | (simp only [wL]; omega)) only [go_sem, simprocAttr, e0, List.drop_zero])
                exact .same _
              | succ k =>
                have ek : (((k + 1 : Nat) : Int) - 1) = (k : Int) := by omega
                have hkl : k < L.length := by omega
                obtain ⟨y, hyE⟩ : ∃ y, L.getD k (.leaf nd0) = y := ⟨_, rfl⟩
                have hym : y ∈ L := hyE ▸ getD_mem _ hkl
                have hyw := wgt_mem hym
                have hf1 := hfl (k + 1)
                have hj := rjoin_call op [y.fl, (foldO op (L.drop (k + 1))).fl] false (by simp) (fun l hl => by
                  simp only [List.mem_cons, List.not_mem_nil, or_false] at hl
                  rcases hl with rfl | rfl <;> omega)
                have hnext : foldO op (L.drop k) = .two (nd op) y (foldO op (L.drop (k + 1))) := by
                  rw [List.drop_eq_getElem_cons hkl, foldO_cons op _ (by rw [Ne, List.drop_eq_nil_iff]; omega), ← getD_of_lt (.leaf nd0) hkl, hyE]
                have hres : (foldO op (L.drop k)).fl = nd op :: [y.fl, (foldO op (L.drop (k + 1))).fl].flatten := by
                  rw [hnext]; simp [T.fl]
                rw [← hres] at hj
                simp only [List.map_cons, List.map_nil] at hj
                repeat' (first | (with_reducible first | (refine wT ?_; (first | ((fail_if_success (have := nl1)); refine wN fun nl1 hnl => ?_) | ((fail_if_success (have := nl2)); refine wN fun nl2 hnl => ?_) | ((fail_if_success (have := nl3)); refine wN fun nl3 hnl => ?_) | refine wN fun _ hnl => ?_); revert hnl; (repeat refine wS fun _ _ => ?_); intro hnl) | refine wD (by decide +kernel) ?_ | refine wI (fun h => ?_) fun h => ?_ | refine wF (fun h => ?_) fun h => ?_ | refine wG (fun h => ?_) fun h => ?_ | refine wH (fun h => ?_) fun h => ?_ | ((first | refine mfork_bool (fun h => ?_) fun h => ?_ | refine mgfork_bool (fun h => ?_) fun h => ?_) <;> simp only [h])) | simp (maxSteps := 4000000) (disch := first | decide | assumption | omega | (simp only [wL]; omega)) only [go_sem, simprocAttr, getD_mapd (T.leaf nd0), hm, ek, hyE])
                refine use_give1 _ nl3 hj (set_hit _ _ _) rfl (views_two (.same _) (.vecAll (set_hit _ _ _) rfl)) ?_
                repeat' (first | (with_reducible first | (refine wT ?_; (first | ((fail_if_success (have := nl1)); refine wN fun nl1 hnl => ?_) | ((fail_if_success (have := nl2)); refine wN fun nl2 hnl => ?_) | ((fail_if_success (have := nl3)); refine wN fun nl3 hnl => ?_) | refine wN fun _ hnl => ?_); revert hnl; (repeat refine wS fun _ _ => ?_); intro hnl) | refine wD (by decide +kernel) ?_ | refine wI (fun h => ?_) fun h => ?_ | refine wF (fun h => ?_) fun h => ?_ | refine wG (fun h => ?_) fun h => ?_ | refine wH (fun h => ?_) fun h => ?_ | ((first | refine mfork_bool (fun h => ?_) fun h => ?_ | refine mgfork_bool (fun h => ?_) fun h => ?_) <;> simp only [h])) | simp (maxSteps := 4000000) (disch := first | decide | assumption | omega | (simp only [wL]; omega)) only [go_sem, simprocAttr])
                refine .of (.less ?_ (St.none_le _)) ⟨k, rfl, rfl, by omega, by omega⟩
                simp (maxSteps := 4000000) (disch := first | decide | assumption | omega | (simp only [wL]; omega)) only [go_sem, simprocAttr, weak_int, weak_same]
        · repeat' (first | (with_reducible refine use_pure hag ?_) | (with_reducible first | (refine wT ?_; (first | ((fail_if_success (have := nl1)); refine wN fun nl1 hnl => ?_) | ((fail_if_success (have := nl2)); refine wN fun nl2 hnl => ?_) | ((fail_if_success (have := nl3)); refine wN fun nl3 hnl => ?_) | refine wN fun _ hnl => ?_); revert hnl; (repeat refine wS fun _ _ => ?_); intro hnl) | refine wD (by decide +kernel) ?_ | refine wI (fun h => ?_) fun h => ?_ | refine wF (fun h => ?_) fun h => ?_ | refine wG (fun h => ?_) fun h => ?_ | refine wH (fun h => ?_) fun h => ?_ | ((first | refine mfork_bool (fun h => ?_) fun h => ?_ | refine mgfork_bool (fun h => ?_) fun h => ?_) <;> simp only [h])) | simp (maxSteps := 4000000) (disch := first | decide | assumption | omega | (simp only [wL]; omega)) only [go_sem, simprocAttr])
          exact .vecAll (set_hit _ _ _) rfl
end Go.Proofs.Ytielcgplbnlgbaa
end

section
/- Loops over functions (1): what the one side may count on while the other one works; the statement's rule. -/
set_option linter.unusedVariables false
set_option linter.unusedSimpArgs false
namespace Go.Proofs.Ytielcgplbnlgbaa

/-- The other side: a memory, the blocks that it writes, and the cells that it holds fixed. -/
structure YS where
  w : World
  wr : Nat → Prop
  sn : Addr → Option Value

/-- What the other side holds is there. -/
structure Agree (S : YS) (w : World) : Prop where
  same : ∀ k, S.wr k → w.heap[k]? = S.w.heap[k]?
  lt : ∀ k, S.wr k → k < S.w.heap.size
  nomark : ∀ k, S.wr k → ∀ x, S.w.heap[k]? ≠ some (Obj.deferred x)
  sn : ∀ a v, S.sn a = some v → w.cell? a = some v
  size : S.w.heap.size ≤ w.heap.size
  os : w.os = S.w.os
  tape : w.tape = S.w.tape
  output : w.output = S.w.output
  drawn : S.w.drawn ≤ w.drawn

structure Apt (Φ : Phi) (σ : St) (S : YS) (w : World) : Prop where
  agree : Agree S w
  own : ∀ k, S.wr k → ¬ Owned Φ σ k
  snown : ∀ a v, S.sn a = some v → ¬ Owned Φ σ a.block
  snap : ∀ a v, Φ.snap a = some v → ¬ S.wr a.block

theorem Apt.step {Φ Φ' : Phi} {σ σ' : St} {S : YS} {w w' : World} (h : Apt Φ σ S w) (hs : Step Φ σ w Φ' σ' w') : Apt Φ' σ' S w' := by
  have hlt : ∀ k, S.wr k → k < w.heap.size := fun k hk => Nat.lt_of_lt_of_le (h.agree.lt k hk) h.agree.size
  have hsl : ∀ a v, S.sn a = some v → a.block < w.heap.size := fun a v q => World.block_lt_of_cell? w a (h.agree.sn a v q)
  refine ⟨⟨fun k hk => (hs.block k (hlt k hk) (h.own k hk)).trans (h.agree.same k hk), h.agree.lt, h.agree.nomark, fun a v q => ?_, Nat.le_trans h.agree.size hs.size, hs.os.trans h.agree.os, hs.tape.trans h.agree.tape, hs.output.trans h.agree.output, Nat.le_trans h.agree.drawn hs.drawn⟩, fun k hk ho => ?_, fun a v q ho => ?_, fun a v hv hk => ?_⟩
  · rw [World.cell?_heap (hs.block _ (hsl a v q) (h.snown a v q))]
    exact h.agree.sn a v q
  · rcases hs.ownd k ho with q | q
    · exact h.own k hk q
    · have := hlt k hk; omega
  · rcases hs.ownd _ ho with p | p
    · exact h.snown a v q p
    · have := hsl a v q; omega
  · rcases hs.snapn a v hv with q | q | q
    · exact h.snap a v q hk
    · have := hlt _ hk; omega
    · exact h.own _ hk q

/-- A step in which the other side may have worked, too. -/
structure StepS (Φ : Phi) (σ : St) (w : World) (S : YS) (Φ' : Phi) (σ' : St) (w' : World) (S' : YS) : Prop where
  le : Φ.le Φ'
  os : w'.os = w.os
  tape : w'.tape = w.tape
  output : w'.output = w.output
  drawn : w.drawn ≤ w'.drawn
  size : w.heap.size ≤ w'.heap.size
  block : ∀ k, k < w.heap.size → ¬ Owned Φ σ k → ¬ S.wr k → w'.heap[k]? = w.heap[k]?
  snapn : ∀ a v, Φ'.snap a = some v → Φ.snap a = some v ∨ w.heap.size ≤ a.block ∨ Owned Φ σ a.block
  ownd : ∀ R, Owned Φ' σ' R → Owned Φ σ R ∨ w.heap.size ≤ R
  wr : ∀ k, S'.wr k → S.wr k ∨ w.heap.size ≤ k
  sn : ∀ a v, S'.sn a = some v → S.sn a = some v ∨ S.wr a.block ∨ w.heap.size ≤ a.block ∨ Φ.snap a = some v ∨ Owned Φ σ a.block

theorem StepS.of {Φ Φ' : Phi} {σ σ' : St} {w w' : World} (S : YS) (hs : Step Φ σ w Φ' σ' w') : StepS Φ σ w S Φ' σ' w' S :=
  ⟨hs.le, hs.os, hs.tape, hs.output, hs.drawn, hs.size, fun k hk hn _ => hs.block k hk hn, hs.snapn, hs.ownd, fun k hk => .inl hk, fun _ _ q => .inl q⟩
theorem StepS.refl (Φ : Phi) (σ : St) (w : World) (S : YS) : StepS Φ σ w S Φ σ w S := .of S (.refl Φ σ w)

theorem StepS.trans {Φ Φ1 Φ2 : Phi} {σ σ1 σ2 : St} {w w1 w2 : World} {S S1 S2 : YS} (h : StepS Φ σ w S Φ1 σ1 w1 S1) (k : StepS Φ1 σ1 w1 S1 Φ2 σ2 w2 S2) : StepS Φ σ w S Φ2 σ2 w2 S2 where
  le := h.le.trans k.le
  os := k.os.trans h.os
  tape := k.tape.trans h.tape
  output := k.output.trans h.output
  drawn := Nat.le_trans h.drawn k.drawn
  size := Nat.le_trans h.size k.size
  block := fun i hi hn hw => (k.block i (Nat.lt_of_lt_of_le hi h.size) (fun ho => (h.ownd i ho).elim hn (fun q => by omega)) (fun ho => (h.wr i ho).elim hw (fun q => by omega))).trans (h.block i hi hn hw)
  snapn := fun a v hv => by
    rcases k.snapn a v hv with q | q | q
    · exact h.snapn a v q
    · exact .inr (.inl (Nat.le_trans h.size q))
    · rcases h.ownd _ q with q | q
      · exact .inr (.inr q)
      · exact .inr (.inl q)
  ownd := fun R hR => by
    rcases k.ownd R hR with q | q
    · exact h.ownd R q
    · exact .inr (Nat.le_trans h.size q)
  wr := fun i hi => by
    rcases k.wr i hi with q | q
    · exact h.wr i q
    · exact .inr (Nat.le_trans h.size q)
  sn := fun a v hv => by
    rcases k.sn a v hv with q | q | q | q | q
    · exact h.sn a v q
    · rcases h.wr _ q with q | q
      · exact .inr (.inl q)
      · exact .inr (.inr (.inl q))
    · exact .inr (.inr (.inl (Nat.le_trans h.size q)))
    · rcases h.snapn a v q with q | q | q
      · exact .inr (.inr (.inr (.inl q)))
      · exact .inr (.inr (.inl q))
      · exact .inr (.inr (.inr (.inr q)))
    · rcases h.ownd _ q with q | q
      · exact .inr (.inr (.inr (.inr q)))
      · exact .inr (.inr (.inl q))

/-- What a call of yield does, of the other side's states: Y i where i elements were taken, and Yx where it wants no more. -/
def YSpec (P : Program) (l : Nat) (xs : List (List MV)) (Y : Nat → YS → Prop) (Yx : YS → Prop) (Φ0 : Phi) (σ0 : St) (n0 : Nat) : Prop :=
  ∀ (i : Nat) (x : List MV) (S : YS) (w : World) (Ψ : Phi) (vs : Array Value), xs[i]? = some x → Y i S → Agree S w → n0 ≤ w.heap.size → (∀ m, Ψ.obj m = none) →
    (∀ a v, Ψ.snap a = some v → w.cell? a = some v ∧ ¬ S.wr a.block ∧ (Φ0.snap a = some v ∨ n0 ≤ a.block ∨ Owned Φ0 σ0 a.block)) → Rels Ψ vs x →
    YieldAt Fence.wide 0 P l vs w fun e w' => ∃ b S', e = .returned (.bool b) ∧ S'.w = w' ∧ Agree S' w' ∧ w'.os = w.os ∧ w'.tape = w.tape ∧ w'.output = w.output ∧ w.drawn ≤ w'.drawn ∧ w.heap.size ≤ w'.heap.size ∧
      (∀ k, k < w.heap.size → ¬ S.wr k → w'.heap[k]? = w.heap[k]?) ∧ (∀ k, S'.wr k → S.wr k ∨ w.heap.size ≤ k) ∧
      (∀ a v, S'.sn a = some v → S.sn a = some v ∨ S.wr a.block ∨ w.heap.size ≤ a.block ∨ Ψ.snap a = some v) ∧ (if b = true then Y (i + 1) S' else Yx S')

/-- A function that hands on these elements, one by one, until it is told to stop. -/
def MSeq (P : Program) (g : FuncId) (ns : List MV) (σi : St) (xs : List (List MV)) : Prop :=
  Enters P g ∧ ∀ (l : Nat) (Y : Nat → YS → Prop) (Yx : YS → Prop) (Φ : Phi) (w : World) (S : YS) (vs : Array Value), YSpec P l xs Y Yx Φ σi w.heap.size → Inv Φ w σi → Apt Φ σi S w → Y 0 S → Rels Φ vs ns →
    Calls P g (#[.func (.yield l) #[] #[]] ++ vs) w fun e w' => ∃ v Φ' σ' S', e = .returned v ∧ Inv Φ' w' σ' ∧ Apt Φ' σ' S' w' ∧ StepS Φ σi w S Φ' σ' w' S' ∧ (Y xs.length S' ∨ Yx S')

/-! ### The rounds -/

def mputs (f : FR) : List Tmp → List MV → FR
  | p :: ps, x :: xs => mputs (mput f (some p) x) ps xs
  | _, _ => f

theorem mputs_d (ps : List Tmp) : ∀ (f : FR) (xs : List MV), (mputs f ps xs).d = f.d := by
  induction ps with
  | nil => intro f xs; rfl
  | cons p ps ih =>
    intro f xs
    cases xs with
    | nil => rfl
    | cons x xs => rw [mputs, ih, mput_d]

theorem frel_puts {Φ : Phi} : ∀ (ps : List Tmp) (xs : List MV) (vs : List Value) (tmps : Array Value) (f : FR), FRel Φ tmps f → vs.length = xs.length → (∀ (i : Nat) m, xs[i]? = some m → Rel Φ (vs.getD i undef) m) →
    FRel Φ ((ps.zip vs).foldl (fun t (p : Tmp × Value) => t.setIfInBounds p.1 p.2) tmps) (mputs f ps xs)
  | [], _, _, _, _, h, _, _ => by simpa [mputs] using h
  | _ :: _, [], [], _, _, h, _, _ => by simpa [mputs] using h
  | p :: ps, x :: xs, v :: vs, tmps, f, h, hl, hr => by
    simp only [List.zip_cons_cons, List.foldl_cons, mputs]
    refine frel_puts ps xs vs _ _ ?_ (by simpa using hl) (fun i m hm => by have := hr (i + 1) m (by simpa using hm); simpa using this)
    have := rels_put (a := { tmps := tmps, defers := [] }) h (some p) (hr 0 x rfl)
    simpa [Act.put] using this
  | _ :: _, [], _ :: _, _, _, _, hl, _ => by simp at hl
  | _ :: _, _ :: _, [], _, _, _, hl, _ => by simp at hl

theorem foldl_zip {β : Type} (ps : Array Tmp) (vs : Array Value) (g : β → Tmp × Value → β) (b : β) : (ps.zip vs).foldl g b = (ps.toList.zip vs.toList).foldl g b := by
  rw [← Array.foldl_toList, Array.toList_zip]
end Go.Proofs.Ytielcgplbnlgbaa
end

section
/- Loops over functions (2): the statement's rule. -/
set_option linter.unusedVariables false
set_option linter.unusedSimpArgs false
namespace Go.Proofs.Ytielcgplbnlgbaa

theorem Inv.grow {Φ : Phi} {w w' : World} {σ : St} (hi : Inv Φ w σ) (h1 : w'.os = w.os) (h2 : w'.tape = w.tape) (h3 : w'.output = w.output) (h4 : w.drawn ≤ w'.drawn) (h5 : w.heap.size ≤ w'.heap.size) (hb : ∀ k, k < w.heap.size → w'.heap[k]? = w.heap[k]?) :
    Inv Φ w' σ ∧ Step Φ σ w Φ σ w' :=
  ⟨⟨fun l o h => (hi.own l o h).mono (.refl Φ) fun p R hp hR => by
      obtain ⟨p', hp', hlt⟩ := (hi.own l o h).place
      rw [hp] at hp'; cases hp'
      exact hb R (hlt R hR), hi.inj, fun a v h => by
      rw [World.cell?_heap (hb _ (World.block_lt_of_cell? w a (hi.snap a v h)))]
      exact hi.snap a v h, hi.apart, hi.fresh⟩,
   ⟨.refl Φ, h1, h2, h3, h4, h5, fun k hk _ => hb k hk, fun _ _ h => .inl h, fun l o h => .inl ⟨o, h⟩, fun _ h => .inl h⟩⟩

/-- What a step says of names and snapshots alone. -/
structure CStep (Φ0 : Phi) (σ0 : St) (n0 : Nat) (Φ : Phi) (σ : St) : Prop where
  le : Φ0.le Φ
  snapn : ∀ a v, Φ.snap a = some v → Φ0.snap a = some v ∨ n0 ≤ a.block ∨ Owned Φ0 σ0 a.block
  locs : ∀ l o, σ l = some o → (∃ o', σ0 l = some o') ∨ Φ0.obj l = none
  ownd : ∀ R, Owned Φ σ R → Owned Φ0 σ0 R ∨ n0 ≤ R

theorem CStep.of {Φ Φ' : Phi} {σ σ' : St} {w w' : World} (h : Step Φ σ w Φ' σ' w') : CStep Φ σ w.heap.size Φ' σ' := ⟨h.le, h.snapn, h.locs, h.ownd⟩
theorem CStep.step {Φ0 Φ Φ' : Phi} {σ0 σ σ' : St} {n0 : Nat} {w w' : World} (h : CStep Φ0 σ0 n0 Φ σ) (hn : n0 ≤ w.heap.size) (k : Step Φ σ w Φ' σ' w') : CStep Φ0 σ0 n0 Φ' σ' where
  le := h.le.trans k.le
  snapn := fun a v hv => by
    rcases k.snapn a v hv with q | q | q
    · exact h.snapn a v q
    · exact .inr (.inl (Nat.le_trans hn q))
    · rcases h.ownd _ q with q | q
      · exact .inr (.inr q)
      · exact .inr (.inl q)
  locs := fun l o hl => by
    rcases k.locs l o hl with ⟨o', q⟩ | q
    · exact h.locs l o' q
    · right
      cases hl : Φ0.obj l with
      | none => rfl
      | some p => have := h.le.obj l p hl; simp [this] at q
  ownd := fun R hR => by
    rcases k.ownd R hR with q | q
    · exact h.ownd R q
    · exact .inr (Nat.le_trans hn q)

/-- The loop's own side, between two rounds. -/
structure CSt (Φ0 : Phi) (σ0 : St) (n0 : Nat) (tmps : Array Value) (fc : FR) (l : Nat) (st : Loop) (σ : St) (S : YS) (Φ : Phi) : Prop where
  inv : Inv Φ S.w σ
  frame : FRel Φ tmps fc
  step : CStep Φ0 σ0 n0 Φ σ
  wr : ∀ k, S.wr k ↔ (Owned Φ σ k ∨ k = l)
  sn : ∀ a, S.sn a = Φ.snap a
  lrec : S.w.heap[l]? = some (.loop st)
  size : n0 ≤ S.w.heap.size
  base : Φ.base ≤ S.w.heap.size

theorem Inv.loopNot {Φ : Phi} {w : World} {σ : St} (hi : Inv Φ w σ) {l : Nat} {st : Loop} (h : w.heap[l]? = some (.loop st)) : ¬ Owned Φ σ l :=
  hi.notOwned (fun c t fz e => by rw [h] at e; cases e) (fun c k e => by rw [h] at e; cases e)

theorem CSt.agree {Φ0 Φ : Phi} {σ0 σ : St} {n0 : Nat} {tmps : Array Value} {fc : FR} {l : Nat} {st : Loop} {S : YS} (h : CSt Φ0 σ0 n0 tmps fc l st σ S Φ) : Agree S S.w :=
  ⟨fun _ _ => rfl, fun k hk => by
    rcases (h.wr k).1 hk with q | rfl
    · obtain ⟨l', o, p, h1, h2, h3⟩ := q
      obtain ⟨p', e, hlt⟩ := (h.inv.own l' o h1).place
      rw [h2] at e; cases e
      exact hlt k h3
    · exact (Array.getElem?_eq_some_iff.1 h.lrec).1, (fun k hk x e => by
    rcases (h.wr k).1 hk with q | rfl
    · exact h.inv.mark e q
    · rw [h.lrec] at e; cases e), fun a v q => h.inv.snap a v (by rw [← h.sn a]; exact q), Nat.le_refl _, rfl, rfl, rfl, Nat.le_refl _⟩

/-- What the loop's side holds is there still, where the other side has worked; and more may be held fixed. -/
theorem CSt.at {Φ0 Φ : Phi} {σ0 σ : St} {n0 : Nat} {tmps : Array Value} {fc : FR} {l : Nat} {st : Loop} {S : YS} (h : CSt Φ0 σ0 n0 tmps fc l st σ S Φ) {w : World} (ha : Agree S w) {Ψ : Phi} (ho : ∀ m, Ψ.obj m = none)
    (hs : ∀ a v, Ψ.snap a = some v → w.cell? a = some v ∧ ¬ S.wr a.block ∧ (Φ0.snap a = some v ∨ n0 ≤ a.block ∨ Owned Φ0 σ0 a.block)) :
    ∃ Φ', Inv Φ' w σ ∧ FRel Φ' tmps fc ∧ CStep Φ0 σ0 n0 Φ' σ ∧ (∀ k, Owned Φ' σ k ↔ Owned Φ σ k) ∧ (∀ a v, Φ'.snap a = some v → S.sn a = some v ∨ Ψ.snap a = some v) ∧ (∀ v m, Rel Ψ v m → Rel Φ' v m) ∧ w.heap[l]? = some (.loop st) ∧ Φ'.base ≤ w.heap.size := by
  obtain ⟨Φ', hΦ⟩ : ∃ Φ' : Phi, Φ' = { Φ with snap := fun a => match Φ.snap a with | some v => some v | none => Ψ.snap a } := ⟨_, rfl⟩
  have hle : Φ.le Φ' := by subst hΦ; exact ⟨fun a v q => by simp [q], fun _ _ q => q, rfl⟩
  have hobj : Φ'.obj = Φ.obj := by subst hΦ; rfl
  have hb : Φ'.base = Φ.base := by subst hΦ; rfl
  have hsn : ∀ a v, Φ'.snap a = some v → Φ.snap a = some v ∨ Ψ.snap a = some v := fun a v q => by
    subst hΦ
    simp only at q
    cases e : Φ.snap a with
    | none => rw [e] at q; exact .inr q
    | some u => rw [e] at q; exact .inl q
  have hwr : ∀ k, Owned Φ σ k → w.heap[k]? = S.w.heap[k]? := fun k hk => ha.same k ((h.wr k).2 (.inl hk))
  have hown : ∀ k, Owned Φ' σ k ↔ Owned Φ σ k := fun k => by unfold Owned; rw [hobj]
  refine ⟨Φ', ⟨fun l' o hl => (h.inv.own l' o hl).mono hle fun p R h1 h2 => hwr R ⟨l', o, p, hl, h1, h2⟩, fun a b o o' p p' R h1 h2 h3 h4 => ?_, fun a v q => ?_, fun l' o p R a v h1 h2 h3 q => ?_, ?_⟩, h.frame.mono hle, ⟨h.step.le.trans hle, fun a v q => ?_, h.step.locs, fun R hR => h.step.ownd R ((hown R).1 hR)⟩, hown, fun a v q => ?_, fun v m r => ?_, ?_, ?_⟩
  · rw [hobj] at h3 h4; exact h.inv.inj a b o o' p p' R h1 h2 h3 h4
  · rcases hsn a v q with q | q
    · exact ha.sn a v (by rw [h.sn a]; exact q)
    · exact (hs a v q).1
  · rw [hobj] at h2
    rcases hsn a v q with q | q
    · exact h.inv.apart l' o p R a v h1 h2 h3 q
    · intro e
      exact (hs a v q).2.1 ((h.wr _).2 (.inl ⟨l', o, p, h1, h2, e ▸ h3⟩))
  · obtain ⟨n, hn⟩ := h.inv.fresh
    exact ⟨n, fun k hk => by rw [hobj]; exact hn k hk⟩
  · rcases hsn a v q with q | q
    · exact h.step.snapn a v q
    · exact (hs a v q).2.2
  · rcases hsn a v q with q | q
    · exact .inl (by rw [h.sn a]; exact q)
    · exact .inr q
  · refine r.mono2 (fun a u q => ?_) (fun l' p q => by rw [ho l'] at q; cases q)
    have h1 := (hs a u q).1
    subst hΦ
    simp only
    cases e : Φ.snap a with
    | none => exact q
    | some u' =>
      have h2 := ha.sn a u' (by rw [h.sn a]; exact e)
      rw [h1] at h2
      simpa using h2.symm
  · rw [ha.same l ((h.wr l).2 (.inr rfl))]; exact h.lrec
  · rw [hb]; exact Nat.le_trans h.base ha.size

def onlyN (K : FR → St → Prop) : MQ
  | .normal, f, σ => K f σ
  | _, _, _ => False

/-- How a round may be left. -/
def roundQ (Q : MQ) (fc : FR) (nxt : St → Prop) : MQ
  | .normal, f, σ => Gh f σ fun _ σ1 => nxt σ1
  | .ret, f, σ => Gh f σ fun _ σ1 => Q .ret fc σ1
  | .exit id, f, σ => Gh f σ fun _ σ1 => Q (.exit id) fc σ1
  | _, _, _ => False

/-- One round. -/
theorem round_at {P : Program} {Φ0 : Phi} {σ0 : St} {n0 : Nat} {tmps : Array Value} {fc : FR} {l : Nat} {fn : FuncId} {ps : Array Tmp} {assign body : Code} {Q : MQ} {nxt : St → Prop} {D : Nat} {σ : St} {S : YS} {Φ : Phi} {x : List MV} {w : World} {Ψ : Phi} {vs : Array Value}
    (rec : LoopState → Option Code → Loop) (hrec : rec = fun st pe => { state := st, pending := pe, fn, tmps, params := ps, assign, body, defers := D })
    (nda : noDefer assign = true) (ndb : noDefer body = true) (hx : x.length = ps.size)
    (hr : mwp P assign (mputs ⟨fc.n, fc.l, []⟩ ps.toList x) σ (onlyN fun f1 σ1 => mwp P body f1 σ1 (roundQ Q fc nxt)))
    (h : CSt Φ0 σ0 n0 tmps fc l (rec .ready none) σ S Φ) (ha : Agree S w) (hn0 : n0 ≤ w.heap.size) (ho : ∀ m, Ψ.obj m = none)
    (hs : ∀ a v, Ψ.snap a = some v → w.cell? a = some v ∧ ¬ S.wr a.block ∧ (Φ0.snap a = some v ∨ n0 ≤ a.block ∨ Owned Φ0 σ0 a.block)) (hv : Rels Ψ vs x) :
    YieldAt Fence.wide 0 P l vs w fun e w' => ∃ b S', e = .returned (.bool b) ∧ S'.w = w' ∧ Agree S' w' ∧ w'.os = w.os ∧ w'.tape = w.tape ∧ w'.output = w.output ∧ w.drawn ≤ w'.drawn ∧ w.heap.size ≤ w'.heap.size ∧
      (∀ k, k < w.heap.size → ¬ S.wr k → w'.heap[k]? = w.heap[k]?) ∧ (∀ k, S'.wr k → S.wr k ∨ w.heap.size ≤ k) ∧
      (∀ a v, S'.sn a = some v → S.sn a = some v ∨ S.wr a.block ∨ w.heap.size ≤ a.block ∨ Ψ.snap a = some v) ∧
      (if b = true then ∃ σ1 Φ1, nxt σ1 ∧ CSt Φ0 σ0 n0 tmps fc l (rec .ready none) σ1 S' Φ1 else ∃ c σ1 Φ1, ((c = .ret ∧ Q .ret fc σ1) ∨ ∃ id, c = .exit id ∧ Q (.exit id) fc σ1) ∧ CSt Φ0 σ0 n0 tmps fc l (rec .done (some c)) σ1 S' Φ1) := by
  obtain ⟨Φc, i1, fr1, c1, o1, s1, r1, l1, b1⟩ := h.at ha ho hs
  have hl : l < w.heap.size := (Array.getElem?_eq_some_iff.1 l1).1
  have hwl : S.wr l := (h.wr l).2 (.inr rfl)
  have hy := run_yield (P := P) (args := vs) l1 (by rw [hrec]; exact hv.1.trans hx)
  rw [hrec] at hy
  refine ⟨fn, _, assign, body, hy, roundIn_of_wpIn trivial ?_⟩
  have hfr : FRel Φc ((ps.zip vs).foldl (fun t (p : Tmp × Value) => t.setIfInBounds p.1 p.2) tmps) (mputs ⟨fc.n, fc.l, []⟩ ps.toList x) := by
    rw [foldl_zip]
    refine frel_puts ps.toList x vs.toList tmps ⟨fc.n, fc.l, []⟩ fr1 (by simpa using hv.1) fun i m hm => ?_
    have := r1 _ _ (hv.2 i m hm)
    simpa [Array.getD_eq_getD_getElem?, List.getD_eq_getElem?_getD] using this
  refine wpIn_mono (hr (Fence.wide.inRound l) (.inr ⟨l, rfl, nda⟩) Φc w { tmps := _, defers := [] } i1 hfr (by rw [mputs_d]; exact ⟨rfl, b1⟩)) ?_
  rintro e a₁ w₁ ⟨f2, σ2, Φ2, d2, fr2, i2, st2, q⟩
  cases e with
  | normal =>
    have hnl : ¬ Owned Φc σ l := i1.loopNot l1
    have hl2 : w₁.heap[l]? = some (.loop (rec .ready none)) := (st2.block l hl hnl).trans l1
    refine ⟨_, run_beginRound hl2 (by rw [hrec]), ?_⟩
    obtain ⟨w₂, hw2⟩ : ∃ w₂, w₁.putObj l (.loop { rec .ready none with state := .busy }) = w₂ := ⟨_, rfl⟩
    rw [hw2]
    have i2' : Inv Φ2 w₂ σ2 := by rw [← hw2]; exact i2.putObj _ hl2 (fun _ _ _ e => by cases e) (fun _ _ e => by cases e)
    have sz2 : w₂.heap.size = w₁.heap.size := by rw [← hw2, World.putObj_size]
    have ll2 : w₂.heap[l]? = some (.loop { rec .ready none with state := .busy }) := by rw [← hw2]; exact World.putObj_heap_same (Array.getElem?_eq_some_iff.1 hl2).1
    have d2' : DRel Φ2 w₂ a₁.defers f2.d := d2.mono (.refl _) (by omega) fun D' hD => by
      rw [← hw2, World.putObj_heap_other]
      · exact hD
      · rintro rfl; rw [hl2] at hD; cases hD
    have q : mwp P body f2 σ2 (roundQ Q fc nxt) := q
    refine wpIn_mono (q (Fence.wide.inRound l) (.inr ⟨l, rfl, ndb⟩) Φ2 w₂ a₁ i2' fr2 d2') ?_
    rintro e a₃ w₃ ⟨f3, σ3, Φ3, d3, fr3, i3, st3, q3⟩
    have hnl2 : ¬ Owned Φ2 σ2 l := i2'.loopNot ll2
    have hl3 : w₃.heap[l]? = some (.loop { rec .ready none with state := .busy }) := (st3.block l (Array.getElem?_eq_some_iff.1 ll2).1 hnl2).trans ll2
    -- what a round comes to, whichever way it is left
    have fin : ∀ (jump : Option Code) (st : Loop) (σ4 : St) (K : FR → St → Prop), st = rec (if jump.isNone then .ready else .done) jump → Gh f3 σ3 K →
        ∃ σ4 f4 Φ4, K f4 σ4 ∧ (Instr.endRound l jump).run P w₃ = .ok (.bool jump.isNone) (w₃.putObj l (.loop st)) ∧
          (∃ S' : YS, S'.w = w₃.putObj l (.loop st) ∧ Agree S' (w₃.putObj l (.loop st)) ∧ (w₃.putObj l (.loop st)).os = w.os ∧ (w₃.putObj l (.loop st)).tape = w.tape ∧ (w₃.putObj l (.loop st)).output = w.output ∧ w.drawn ≤ (w₃.putObj l (.loop st)).drawn ∧ w.heap.size ≤ (w₃.putObj l (.loop st)).heap.size ∧
            (∀ k, k < w.heap.size → ¬ S.wr k → (w₃.putObj l (.loop st)).heap[k]? = w.heap[k]?) ∧ (∀ k, S'.wr k → S.wr k ∨ w.heap.size ≤ k) ∧
            (∀ a v, S'.sn a = some v → S.sn a = some v ∨ S.wr a.block ∨ w.heap.size ≤ a.block ∨ Ψ.snap a = some v) ∧ CSt Φ0 σ0 n0 tmps fc l st σ4 S' Φ4) := by
      intro jump st _ K hst hg
      obtain ⟨f4, σ4, Φ4, -, k4, i4, fr4, st4⟩ := hg Φ3 w₃ a₃.tmps i3 fr3
      have hend := run_endRound (P := P) jump hl3
      have hst' : ({ ({ rec .ready none with state := .busy } : Loop) with state := if jump.isNone then .ready else .done, pending := jump } : Loop) = st := by rw [hst, hrec]
      rw [hst'] at hend
      refine ⟨σ4, f4, Φ4, k4, hend, ?_⟩
      obtain ⟨w₄, hw4⟩ : ∃ w₄, w₃.putObj l (.loop st) = w₄ := ⟨_, rfl⟩
      rw [hw4]
      have sz4 : w₄.heap.size = w₃.heap.size := by rw [← hw4, World.putObj_size]
      have i4' : Inv Φ4 w₄ σ4 := by rw [← hw4]; exact i4.putObj _ hl3 (fun _ _ _ e => by cases e) (fun _ _ e => by cases e)
      have cs : CStep Φ0 σ0 n0 Φ4 σ4 := ((c1.step hn0 st2).step (w := w₂) (by have := st2.size; omega) st3).step (w := w₃) (by have := st2.size; have := st3.size; omega) st4
      have hsz : w.heap.size ≤ w₃.heap.size := by have := st2.size; have := st3.size; omega
      have oth : ∀ k, k ≠ l → w₄.heap[k]? = w₃.heap[k]? := fun k hk => by rw [← hw4]; exact World.putObj_heap_other hk
      have oth2 : ∀ k, k ≠ l → w₂.heap[k]? = w₁.heap[k]? := fun k hk => by rw [← hw2]; exact World.putObj_heap_other hk
      have ow : ∀ k, Owned Φ4 σ4 k → S.wr k ∨ w.heap.size ≤ k := fun k hk => by
        rcases st4.ownd k hk with q | q
        · rcases st3.ownd k q with q | q
          · rcases st2.ownd k q with q | q
            · exact .inl ((h.wr k).2 (.inl ((o1 k).1 q)))
            · exact .inr q
          · have := st2.size; exact .inr (by omega)
        · exact .inr (by omega)
      have hcst : CSt Φ0 σ0 n0 tmps fc l st σ4 ⟨w₄, fun k => Owned Φ4 σ4 k ∨ k = l, Φ4.snap⟩ Φ4 :=
        ⟨i4', fr1.mono ((st2.le.trans st3.le).trans st4.le), cs, fun _ => Iff.rfl, fun _ => rfl, by simp only; rw [← hw4]; exact World.putObj_heap_same (Array.getElem?_eq_some_iff.1 hl3).1, by simp only; omega, by
          simp only
          rw [st4.le.base, st3.le.base, st2.le.base]; omega⟩
      refine ⟨⟨w₄, fun k => Owned Φ4 σ4 k ∨ k = l, Φ4.snap⟩, rfl, hcst.agree, ?_, ?_, ?_, ?_, by omega, fun k hk hw => ?_, fun k hk => ?_, fun a v hv => ?_, hcst⟩
      · have e1 : w₄.os = w₃.os := by rw [← hw4]; rfl
        have e2 : w₂.os = w₁.os := by rw [← hw2]; rfl
        rw [e1, st3.os, e2, st2.os]
      · have e1 : w₄.tape = w₃.tape := by rw [← hw4]; rfl
        have e2 : w₂.tape = w₁.tape := by rw [← hw2]; rfl
        rw [e1, st3.tape, e2, st2.tape]
      · have e1 : w₄.output = w₃.output := by rw [← hw4]; rfl
        have e2 : w₂.output = w₁.output := by rw [← hw2]; rfl
        rw [e1, st3.output, e2, st2.output]
      · have e1 : w₄.drawn = w₃.drawn := by rw [← hw4]; rfl
        have e2 : w₂.drawn = w₁.drawn := by rw [← hw2]; rfl
        have := st2.drawn
        have := st3.drawn
        omega
      · have hkl : k ≠ l := fun e => hw (e ▸ hwl)
        have hno : ¬ Owned Φc σ k := fun q => hw ((h.wr k).2 (.inl ((o1 k).1 q)))
        have hno2 : ¬ Owned Φ2 σ2 k := fun q => (st2.ownd k q).elim hno (fun q => by omega)
        rw [oth k hkl, st3.block k (by have := st2.size; omega) hno2, oth2 k hkl, st2.block k hk hno]
      · rcases hk with q | rfl
        · exact ow k q
        · exact .inl hwl
      · have hv : Φ4.snap a = some v := hv
        have ow3 : ∀ k, Owned Φ3 σ3 k → S.wr k ∨ w.heap.size ≤ k := fun k hk => by
          rcases st3.ownd k hk with q | q
          · rcases st2.ownd k q with q | q
            · exact .inl ((h.wr k).2 (.inl ((o1 k).1 q)))
            · exact .inr q
          · have := st2.size; exact .inr (by omega)
        have ow2 : ∀ k, Owned Φ2 σ2 k → S.wr k ∨ w.heap.size ≤ k := fun k hk => by
          rcases st2.ownd k hk with q | q
          · exact .inl ((h.wr k).2 (.inl ((o1 k).1 q)))
          · exact .inr q
        have tw : S.wr a.block ∨ w.heap.size ≤ a.block → S.sn a = some v ∨ S.wr a.block ∨ w.heap.size ≤ a.block ∨ Ψ.snap a = some v := fun q => q.elim (fun q => .inr (.inl q)) (fun q => .inr (.inr (.inl q)))
        rcases st4.snapn a v hv with q | q | q
        · rcases st3.snapn a v q with q | q | q
          · rcases st2.snapn a v q with q | q | q
            · rcases s1 a v q with q | q
              · exact .inl q
              · exact .inr (.inr (.inr q))
            · exact tw (.inr q)
            · exact tw (.inl ((h.wr _).2 (.inl ((o1 _).1 q))))
          · have := st2.size; exact tw (.inr (by omega))
          · exact tw (ow2 _ q)
        · exact tw (.inr (by omega))
        · exact tw (ow3 _ q)
    cases e with
    | normal =>
      obtain ⟨σ4, f4, Φ4, k4, hend, S', hS1, hS2, hS3, hS4, hS5, hS6, hS7, hS8, hS9, hS10, hS11⟩ := fin none (rec .ready none) σ3 _ rfl q3
      exact ⟨_, _, hend, true, S', rfl, hS1, hS2, hS3, hS4, hS5, hS6, hS7, hS8, hS9, hS10, σ4, Φ4, k4, hS11⟩
    | ret =>
      obtain ⟨σ4, f4, Φ4, k4, hend, S', hS1, hS2, hS3, hS4, hS5, hS6, hS7, hS8, hS9, hS10, hS11⟩ := fin (some .ret) (rec .done (some .ret)) σ3 _ rfl q3
      exact ⟨_, _, hend, false, S', rfl, hS1, hS2, hS3, hS4, hS5, hS6, hS7, hS8, hS9, hS10, .ret, σ4, Φ4, .inl ⟨rfl, k4⟩, hS11⟩
    | exit id =>
      obtain ⟨σ4, f4, Φ4, k4, hend, S', hS1, hS2, hS3, hS4, hS5, hS6, hS7, hS8, hS9, hS10, hS11⟩ := fin (some (.exit id)) (rec .done (some (.exit id))) σ3 _ rfl q3
      exact ⟨_, _, hend, false, S', rfl, hS1, hS2, hS3, hS4, hS5, hS6, hS7, hS8, hS9, hS10, .exit id, σ4, Φ4, .inr ⟨id, rfl, k4⟩, hS11⟩
    | goto l => exact q3.elim
    | panic c => exact q3.elim
    | outgrown => exact q3.elim
  | exit id => exact q.elim
  | goto l => exact q.elim
  | ret => exact q.elim
  | panic c => exact q.elim
  | outgrown => exact q.elim
end Go.Proofs.Ytielcgplbnlgbaa
end

section
/- Loops over functions (3): the statement's rule, whole. -/
set_option linter.unusedVariables false
set_option linter.unusedSimpArgs false
namespace Go.Proofs.Ytielcgplbnlgbaa

theorem St.minus_le (σ τ : St) : (σ.minus τ).le σ := fun l o h => (minus_some h).2

/-- A loop over a function: the elements are known; σi is what the function holds, the rest is the loop's. -/
theorem mwp_rangeFunc {P : Program} {g : Operand} {ps : Array Tmp} {assign body : Code} {f : FR} {σ : St} {Q : MQ} {gf : FuncId} {ns : List MV} (hg : mval f g = .fn (.func gf) [] ns) {σi : St} (hle : σi.le σ) {xs : List (List MV)}
    (hseq : MSeq P gf ns σi xs) (hx : ∀ x, x ∈ xs → x.length = ps.size) (nda : noDefer assign = true) (ndb : noDefer body = true) {α : Type} (fc : FR) (hd0 : fc.d = f.d) (S : Nat → α → St) (p : Nat → α → Prop)
    (h0 : Gh f (σ.minus σi) fun f1 σ1 => f1 = fc ∧ ∃ a, σ1 = S 0 a ∧ p 0 a)
    (round : ∀ i x a, xs[i]? = some x → p i a → mwp P assign (mputs ⟨fc.n, fc.l, []⟩ ps.toList x) (S i a) (onlyN fun f1 σ1 => mwp P body f1 σ1 (roundQ Q fc fun σ2 => ∃ b, σ2 = S (i + 1) b ∧ p (i + 1) b)))
    (done : ∀ a, p xs.length a → Q .normal fc (S xs.length a)) : mwp P (.rangeFunc g ps assign body) f σ Q := by
  intro F hF Φ w a hi hr hd
  have hF' : F = Fence.wide := by
    rcases hF with h | ⟨l, _, h⟩
    · exact h
    · cases h
  subst hF'
  obtain ⟨f1, σ1, Φ1, -, ⟨rfl, a0, rfl, p0⟩, i1, r1, st1⟩ := h0 Φ w a.tmps (hi.less (St.minus_le σ σi)) hr
  have hv := rel_mval hr g
  rw [hg] at hv
  obtain ⟨first, cap, he, hfirst, hcap⟩ := hv.inv_fn
  have hfe : first = #[] := by
    have := hfirst.1
    exact Array.eq_empty_of_size_eq_zero (by simpa using this)
  subst hfe
  obtain ⟨fnn, hfn, hbody, hname⟩ := hseq.1
  have eg : ∀ (args : Array Value) (w : World), (callFunc gf args).run P w = .ok (.enter gf args) w := fun args w => by
    simp only [callFunc, Sem.run_bind, run_program, hfn, hname, hbody, Result.andThen_ok, Bool.false_eq_true, if_false, Sem.run_pure]
  refine wpIn_rangeFunc fun fn _ => ?_
  obtain ⟨rec, hrec⟩ : ∃ rec : LoopState → Option Code → Loop, rec = fun st pe => { state := st, pending := pe, fn, tmps := a.tmps, params := ps, assign, body, defers := w.heap.size } := ⟨_, rfl⟩
  obtain ⟨W1, hW1⟩ : ∃ W1, (w.alloc (.deferred (some []))).alloc (.loop (rec .ready none)) = W1 := ⟨_, rfl⟩
  have sz1 : W1.heap.size = w.heap.size + 2 := by rw [← hW1, World.size_alloc, World.size_alloc]
  have old : ∀ k, k < w.heap.size → W1.heap[k]? = w.heap[k]? := fun k hk => by
    rw [← hW1]
    show ((w.heap.push _).push _)[k]? = _
    rw [Array.getElem?_push, if_neg (by simp; omega), Array.getElem?_push, if_neg (by omega)]
  have hL : W1.heap[w.heap.size + 1]? = some (.loop (rec .ready none)) := by
    rw [← hW1]; have := World.alloc_heap_new (w.alloc (.deferred (some []))) (.loop (rec .ready none)); rwa [World.size_alloc] at this
  have hD : W1.heap[w.heap.size]? = some (Obj.deferred (some [])) := by
    rw [← hW1]
    show ((w.heap.push _).push _)[w.heap.size]? = _
    rw [Array.getElem?_push, if_neg (by simp), Array.getElem?_push, if_pos rfl]
  have eos : W1.os = w.os := by rw [← hW1]; rfl
  have eta : W1.tape = w.tape := by rw [← hW1]; rfl
  have eou : W1.output = w.output := by rw [← hW1]; rfl
  have edr : W1.drawn = w.drawn := by rw [← hW1]; rfl
  have gr : ∀ {Φ : Phi} {σ : St}, Inv Φ w σ → Inv Φ W1 σ ∧ Step Φ σ w Φ σ W1 := fun h => h.grow eos eta eou (by omega) (by omega) old
  have own1 : ∀ k, Owned Φ1 (S 0 a0) k → Owned Φ (σ.minus σi) k := fun k hk => by
    rcases st1.ownd k hk with q | q
    · exact q
    · exfalso
      obtain ⟨l, o, p, h1, h2, h3⟩ := hk
      obtain ⟨p', e, hlt⟩ := (i1.own l o h1).place
      rw [h2] at e; cases e
      have := hlt k h3
      omega
  have ownσ : ∀ {τ : St}, τ.le σ → ∀ k, Owned Φ τ k → Owned Φ σ k := fun hτ k hk => hk.less hτ
  have apart2 : ∀ k, Owned Φ (σ.minus σi) k → ¬ Owned Φ σi k := fun k ⟨l, o, p, h1, h2, h3⟩ ⟨l', o', p', h4, h5, h6⟩ => by
    have e := hi.inj l l' o o' p p' k (minus_some h1).2 (hle l' o' h4) h2 h5 h3 h6
    subst e
    have := (minus_some h1).1
    rw [h4] at this; cases this
  have hb := hd.base
  obtain ⟨S0, hS0⟩ : ∃ S0 : YS, S0 = ⟨W1, fun k => Owned Φ1 (S 0 a0) k ∨ k = w.heap.size + 1, Φ1.snap⟩ := ⟨_, rfl⟩
  have c0 : CStep Φ σ w.heap.size Φ1 (S 0 a0) := ⟨st1.le, fun b v q => (st1.snapn b v q).imp_right (fun q => q.imp_right (ownσ (St.minus_le _ _) _)), fun l o q => by
    rcases st1.locs l o q with ⟨o', h⟩ | h
    · exact .inl ⟨o', (minus_some h).2⟩
    · exact .inr h, fun R hR => .inl (ownσ (St.minus_le _ _) _ (own1 R hR))⟩
  have cst0 : CSt Φ σ w.heap.size a.tmps f1 (w.heap.size + 1) (rec .ready none) (S 0 a0) S0 Φ1 := by
    subst hS0
    exact ⟨(gr i1).1, r1, c0, fun _ => Iff.rfl, fun _ => rfl, hL, by simp only; omega, by simp only; rw [st1.le.base]; omega⟩
  have apt0 : Apt Φ σi S0 W1 := by
    have hag := cst0.agree
    subst hS0
    refine ⟨hag, fun k hk => ?_, fun b v q' => ?_, fun b v q hk => ?_⟩
    · rcases hk with hk | rfl
      · exact apart2 k (own1 k hk)
      · exact (gr (hi.less hle)).1.loopNot hL
    · rintro ⟨l, o, p, h1, h2, h3⟩
      rcases st1.snapn b v q' with q | q | q
      · exact hi.apart l o p b.block b v (hle l o h1) h2 h3 q rfl
      · have hlt := World.block_lt_of_cell? w b (i1.snap b v q')
        omega
      · exact apart2 _ q ⟨l, o, p, h1, h2, h3⟩
    · have hbl := World.block_lt_of_cell? w b (hi.snap b v q)
      rcases hk with hk | hk
      · obtain ⟨l, o, p, h1, h2, h3⟩ := own1 _ hk
        exact hi.apart l o p b.block b v (minus_some h1).2 h2 h3 q rfl
      · omega
  refine ⟨w.heap.size + 1, [{ target := .collected w.heap.size, args := #[] }], W1, { target := .fn (.func gf) cap, args := #[.func (.yield (w.heap.size + 1)) #[] #[]] }, W1, gf,
    #[.func (.yield (w.heap.size + 1)) #[] #[]] ++ cap, W1, ?_, ?_, fun _ _ => trivial, ?_, (fun q => by cases q), ?_⟩
  · rw [← hW1, hrec]; exact run_enterLoop_outer _ _ _ _ _
  · simp only [resolve, he]
    simp [go_sem]
  · simp [invoke, go_sem, eg]
  · refine callsIn_wide.2 ((hseq.2 (w.heap.size + 1)
      (fun i Sx => ∃ b Φc, p i b ∧ CSt Φ σ w.heap.size a.tmps f1 (w.heap.size + 1) (rec .ready none) (S i b) Sx Φc)
      (fun Sx => ∃ c σc Φc, ((c = .ret ∧ Q .ret f1 σc) ∨ ∃ id, c = .exit id ∧ Q (.exit id) f1 σc) ∧ CSt Φ σ w.heap.size a.tmps f1 (w.heap.size + 1) (rec .done (some c)) σc Sx Φc)
      Φ W1 S0 cap ?_ (gr (hi.less hle)).1 apt0 ⟨a0, Φ1, p0, cst0⟩ hcap).mono ?_)
    · rintro i x Sx W Ψ vs hix ⟨b, Φc, pb, cs⟩ hag hsz ho hs hvs
      have hx' := hx x (List.mem_of_getElem? hix)
      have := round_at (P := P) rec hrec nda ndb hx' (round i x b hix pb) cs hag (by omega) ho (fun u v q => ⟨(hs u v q).1, (hs u v q).2.1, (hs u v q).2.2.imp_right fun q => q.imp (fun q => by omega) (ownσ hle _)⟩) hvs
      obtain ⟨fn', t', as', bd', e1, e2⟩ := this
      refine ⟨fn', t', as', bd', e1, e2.mono ?_⟩
      rintro e w' ⟨bb, S', q1, q2, q3, q4, q5, q6, q7, q8, q9, q10, q11, q12⟩
      refine ⟨bb, S', q1, q2, q3, q4, q5, q6, q7, q8, q9, q10, q11, ?_⟩
      cases bb with
      | true =>
        obtain ⟨σ2, Φ2, ⟨b', rfl, pb'⟩, cs'⟩ := q12
        exact ⟨b', Φ2, pb', cs'⟩
      | false => exact q12
    · rintro e w3 ⟨v, Φe, σe, S', rfl, ie, apt, stS, hy⟩
      -- the loop's side behind the iterator
      have fin : ∀ (st : Loop) (σc : St) (Φc : Phi), CSt Φ σ w.heap.size a.tmps f1 (w.heap.size + 1) st σc S' Φc → st.state ≠ .busy → ∃ w4, (Instr.endLoop (w.heap.size + 1)).run P w3 = .ok st.pending w4 ∧
          Inv Φc w4 σc ∧ Step Φ σ w Φc σc w4 ∧ DRel Φc w4 ({ target := .collected w.heap.size, args := #[] } :: a.defers) f1.d := by
        intro st σc Φc cs hbusy
        have hlr : w3.heap[w.heap.size + 1]? = some (.loop st) := (apt.agree.same _ ((cs.wr _).2 (.inr rfl))).trans cs.lrec
        obtain ⟨w4, hw4⟩ : ∃ w4, w3.putObj (w.heap.size + 1) (.loop { st with state := .exhausted }) = w4 := ⟨_, rfl⟩
        have hend := run_endLoop (P := P) hlr hbusy
        rw [hw4] at hend
        have sz4 : w4.heap.size = w3.heap.size := by rw [← hw4, World.putObj_size]
        have szz : w.heap.size + 2 ≤ w3.heap.size := by have := stS.size; omega
        have i3 : Inv Φc w3 σc := by
          have hwr : ∀ k, Owned Φc σc k → w3.heap[k]? = S'.w.heap[k]? := fun k hk => apt.agree.same k ((cs.wr k).2 (.inl hk))
          exact ⟨fun l' o hl => (cs.inv.own l' o hl).mono (.refl _) fun p R h1 h2 => hwr R ⟨l', o, p, hl, h1, h2⟩, cs.inv.inj, fun b u q => apt.agree.sn b u (by rw [cs.sn b]; exact q), cs.inv.apart, cs.inv.fresh⟩
        have i4 : Inv Φc w4 σc := by rw [← hw4]; exact i3.putObj _ hlr (fun _ _ _ e => by cases e) (fun _ _ e => by cases e)
        have blk : ∀ k, k < w.heap.size → ¬ Owned Φ σ k → w4.heap[k]? = w.heap[k]? := fun k hk hn => by
          rw [← hw4, World.putObj_heap_other (by omega), stS.block k (by omega) (fun q => hn (ownσ hle k q)) (fun q => ?_), old k hk]
          subst hS0
          rcases q with q | q
          · exact hn (ownσ (St.minus_le _ _) k (own1 k q))
          · omega
        have hmark : w4.heap[w.heap.size]? = some (Obj.deferred (some [])) := by
          rw [← hw4, World.putObj_heap_other (by omega), stS.block _ (by omega) ((gr (hi.less hle)).1.mark hD) (fun q => ?_), hD]
          subst hS0
          rcases q with q | q
          · exact (gr i1).1.mark hD q
          · omega
        have step4 : Step Φ σ w Φc σc w4 :=
          ⟨cs.step.le, by rw [← hw4]; exact stS.os.trans eos, by rw [← hw4]; exact stS.tape.trans eta, by rw [← hw4]; exact stS.output.trans eou, by
            have e : w4.drawn = w3.drawn := by rw [← hw4]; rfl
            have := stS.drawn; omega, by omega, blk, cs.step.snapn, cs.step.locs, cs.step.ownd⟩
        refine ⟨w4, hend, i4, step4, .inl ⟨w.heap.size, rfl, by rw [cs.step.le.base]; exact hb, hmark, fun y hy e => ?_, hd0 ▸ hd.step hi step4⟩⟩
        -- the mark is a new one
        have : ∀ (ds : List Deferred) (d : List (FuncId × List MV)), DRel Φ w ds d → ∀ y, y ∈ ds → y.target ≠ .collected w.heap.size := by
          intro ds
          induction ds with
          | nil => intro d _ y hy; cases hy
          | cons z ds ih =>
            intro d h y hy
            rcases h with ⟨D, k1, k2, k3, k4, k5⟩ | ⟨g, ms, r, cp, k1, k2, k3, k4⟩
            · rcases List.mem_cons.1 hy with rfl | hy
              · rw [k1]; intro e; cases e
                have := (Array.getElem?_eq_some_iff.1 k3).1
                omega
              · exact ih d k5 y hy
            · rcases List.mem_cons.1 hy with rfl | hy
              · rw [k2]; intro e; cases e
              · exact ih r k4 y hy
        exact this a.defers f.d hd y hy e
      rcases hy with ⟨b, Φc, pb, cs⟩ | ⟨c, σc, Φc, hc, cs⟩
      · obtain ⟨w4, hend, i4, s4, d4⟩ := fin _ _ _ cs (by rw [hrec]; simp)
        refine ⟨none, w4, by rw [hend, hrec], f1, _, Φc, d4, cs.frame, i4, s4, done b pb⟩
      · obtain ⟨w4, hend, i4, s4, d4⟩ := fin _ _ _ cs (by rw [hrec]; simp)
        refine ⟨some c, w4, by rw [hend, hrec], ?_⟩
        rcases hc with ⟨rfl, q⟩ | ⟨id, rfl, q⟩
        · exact wpIn_ret ⟨f1, _, Φc, d4, cs.frame, i4, s4, q⟩
        · exact wpIn_exit ⟨f1, _, Φc, d4, cs.frame, i4, s4, q⟩
end Go.Proofs.Ytielcgplbnlgbaa
end
