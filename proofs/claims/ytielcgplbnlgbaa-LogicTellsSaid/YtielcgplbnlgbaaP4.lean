/- Words and tables of bits; what trees say of sets of atoms. No program in sight. -/
import Derived.Test.YtielcgplbnlgbaaP3
set_option linter.unusedVariables false
set_option linter.unusedSimpArgs false
namespace Go.Proofs.Ytielcgplbnlgbaa

/-- The word whose bits are told. -/
def wd (g : Nat → Bool) : Nat → Nat
  | 0 => 0
  | n + 1 => wd g n ||| (if g n = true then 2 ^ n else 0)

theorem wd_bit (g : Nat → Bool) : ∀ (n j : Nat), (wd g n).testBit j = (decide (j < n) && g j)
  | 0, j => by simp [wd]
  | n + 1, j => by
    rw [wd, Nat.testBit_or, wd_bit g n j]
    have e : (if g n = true then 2 ^ n else 0 : Nat).testBit j = (decide (j = n) && g n) := by
      cases g n
      · simp
      · simp only [if_true, Nat.testBit_two_pow, Bool.and_true]
        exact decide_eq_decide.mpr ⟨fun h => h.symm, fun h => h.symm⟩
    rw [e]
    by_cases h : j = n
    · subst h; simp
    · have : decide (j < n + 1) = decide (j < n) := decide_eq_decide.mpr ⟨fun _ => by omega, fun _ => by omega⟩
      rw [this]
      simp [h]

theorem wd_lt (g : Nat → Bool) : ∀ n, wd g n < 2 ^ n
  | 0 => by simp [wd]
  | n + 1 => by
    rw [wd]
    refine Nat.or_lt_two_pow (Nat.lt_of_lt_of_le (wd_lt g n) (Nat.pow_le_pow_right (by omega) (by omega))) ?_
    split
    · exact Nat.pow_lt_pow_right (by omega) (by omega)
    · exact Nat.two_pow_pos _

theorem wd_ext {g h : Nat → Bool} {n : Nat} (e : ∀ j, j < n → g j = h j) : wd g n = wd h n := by
  refine Nat.eq_of_testBit_eq fun j => ?_
  rw [wd_bit, wd_bit]
  by_cases hj : j < n
  · rw [e j hj]
  · simp [hj]

theorem wd_and (g h : Nat → Bool) (n : Nat) : wd g n &&& wd h n = wd (fun j => g j && h j) n := by
  refine Nat.eq_of_testBit_eq fun j => ?_
  rw [Nat.testBit_and, wd_bit, wd_bit, wd_bit]
  cases decide (j < n) <;> simp

theorem wd_or (g h : Nat → Bool) (n : Nat) : wd g n ||| wd h n = wd (fun j => g j || h j) n := by
  refine Nat.eq_of_testBit_eq fun j => ?_
  rw [Nat.testBit_or, wd_bit, wd_bit, wd_bit]
  cases decide (j < n) <;> simp

theorem wd_not (g : Nat → Bool) (n : Nat) : (2 ^ n - 1) ^^^ wd g n = wd (fun j => !g j) n := by
  refine Nat.eq_of_testBit_eq fun j => ?_
  rw [Nat.testBit_xor, wd_bit, wd_bit, Nat.testBit_two_pow_sub_one]
  cases decide (j < n) <;> simp

theorem wd_zero (n : Nat) : wd (fun _ => false) n = 0 := by
  refine Nat.eq_of_testBit_eq fun j => ?_
  rw [wd_bit]; simp

theorem wd_ones (n : Nat) : wd (fun _ => true) n = 2 ^ n - 1 := by
  refine Nat.eq_of_testBit_eq fun j => ?_
  rw [wd_bit, Nat.testBit_two_pow_sub_one]; simp

theorem wd_inj {g h : Nat → Bool} {n : Nat} (e : wd g n = wd h n) : ∀ j, j < n → g j = h j := fun j hj => by
  have := congrArg (·.testBit j) e
  simpa [wd_bit, hj] using this

theorem wd_iff0 {g : Nat → Bool} {n : Nat} : wd g n = 0 ↔ ∀ j, j < n → g j = false :=
  ⟨fun h => wd_inj (h.trans (wd_zero n).symm), fun h => (wd_ext h).trans (wd_zero n)⟩

/-- A table's word. -/
def tw (f : Nat → Bool) (i : Nat) : Nat := wd (fun j => f (64 * i + j)) 64
theorem tw_lt (f : Nat → Bool) (i : Nat) : tw f i < 18446744073709551616 := wd_lt _ 64
theorem tw_all {f g : Nat → Bool} : (∀ i, i < 16 → tw f i = tw g i) ↔ ∀ on, on < 1024 → f on = g on := by
  constructor
  · intro h on hon
    have := wd_inj (h (on / 64) (by omega)) (on % 64) (by omega)
    rwa [show 64 * (on / 64) + on % 64 = on by omega] at this
  · intro h i hi
    exact wd_ext fun j hj => h _ (by omega)
theorem tw_le {f g : Nat → Bool} : (∀ i, i < 16 → wd (fun j => f (64 * i + j) && !g (64 * i + j)) 64 = 0) ↔ ∀ on, on < 1024 → f on = true → g on = true := by
  constructor
  · intro h on hon hf
    have := wd_iff0.1 (h (on / 64) (by omega)) (on % 64) (by omega)
    rw [show 64 * (on / 64) + on % 64 = on by omega, hf] at this
    simpa using this
  · intro h i hi
    refine wd_iff0.2 fun j hj => ?_
    have := h (64 * i + j) (by omega)
    cases hf : f (64 * i + j)
    · rfl
    · rw [this hf]; rfl

theorem add_bit {i j p : Nat} (hj : j < 64) : (64 * i + j).testBit p = if p < 6 then j.testBit p else i.testBit (p - 6) := by
  rw [show 64 = 2 ^ 6 from rfl, Nat.testBit_two_pow_mul_add (j := p) (b := j) (i := 6) i hj]

/-- Place of an atom, sets of atoms. -/
def posK (l : List ND) (x : ND) : Nat := l.findIdx fun y => !decide (lessK y.key x.key)
def asg (l : List ND) (on : Nat) (x : ND) : Bool := decide (x ∈ l) && on.testBit (posK l x)

theorem posK_lt {l : List ND} (h : Rising (l.map ND.key)) {x : ND} (hx : x ∈ l) : posK l x < l.length :=
  List.findIdx_lt_length_of_exists ⟨x, hx, by simp [lessK_irrefl]⟩

theorem asg_mod {l : List ND} (h : Rising (l.map ND.key)) {n : Nat} (hn : l.length ≤ n) (on : Nat) (x : ND) : asg l (on % 2 ^ n) x = asg l on x := by
  unfold asg
  by_cases hx : x ∈ l
  · have := posK_lt h hx
    rw [Nat.testBit_mod_two_pow]
    simp [show posK l x < n by omega]
  · simp [hx]

theorem sem_mod {l : List ND} (h : Rising (l.map ND.key)) {n : Nat} (hn : l.length ≤ n) (on : Nat) (t : T) : t.sem (asg l (on % 2 ^ n)) = t.sem (asg l on) := by
  rw [show asg l (on % 2 ^ n) = asg l on from funext fun x => asg_mod h hn on x]

theorem all_mod {l : List ND} (h : Rising (l.map ND.key)) (hl : l.length ≤ 10) {p : Nat → Bool} (hp : ∀ on, p (on % 2 ^ l.length) = p on) : (∀ on, on < 1024 → p on = true) ↔ ∀ on, on < 2 ^ l.length → p on = true := by
  have h1 : 2 ^ l.length ≤ 1024 := by
    have := Nat.pow_le_pow_right (n := 2) (by omega) hl
    simpa using this
  constructor
  · exact fun k on hon => k on (by omega)
  · exact fun k on _ => by rw [← hp]; exact k _ (Nat.mod_lt _ (Nat.two_pow_pos _))

/-- What Implies tells of two trees that are fit, with not too many atoms. -/
def impB (l : List ND) (s t : T) : Bool := decide (∀ on, on < 2 ^ l.length → (!s.sem (asg l on) || t.sem (asg l on)) = true)
theorem impB_1024 {l : List ND} (h : Rising (l.map ND.key)) (hl : l.length ≤ 10) (s t : T) : impB l s t = (List.range 1024).all fun on => !s.sem (asg l on) || t.sem (asg l on) := by
  unfold impB
  rw [Bool.eq_iff_iff, decide_eq_true_eq, List.all_eq_true, ← all_mod h hl (p := fun on => !s.sem (asg l on) || t.sem (asg l on)) (fun on => by simp only [sem_mod h (Nat.le_refl _)])]
  simp only [List.mem_range]
end Go.Proofs.Ytielcgplbnlgbaa
