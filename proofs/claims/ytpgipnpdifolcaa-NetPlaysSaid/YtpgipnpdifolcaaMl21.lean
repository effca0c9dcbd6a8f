/- sync.Mutex, one goroutine, as the logic says it. -/
import Derived.Test.YtpgipnpdifolcaaMl20
import Derived.Conc.MuLone
set_option linter.unusedVariables false
set_option linter.unusedSimpArgs false
namespace Go.Proofs.Ytpgipnpdifolcaa
open Go.Conc.Locks

section
variable {P : Program} {L : MuLink}

/-- A cell of an element turns. -/
theorem cell_turn {Φ : Phi} {w : World} {σ : St} (hi : Inv Φ w σ) {l : Nat} {t : TypeId} {e : Nat} {c0 m : MV} {rest : List MV} (hs : σ l = some (.row t e [c0 :: rest])) (hm : m.isCell = true) {v : Value} (hv : Rel Φ v m) :
    ∃ p R v0, Φ.obj l = some p ∧ p.blk = some R ∧ w.cell? ⟨R, p.bo, none⟩ = some v0 ∧ Rel Φ v0 c0 ∧ w.frozen? ⟨R, p.bo, none⟩ = false ∧
      Inv Φ (w.setCell ⟨R, p.bo, none⟩ v) (σ.set l (.row t e [m :: rest])) ∧ Step Φ σ w Φ (σ.set l (.row t e [m :: rest])) (w.setCell ⟨R, p.bo, none⟩ v) := by
  obtain ⟨p, hp, hpe, q1, q2, q3, q4⟩ := hi.own l _ hs
  have he : (c0 :: rest).length = e := q3 0 _ rfl
  simp only [List.length_cons, List.length_nil] at q1 he
  cases hb : p.blk with
  | none => rw [hb] at q4; simp only at q4; omega
  | some R =>
    rw [hb] at q4
    obtain ⟨c, fz, k1, k2, k3, k4⟩ := q4
    have hlt : R < w.heap.size := (Array.getElem?_eq_some_iff.1 k1).1
    obtain ⟨hc0, v0, hv0, hr0⟩ := k4 0 _ 0 c0 rfl rfl
    simp only [Nat.zero_mul, Nat.add_zero] at hv0
    have hbo : p.bo < c.size := (Array.getElem?_eq_some_iff.1 hv0).1
    refine ⟨p, R, v0, hp, hb, by simpa [World.cell?, k1] using hv0, hr0, ?_, ?_⟩
    · obtain ⟨f1, f2⟩ := fz
      simp only [World.frozen?, k1, Bool.and_eq_false_iff, decide_eq_false_iff_not]
      simp only at k2
      rcases k2 with k2 | k2
      · by_cases h : f1 ≤ p.bo
        · right; omega
        · left; exact h
      · left; omega
    · rw [setCell_wset k1]
      refine hi.turn l hs _ hp hb wset_size (fun k hk => wset_other hk) rfl rfl rfl (Nat.le_refl _) ⟨p, hp, hpe, by simpa using q1, q2, fun i x hx => ?_, ?_⟩
      · match i with
        | 0 => simp only [List.getElem?_cons_zero, Option.some.injEq] at hx; subst hx; simpa using he
        | i + 1 => simp at hx
      · rw [hb]
        refine ⟨_, fz, wset_same hlt, by simpa [FzOk] using k2, by simpa using k3, fun i x j m' hx hm' => ?_⟩
        match i with
        | 0 =>
          simp only [List.getElem?_cons_zero, Option.some.injEq] at hx
          subst hx
          simp only [Nat.zero_mul, Nat.zero_add]
          match j with
          | 0 =>
            simp only [List.getElem?_cons_zero, Option.some.injEq] at hm'
            subst hm'
            exact ⟨hm, v, by simp [hbo], hv⟩
          | j + 1 =>
            have := k4 0 _ (j + 1) m' rfl (by simpa using hm')
            simp only [Nat.zero_mul, Nat.zero_add] at this
            rwa [Array.getElem?_setIfInBounds_ne (by omega)]
        | i + 1 => simp at hx

theorem lock_call (H : MuLib P L) {l : Nat} {t : TypeId} {e : Nat} {rest : List MV} : MCalls P L.lock [.ptr l 0 0] (St.none.set l (.row t e [.int .i32 0 :: rest])) fun v σ' => v = .tup [] ∧ σ' = St.none.set l (.row t e [.int .i32 1 :: rest]) := by
  refine ⟨⟨_, H.f_lock, rfl, rfl⟩, fun Φ w vs hi hr => ?_⟩
  have hs : (St.none.set l (.row t e [.int .i32 0 :: rest])) l = some (.row t e [.int .i32 0 :: rest]) := set_hit _ _ _
  obtain ⟨p, R, v0, hp, hb, hc, hr0, hz, i1, s1⟩ := cell_turn hi hs (m := .int .i32 1) rfl (.int .i32 1)
  have e0 := hr0.inv_int
  subst e0
  have hv : vs = #[.pointer (some ⟨R, p.bo, none⟩)] := by
    have h1 := hr.1
    have h2 := hr.2 0 _ rfl
    obtain ⟨p', R', hp', hb', he⟩ := h2.inv_ptr
    rw [hp] at hp'; cases hp'
    rw [hb] at hb'; cases hb'
    apply Array.ext
    · simpa using h1
    · intro i h3 h4
      have : i = 0 := by simp at h4; omega
      subst this
      simpa [Array.getD_eq_getD_getElem?, Array.getElem?_eq_getElem h3] using he
  subst hv
  refine (Go.MuLone.lock_free H ⟨R, p.bo, none⟩ w hc hz).mono ?_
  rintro e' w' ⟨rfl, rfl⟩
  refine ⟨_, .tup [], _, Φ, rfl, .tup rfl (by simp), i1, s1, rfl, ?_⟩
  rw [set_set]

theorem unlock_call (H : MuLib P L) {l : Nat} {t : TypeId} {e : Nat} {rest : List MV} : MCalls P L.unlock [.ptr l 0 0] (St.none.set l (.row t e [.int .i32 1 :: rest])) fun v σ' => v = .tup [] ∧ σ' = St.none.set l (.row t e [.int .i32 0 :: rest]) := by
  refine ⟨⟨_, H.f_unlock, rfl, rfl⟩, fun Φ w vs hi hr => ?_⟩
  have hs : (St.none.set l (.row t e [.int .i32 1 :: rest])) l = some (.row t e [.int .i32 1 :: rest]) := set_hit _ _ _
  obtain ⟨p, R, v0, hp, hb, hc, hr0, hz, i1, s1⟩ := cell_turn hi hs (m := .int .i32 0) rfl (.int .i32 0)
  have e0 := hr0.inv_int
  subst e0
  have hv : vs = #[.pointer (some ⟨R, p.bo, none⟩)] := by
    have h1 := hr.1
    have h2 := hr.2 0 _ rfl
    obtain ⟨p', R', hp', hb', he⟩ := h2.inv_ptr
    rw [hp] at hp'; cases hp'
    rw [hb] at hb'; cases hb'
    apply Array.ext
    · simpa using h1
    · intro i h3 h4
      have : i = 0 := by simp at h4; omega
      subst this
      simpa [Array.getD_eq_getD_getElem?, Array.getElem?_eq_getElem h3] using he
  subst hv
  refine (Go.MuLone.unlock_held H ⟨R, p.bo, none⟩ w hc hz).mono ?_
  rintro e' w' ⟨rfl, rfl⟩
  refine ⟨_, .tup [], _, Φ, rfl, .tup rfl (by simp), i1, s1, rfl, ?_⟩
  rw [set_set]

theorem unlock_defers (H : MuLib P L) {σ : St} {l : Nat} {t : TypeId} {e : Nat} {rest : List MV} (hs : σ l = some (.row t e [.int .i32 1 :: rest])) : MDefers P L.unlock [.ptr l 0 0] σ fun σ' => σ' = σ.set l (.row t e [.int .i32 0 :: rest]) := by
  refine ⟨_, H.f_unlock, rfl, rfl, fun Φ w vs hi hr => ?_⟩
  obtain ⟨p, R, v0, hp, hb, hc, hr0, hz, i1, s1⟩ := cell_turn hi hs (m := .int .i32 0) rfl (.int .i32 0)
  have e0 := hr0.inv_int
  subst e0
  have hv : vs = #[.pointer (some ⟨R, p.bo, none⟩)] := by
    have h1 := hr.1
    have h2 := hr.2 0 _ rfl
    obtain ⟨p', R', hp', hb', he⟩ := h2.inv_ptr
    rw [hp] at hp'; cases hp'
    rw [hb] at hb'; cases hb'
    apply Array.ext
    · simpa using h1
    · intro i h3 h4
      have : i = 0 := by simp at h4; omega
      subst this
      simpa [Array.getD_eq_getD_getElem?, Array.getElem?_eq_getElem h3] using he
  subst hv
  refine (Go.MuLone.unlock_deferred H ⟨R, p.bo, none⟩ .returning w hc hz).mono ?_
  rintro e' u' w' ⟨rfl, rfl, rfl⟩
  exact ⟨rfl, _, _, Φ, rfl, i1, s1, rfl⟩

/-- The lock is taken. -/
theorem use_lock (H : MuLib P L) {σ : St} {k : MV → St → Prop} {l : Nat} {t : TypeId} {e : Nat} {rest : List MV} (hs : σ l = some (.row t e [.int .i32 0 :: rest])) (hk : R (mlet (.tup []) (σ.set l (.row t e [.int .i32 1 :: rest])) k)) : R (mcallE P L.lock [.ptr l 0 0] σ k) := by
  refine use_frame (lock_call H) (St.set_le (St.none_le _) hs) ?_
  rintro v σ' ⟨rfl, rfl⟩ -
  rw [over_set, over_none, minus_set, minus_none, del_hit_set]
  exact hk

/-- The lock is given back at the function's end. -/
theorem end_unlock (H : MuLib P L) {σ : St} {K : St → Prop} {l : Nat} {t : TypeId} {e : Nat} {rest : List MV} (hs : σ l = some (.row t e [.int .i32 1 :: rest])) (hk : R (K (σ.set l (.row t e [.int .i32 0 :: rest])))) : R (MDefers P L.unlock [.ptr l 0 0] σ K) := by
  obtain ⟨fn, h1, h2, h3, h4⟩ := unlock_defers H hs
  refine ⟨fn, h1, h2, h3, fun Φ w vs hi hr => (h4 Φ w vs hi hr).mono ?_⟩
  rintro e' u' w' ⟨hu, v, σ', Φ', rfl, i1, s1, rfl⟩
  exact ⟨hu, v, _, Φ', rfl, i1, s1, hk⟩

/-- A lock's first cell turns from one number to another. -/
def mlockv (n n' : Int) (o : Option MObj) (l : Nat) (σ : St) (k : MV → St → Prop) : Prop := match o with
  | some (.row t e [.int .i32 a :: rest]) => owes (a = n) (mlet (.tup []) (σ.set l (.row t e [.int .i32 n' :: rest])) k)
  | _ => False
theorem mlockv_row {n n' a : Int} {l : Nat} {σ : St} {k : MV → St → Prop} {t : TypeId} {e : Nat} {rest : List MV} : R (mlockv n n' (some (.row t e [.int .i32 a :: rest])) l σ k) = R (owes (E (a = n)) (mlet (.tup []) (σ.set l (.row t e [.int .i32 n' :: rest])) k)) := rfl

theorem go_lock (H : MuLib P L) {σ : St} {k : MV → St → Prop} {l : Nat} (h : R (mlockv 0 1 (E (σ l)) l σ k)) : R (mcallE P L.lock [.ptr l 0 0] σ k) := by
  unfold R mlockv E at h
  split at h
  · rename_i t e a rest hs
    obtain ⟨rfl, hk⟩ := h
    exact use_lock H hs hk
  · exact h.elim
theorem go_unlock (H : MuLib P L) {σ : St} {k : MV → St → Prop} {l : Nat} (h : R (mlockv 1 0 (E (σ l)) l σ k)) : R (mcallE P L.unlock [.ptr l 0 0] σ k) := by
  unfold R mlockv E at h
  split at h
  · rename_i t e a rest hs
    obtain ⟨rfl, hk⟩ := h
    refine use_frame (unlock_call H) (St.set_le (St.none_le _) hs) ?_
    rintro v σ' ⟨rfl, rfl⟩ -
    rw [over_set, over_none, minus_set, minus_none, del_hit_set]
    exact hk
  · exact h.elim
theorem go_end (H : MuLib P L) {σ : St} {K : St → Prop} {l : Nat} (h : R (mlockv 1 0 (E (σ l)) l σ fun _ σ' => K σ')) : R (MDefers P L.unlock [.ptr l 0 0] σ K) := by
  unfold R mlockv E at h
  split at h
  · rename_i t e a rest hs
    obtain ⟨rfl, hk⟩ := h
    exact end_unlock H hs hk
  · exact h.elim

end
attribute [go_sem] mlockv_row
end Go.Proofs.Ytpgipnpdifolcaa
