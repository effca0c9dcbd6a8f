/- Ghost steps for rows whose elements are rows: an element that was grown apart is frozen. -/
import Derived.Test.YtielcgplbnlgbaaMl14
set_option linter.unusedVariables false
set_option linter.unusedSimpArgs false
namespace Go.Proofs.Ytielcgplbnlgbaa

theorem Weak.view {σ : St} {m m' : MV} (h : Weak m m') : View σ m m' := by
  cases h with
  | same => exact .same _
  | junk => exact .junk _
  | nil e t => exact .nil e t
  | tight e xs => exact .tight e xs

/-- An element's one cell, grown apart, is frozen. -/
theorem Ghost.nest {n : Nat} {l l1 : List (Nat × MV)} {d : List (FuncId × List MV)} {σ : St} {q m : Nat} {t t1 : TypeId} {e1 : Nat} {pre post ys : List (List MV)} {n1 : Nat} (σ2 : St)
    (hm : σ m = some (.row t1 e1 ys)) (hq : σ q = some (.row t 1 (pre ++ [.vec e1 m 0 n1] :: post))) (hn : n1 = ys.length) (h2 : σ2.le σ) (h2m : σ2 m = none) (hne : q ≠ m)
    (hw : ∀ p, p ∈ l1 → Weak (lget l p.1) p.2) : Ghost ⟨n, l, d⟩ σ ⟨n, l1, d⟩ (σ2.set q (.row t 1 (pre ++ [.lst e1 ys false] :: post))) := by
  subst hn
  have hv : (St.none.set m (.row t1 e1 ys)) m = some (.row t1 e1 ys) := set_hit _ _ _
  refine Ghost.freezeIn (St.none.set m (.row t1 e1 ys)) (St.set_le (St.none_le _) hm) (fun k o1 hk => ?_) (fun k o hk => ?_) fun p hp => (hw p hp).view
  · by_cases h : k = q
    · subst h
      rw [set_hit] at hk
      cases hk
      refine ⟨_, hq, .inr ⟨t, 1, _, _, rfl, rfl, by simp, fun i x x1 hx hx1 => ?_⟩⟩
      rcases Nat.lt_trichotomy i pre.length with hi | hi | hi
      · rw [List.getElem?_append_left hi] at hx hx1
        rw [hx] at hx1; cases hx1
        exact ⟨rfl, fun j a b ha hb => by rw [ha] at hb; cases hb; exact .inl rfl⟩
      · subst hi
        rw [List.getElem?_append_right (Nat.le_refl _), Nat.sub_self] at hx hx1
        simp only [List.getElem?_cons_zero, Option.some.injEq] at hx hx1
        subst hx; subst hx1
        refine ⟨rfl, fun j a b ha hb => ?_⟩
        cases j with
        | zero =>
          simp only [List.getElem?_cons_zero, Option.some.injEq] at ha hb
          subst ha; subst hb
          exact .inr ⟨rfl, .vecAll hv rfl⟩
        | succ j => simp at ha
      · rw [List.getElem?_append_right (by omega)] at hx hx1
        obtain ⟨j, hj⟩ : ∃ j, i - pre.length = j + 1 := ⟨i - pre.length - 1, by omega⟩
        rw [hj, List.getElem?_cons_succ] at hx hx1
        rw [hx] at hx1; cases hx1
        exact ⟨rfl, fun j a b ha hb => by rw [ha] at hb; cases hb; exact .inl rfl⟩
    · rw [set_miss _ _ _ _ h] at hk
      exact ⟨o1, h2 k o1 hk, .inl rfl⟩
  · by_cases h : k = m
    · subst h
      by_cases hq' : k = q
      · exact absurd hq'.symm hne
      · rw [set_miss _ _ _ _ hq', h2m] at hk; cases hk
    · exact set_miss _ _ _ _ h ▸ rfl
/-- A call whose arguments are seen as more than they are: what they lie in is given away. -/
theorem MCalls.pre {P : Program} {g : FuncId} {ms ms' : List MV} {σ σ2 : St} {Q : MV → St → Prop} (hl : ms.length = ms'.length) (hg : Ghost ⟨ms.length, args0 0 ms, []⟩ σ ⟨ms.length, args0 0 ms', []⟩ σ2) (h : MCalls P g ms' σ2 Q) : MCalls P g ms σ Q := by
  refine ⟨h.1, fun Φ w vs hi hr => ?_⟩
  obtain ⟨-, hg⟩ := hg
  obtain ⟨Φ1, i1, r1, s1⟩ := hg Φ w vs hi ⟨hr.1, fun t => by
    simp only [FR.get, args0_get, Nat.sub_zero, Nat.zero_le, if_true]
    cases hm : ms[t]? with
    | none => exact .junk _
    | some m => exact hr.2 t m hm⟩
  refine (h.2 Φ1 w vs i1 ⟨hr.1.trans hl, fun i m hm => ?_⟩).mono ?_
  · have := r1.2 i
    simp only [FR.get, args0_get, Nat.sub_zero, Nat.zero_le, if_true, hm] at this
    exact this
  · rintro e w' ⟨v, mv, σ', Φ', rfl, q1, q2, q3, hq⟩
    exact ⟨v, mv, σ', Φ', rfl, q1, q2, s1.trans q3, hq⟩

theorem mem_args0 : ∀ {ms : List MV} {i : Nat} {p : Nat × MV}, p ∈ args0 i ms → ∃ j, p.1 = i + j ∧ ms[j]? = some p.2
  | [], _, _, h => by simp [args0] at h
  | m :: ms, i, p, h => by
    rw [args0, List.mem_cons] at h
    rcases h with rfl | h
    · exact ⟨0, rfl, rfl⟩
    · obtain ⟨j, h1, h2⟩ := mem_args0 h
      exact ⟨j + 1, by omega, by simpa using h2⟩

theorem use_give {P : Program} {g : FuncId} {ms : List MV} (ms' : List MV) {σ : St} (σv σ2 : St) {r : MV} {k : MV → St → Prop} (h : MCalls P g ms' St.none fun v _ => v = r) (hle : σv.le σ) (h2 : σ2.le σ) (hd : ∀ k o, σ2 k = some o → σv k = none)
    (hl : ms.length = ms'.length) (hv : ∀ (i : Nat) (m m' : MV), ms[i]? = some m → ms'[i]? = some m' → View σv m m') (hk : R (mlet r σ2 k)) : R (mcallE P g ms σ k) := by
  refine MCalls.pre hl (Ghost.freeze σv hle h2 hd fun p hp => ?_) (use_pure h hk)
  obtain ⟨j, h1, h3⟩ := mem_args0 hp
  rw [h1, args0_get]
  simp only [Nat.zero_add, Nat.zero_le, if_true, Nat.sub_zero]
  have hj := (List.getElem?_eq_some_iff.1 h3).1
  obtain ⟨m, hm⟩ : ∃ m, ms[j]? = some m := ⟨ms[j]'(by omega), by simp⟩
  rw [hm]
  exact hv j m _ hm h3

/-- One place is given away. -/
theorem use_give1 {P : Program} {g : FuncId} {ms : List MV} (ms' : List MV) {σ : St} (l : Nat) {o : MObj} {r : MV} {k : MV → St → Prop} (h : MCalls P g ms' St.none fun v _ => v = r) (ho : σ l = some o)
    (hl : ms.length = ms'.length) (hv : ∀ (i : Nat) (m m' : MV), ms[i]? = some m → ms'[i]? = some m' → View (St.none.set l o) m m') (hk : R (mlet r (σ.del l) k)) : R (mcallE P g ms σ k) :=
  use_give ms' (St.none.set l o) (σ.del l) h (St.set_le (St.none_le _) ho) (fun j q hq => by
    simp only [St.del] at hq
    split at hq
    · cases hq
    · exact hq) (fun j q hq => by
    simp only [St.del] at hq
    split at hq
    · cases hq
    · exact set_miss _ _ _ _ (by assumption)) hl hv hk

/-- Nothing is given away. -/
theorem use_weak {P : Program} {g : FuncId} {ms : List MV} (ms' : List MV) {σ : St} {r : MV} {k : MV → St → Prop} (h : MCalls P g ms' St.none fun v _ => v = r)
    (hl : ms.length = ms'.length) (hv : ∀ (i : Nat) (m m' : MV), ms[i]? = some m → ms'[i]? = some m' → View St.none m m') (hk : R (mlet r σ k)) : R (mcallE P g ms σ k) :=
  use_give ms' St.none σ h (St.none_le _) (St.le_refl _) (fun _ _ _ => rfl) hl hv hk

theorem views_one {σ : St} {a a' : MV} (h : View σ a a') : ∀ (i : Nat) (m m' : MV), [a][i]? = some m → [a'][i]? = some m' → View σ m m' := fun i m m' h1 h2 => by
  match i, h1, h2 with
  | 0, h1, h2 => simp only [List.getElem?_cons_zero, Option.some.injEq] at h1 h2; subst h1 h2; exact h
theorem views_two {σ : St} {a b a' b' : MV} (h : View σ a a') (k : View σ b b') : ∀ (i : Nat) (m m' : MV), [a, b][i]? = some m → [a', b'][i]? = some m' → View σ m m' := fun i m m' h1 h2 => by
  match i, h1, h2 with
  | 0, h1, h2 => simp only [List.getElem?_cons_zero, Option.some.injEq] at h1 h2; subst h1 h2; exact h
  | 1, h1, h2 => simp only [List.getElem?_cons_succ, List.getElem?_cons_zero, Option.some.injEq] at h1 h2; subst h1 h2; exact k
theorem views_three {σ : St} {a b c a' b' c' : MV} (h : View σ a a') (k : View σ b b') (k2 : View σ c c') : ∀ (i : Nat) (m m' : MV), [a, b, c][i]? = some m → [a', b', c'][i]? = some m' → View σ m m' := fun i m m' h1 h2 => by
  match i, h1, h2 with
  | 0, h1, h2 => simp only [List.getElem?_cons_zero, Option.some.injEq] at h1 h2; subst h1 h2; exact h
  | 1, h1, h2 => simp only [List.getElem?_cons_succ, List.getElem?_cons_zero, Option.some.injEq] at h1 h2; subst h1 h2; exact k
  | 2, h1, h2 => simp only [List.getElem?_cons_succ, List.getElem?_cons_zero, Option.some.injEq] at h1 h2; subst h1 h2; exact k2
end Go.Proofs.Ytielcgplbnlgbaa
