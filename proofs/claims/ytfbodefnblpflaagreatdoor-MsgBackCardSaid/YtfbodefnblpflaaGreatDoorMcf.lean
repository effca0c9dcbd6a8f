/- Parts of the proof, joined. Each part says what it proves, and under which conditions it does: those that its theorems name. -/
import Derived.Test.YtfbodefnblpflaaGreatDoorMcc
import Derived.RangeFuncIn
import Derived.RangeFuncSeq
set_option linter.unusedVariables false
set_option linter.unusedSimpArgs false
set_option maxHeartbeats 4000000
section
namespace Go.Proofs.YtfbodefnblpflaaGreatDoor
theorem Weak.view {σ : St} {m m' : MV} (h : Weak m m') : View σ m m' := by
 cases h with
 | same => exact .same _
 | junk => exact .junk _
 | nil e t => exact .nil e t
 | tight e xs => exact .tight e xs
theorem Ghost.nest {n : Nat} {l l1 : List (Nat × MV)} {d : List (FuncId × List MV)} {σ : St} {q m : Nat} {t t1 : TypeId} {e1 : Nat} {pre post ys : List (List MV)} {n1 : Nat} (σ2 : St)
  (hm : σ m = some (.row t1 e1 ys)) (hq : σ q = some (.row t 1 (pre ++ [.vec e1 m 0 n1] :: post))) (hn : n1 = ys.length) (h2 : σ2.le σ) (h2m : σ2 m = none) (hne : q ≠ m)
  (hw : ∀ p, p ∈ l1 → Weak (lget l p.1) p.2) : Ghost ⟨n, l, d⟩ σ ⟨n, l1, d⟩ (σ2.set q (.row t 1 (pre ++ [.lst e1 ys false] :: post))) := by
 subst hn
 have hv : (St.none.set m (.row t1 e1 ys)) m = some (.row t1 e1 ys) := set_hit _ _ _
 refine Ghost.freezeIn (St.none.set m (.row t1 e1 ys)) (St.set_le (St.none_le _) hm) (fun k o1 hk => ?_) (fun k o hk => ?_) fun p hp => (hw p hp).view
 ·by_cases h : k = q
  ·subst h
   rw [set_hit] at hk
   cases hk
   refine ⟨_, hq, .inr ⟨t, 1, _, _, rfl, rfl, by simp, fun i x x1 hx hx1 => ?_⟩⟩
   rcases Nat.lt_trichotomy i pre.length with hi | hi | hi
   ·rw [List.getElem?_append_left hi] at hx hx1
    rw [hx] at hx1; cases hx1
    exact ⟨rfl, fun j a b ha hb => by rw [ha] at hb; cases hb; exact .inl rfl⟩
   ·subst hi
    rw [List.getElem?_append_right (Nat.le_refl _), Nat.sub_self] at hx hx1
    simp only [List.getElem?_cons_zero, Option.some.injEq] at hx hx1
    subst hx; subst hx1
    refine ⟨rfl, fun j a b ha hb => ?_⟩
    cases j with
    | zero =>
     simp only [List.getElem?_cons_zero, Option.some.injEq] at ha hb
     subst ha; subst hb
     exact .inr ⟨rfl, .vecAll hv rfl⟩
    | succ j => simp at ha
   ·rw [List.getElem?_append_right (by omega)] at hx hx1
    obtain ⟨j, hj⟩ : ∃ j, i - pre.length = j + 1 := ⟨i - pre.length - 1, by omega⟩
    rw [hj, List.getElem?_cons_succ] at hx hx1
    rw [hx] at hx1; cases hx1
    exact ⟨rfl, fun j a b ha hb => by rw [ha] at hb; cases hb; exact .inl rfl⟩
  ·rw [set_miss _ _ _ _ h] at hk
   exact ⟨o1, h2 k o1 hk, .inl rfl⟩
 ·by_cases h : k = m
  ·subst h
   by_cases hq' : k = q
   ·exact absurd hq'.symm hne
   ·rw [set_miss _ _ _ _ hq', h2m] at hk; cases hk
  ·exact set_miss _ _ _ _ h ▸ rfl
theorem MCalls.pre {P : Program} {g : FuncId} {ms ms' : List MV} {σ σ2 : St} {Q : MV → St → Prop} (hl : ms.length = ms'.length) (hg : Ghost ⟨ms.length, args0 0 ms, []⟩ σ ⟨ms.length, args0 0 ms', []⟩ σ2) (h : MCalls P g ms' σ2 Q) : MCalls P g ms σ Q := by
 refine ⟨h.1, fun Φ w vs hi hr => ?_⟩
 obtain ⟨-, hg⟩ := hg
 obtain ⟨Φ1, i1, r1, s1⟩ := hg Φ w vs hi ⟨hr.1, fun t => by
  simp only [FR.get, args0_get, Nat.sub_zero, Nat.zero_le, if_true]
  cases hm : ms[t]? with
  | none => exact .junk _
  | some m => exact hr.2 t m hm⟩
 refine (h.2 Φ1 w vs i1 ⟨hr.1.trans hl, fun i m hm => ?_⟩).mono ?_
 ·have := r1.2 i
  simp only [FR.get, args0_get, Nat.sub_zero, Nat.zero_le, if_true, hm] at this
  exact this
 ·rintro e w' ⟨v, mv, σ', Φ', rfl, q1, q2, q3, hq⟩
  exact ⟨v, mv, σ', Φ', rfl, q1, q2, s1.trans q3, hq⟩
theorem mem_args0 : ∀ {ms : List MV} {i : Nat} {p : Nat × MV}, p ∈ args0 i ms → ∃ j, p.1 = i + j ∧ ms[j]? = some p.2
 | [], _, _, h => by simp [args0] at h
 | m :: ms, i, p, h => by
  rw [args0, List.mem_cons] at h
  rcases h with rfl | h
  ·exact ⟨0, rfl, rfl⟩
  ·obtain ⟨j, h1, h2⟩ := mem_args0 h
   exact ⟨j + 1, by omega, by simpa using h2⟩
theorem use_give {P : Program} {g : FuncId} {ms : List MV} (ms' : List MV) {σ : St} (σv σ2 : St) {r : MV} {k : MV → St → Prop} (h : MCalls P g ms' St.none fun v _ => v = r) (hle : σv.le σ) (h2 : σ2.le σ) (hd : ∀ k o, σ2 k = some o → σv k = none)
  (hl : ms.length = ms'.length) (hv : ∀ (i : Nat) (m m' : MV), ms[i]? = some m → ms'[i]? = some m' → View σv m m') (hk : R (mlet r σ2 k)) : R (mcallE P g ms σ k) := by
 refine MCalls.pre hl (Ghost.freeze σv hle h2 hd fun p hp => ?_) (use_pure h hk)
 obtain ⟨j, h1, h3⟩ := mem_args0 hp
 rw [h1, args0_get]
 simp only [Nat.zero_add, Nat.zero_le, if_true, Nat.sub_zero]
 have hj := (List.getElem?_eq_some_iff.1 h3).1
 obtain ⟨m, hm⟩ : ∃ m, ms[j]? = some m := ⟨ms[j]'(by omega), by simp⟩
 rw [hm]
 exact hv j m _ hm h3
theorem use_weak {P : Program} {g : FuncId} {ms : List MV} (ms' : List MV) {σ : St} {r : MV} {k : MV → St → Prop} (h : MCalls P g ms' St.none fun v _ => v = r)
  (hl : ms.length = ms'.length) (hv : ∀ (i : Nat) (m m' : MV), ms[i]? = some m → ms'[i]? = some m' → View St.none m m') (hk : R (mlet r σ k)) : R (mcallE P g ms σ k) :=
 use_give ms' St.none σ h (St.none_le _) (St.le_refl _) (fun _ _ _ => rfl) hl hv hk
theorem views_one {σ : St} {a a' : MV} (h : View σ a a') : ∀ (i : Nat) (m m' : MV), [a][i]? = some m → [a'][i]? = some m' → View σ m m' := fun i m m' h1 h2 => by
 match i, h1, h2 with
 | 0, h1, h2 => simp only [List.getElem?_cons_zero, Option.some.injEq] at h1 h2; subst h1 h2; exact h
theorem views_two {σ : St} {a b a' b' : MV} (h : View σ a a') (k : View σ b b') : ∀ (i : Nat) (m m' : MV), [a, b][i]? = some m → [a', b'][i]? = some m' → View σ m m' := fun i m m' h1 h2 => by
 match i, h1, h2 with
 | 0, h1, h2 => simp only [List.getElem?_cons_zero, Option.some.injEq] at h1 h2; subst h1 h2; exact h
 | 1, h1, h2 => simp only [List.getElem?_cons_succ, List.getElem?_cons_zero, Option.some.injEq] at h1 h2; subst h1 h2; exact k
end Go.Proofs.YtfbodefnblpflaaGreatDoor
end

section
namespace Go.Proofs.YtfbodefnblpflaaGreatDoor
def val : BL → Nat
 | [] => 0
 | c :: l => c.toNat % 128 + 128 * val l
theorem val_lt : ∀ l : BL, val l < 128 ^ l.length
 | [] => by simp [val]
 | c :: l => by
  have := val_lt l
  rw [val, List.length_cons, Nat.pow_succ]
  omega
theorem val_snoc : ∀ (l : BL) (c : UInt8), val (l ++ [c]) = val l + (c.toNat % 128) * 128 ^ l.length
 | [], c => by simp [val]
 | d :: l, c => by
  rw [List.cons_append, val, val_snoc l c, val, List.length_cons, Nat.pow_succ, Nat.mul_add]
  have : 128 * (c.toNat % 128 * 128 ^ l.length) = c.toNat % 128 * (128 ^ l.length * 128) := by
   rw [← Nat.mul_assoc, Nat.mul_comm 128, Nat.mul_assoc, Nat.mul_comm 128]
  omega
def goes (n : Nat) (l : BL) : Prop := n ≤ l.length ∧ ∀ i, i < n → 128 ≤ (l.getD i 0).toNat
theorem nxF_goes : ∀ (n k : Nat) (f : Bool) (l : BL), n ≤ k → goes n l → nxF k f l =
  if (nxF (k - n) (if n = 0 then f else false) (l.drop n)).1 = 0 then (0, val (l.take n) + 128 ^ n * (nxF (k - n) (if n = 0 then f else false) (l.drop n)).2.1, (nxF (k - n) (if n = 0 then f else false) (l.drop n)).2.2 + n)
  else ((nxF (k - n) (if n = 0 then f else false) (l.drop n)).1, 0, 0)
 | 0, k, f, l, _, _ => by
  simp only [if_true, Nat.sub_zero, List.drop_zero, List.take_zero, val, Nat.pow_zero, Nat.one_mul, Nat.zero_add, Nat.add_zero]
  have := nxF_zero k f l
  split
  ·rename_i h; rw [← h]
  ·rename_i h; exact this h
 | n + 1, k, f, [], _, h => by have := h.1; simp at this
 | n + 1, 0, f, c :: l, h, _ => by omega
 | n + 1, k + 1, f, c :: l, hk, h => by
  have hc : 128 ≤ c.toNat := h.2 0 (Nat.succ_pos _)
  have hg : goes n l := ⟨by have := h.1; simp at this; omega, fun i hi => by have := h.2 (i + 1) (by omega); simpa using this⟩
  have ih := nxF_goes n k false l (by omega) hg
  have e : (if n = 0 then false else false) = false := by split <;> rfl
  rw [e] at ih
  rw [nxF, if_pos hc]
  simp only [Nat.add_sub_add_right, Nat.succ_ne_zero, if_false, List.drop_succ_cons, List.take_succ_cons, val]
  rw [ih]
  by_cases h0 : (nxF (k - n) false (List.drop n l)).1 = 0
  ·rw [if_pos h0, if_pos rfl, if_pos h0]
   simp only [Prod.mk.injEq, true_and]
   refine ⟨?_, by omega⟩
   rw [Nat.mul_add, Nat.pow_succ, ← Nat.mul_assoc, Nat.mul_comm 128 (128 ^ n)]
   omega
  ·rw [if_neg h0, if_neg h0, if_neg h0]
where
 nxF_zero : ∀ (k : Nat) (f : Bool) (l : BL), (nxF k f l).1 ≠ 0 → nxF k f l = ((nxF k f l).1, 0, 0)
 | 0, _, _, _ => rfl
 | _ + 1, _, [], _ => rfl
 | k + 1, f, c :: l, h => by
  simp only [nxF] at h ⊢
  by_cases h1 : 128 ≤ c.toNat
  ·simp only [if_pos h1] at h ⊢
   by_cases h2 : (nxF k false l).1 = 0
   ·rw [if_pos h2] at h; exact absurd rfl h
   ·rw [if_neg h2]
  ·simp only [if_neg h1] at h ⊢
   by_cases h2 : c.toNat = 0 ∧ f = false
   ·rw [if_pos h2]
   ·rw [if_neg h2] at h; exact absurd rfl h
theorem goes_six {l : BL} (h : goes 6 l) (most : Int) : nx l most = (0, 0, 3) := by
 have e := nxF_goes 6 6 true l (Nat.le_refl _) h
 have e1 : nxF (6 - 6) (if 6 = 0 then true else false) (List.drop 6 l) = (3, 0, 0) := rfl
 rw [e1] at e
 rw [nx, e]; rfl
theorem goes_end {l : BL} {n : Nat} (h : goes n l) (hn : n < 6) (hl : n = l.length) (most : Int) : nx l most = (0, 0, 2) := by
 have e := nxF_goes n 6 true l (by omega) h
 have e1 : nxF (6 - n) (if n = 0 then true else false) (List.drop n l) = (2, 0, 0) := by
  rw [List.drop_eq_nil_of_le (by omega), show 6 - n = (5 - n) + 1 by omega]; rfl
 rw [e1] at e
 rw [nx, e]; rfl
theorem goes_stop {l : BL} {n : Nat} (h : goes n l) (hn : n < 6) (hl : n < l.length) (hc : (l.getD n 0).toNat < 128) (most : Int) :
  nx l most = if (l.getD n 0).toNat = 0 ∧ 0 < n then (0, 0, 3) else if (val (l.take (n + 1)) : Int) > big ∨ (val (l.take (n + 1)) : Int) > most then (0, 0, 4) else ((val (l.take (n + 1)) : Int), n + 1, 0) := by
 have e := nxF_goes n 6 true l (by omega) h
 have hd : l.drop n = l.getD n 0 :: l.drop (n + 1) := by rw [List.drop_eq_getElem_cons hl]; simp [List.getD, hl]
 have ht : l.take (n + 1) = l.take n ++ [l.getD n 0] := by rw [List.take_succ_eq_append_getElem hl]; simp [List.getD, hl]
 have hv : val (l.take (n + 1)) = val (l.take n) + 128 ^ n * (l.getD n 0).toNat := by
  rw [ht, val_snoc, List.length_take, Nat.min_eq_left (by omega), Nat.mod_eq_of_lt hc, Nat.mul_comm]
 have e1 : nxF (6 - n) (if n = 0 then true else false) (List.drop n l) = if (l.getD n 0).toNat = 0 ∧ 0 < n then (3, 0, 0) else (0, (l.getD n 0).toNat, 1) := by
  rw [hd, show 6 - n = (5 - n) + 1 by omega, nxF, if_neg (by omega)]
  by_cases h0 : n = 0
  ·subst h0; simp
  ·rw [if_neg h0]
   by_cases hz : (l.getD n 0).toNat = 0
   ·rw [if_pos ⟨hz, rfl⟩, if_pos ⟨hz, by omega⟩]
   ·rw [if_neg (fun hh => hz hh.1), if_neg (fun hh => hz hh.1)]
 rw [e1] at e
 by_cases hz : (l.getD n 0).toNat = 0 ∧ 0 < n
 ·rw [if_pos hz] at e ⊢
  rw [nx, e]; rfl
 ·rw [if_neg hz] at e ⊢
  rw [nx, e, hv, Nat.add_comm 1 n]
  simp
theorem goes_zero (l : BL) : goes 0 l := ⟨Nat.zero_le _, fun i h => absurd h (Nat.not_lt_zero _)⟩
theorem goes_succ {l : BL} {n : Nat} (h : goes n l) (hl : n < l.length) (hc : 128 ≤ (l.getD n 0).toNat) : goes (n + 1) l :=
 ⟨hl, fun i hi => by
  rcases Nat.lt_or_ge i n with h1 | h1
  ·exact h.2 i h1
  ·have : i = n := by omega
   subst this; exact hc⟩
end Go.Proofs.YtfbodefnblpflaaGreatDoor
end

section
namespace Go.Proofs.YtfbodefnblpflaaGreatDoor
structure YS where
 w : World
 wr : Nat → Prop
 sn : Addr → Option Value
structure Agree (S : YS) (w : World) : Prop where
 same : ∀ k, S.wr k → w.heap[k]? = S.w.heap[k]?
 lt : ∀ k, S.wr k → k < S.w.heap.size
 nomark : ∀ k, S.wr k → ∀ x, S.w.heap[k]? ≠ some (Obj.deferred x)
 sn : ∀ a v, S.sn a = some v → w.cell? a = some v
 size : S.w.heap.size ≤ w.heap.size
 os : w.os = S.w.os
 tape : w.tape = S.w.tape
 output : w.output = S.w.output
 drawn : S.w.drawn ≤ w.drawn
structure Apt (Φ : Phi) (σ : St) (S : YS) (w : World) : Prop where
 agree : Agree S w
 own : ∀ k, S.wr k → ¬ Owned Φ σ k
 snown : ∀ a v, S.sn a = some v → ¬ Owned Φ σ a.block
 snap : ∀ a v, Φ.snap a = some v → ¬ S.wr a.block
theorem Apt.step {Φ Φ' : Phi} {σ σ' : St} {S : YS} {w w' : World} (h : Apt Φ σ S w) (hs : Step Φ σ w Φ' σ' w') : Apt Φ' σ' S w' := by
 have hlt : ∀ k, S.wr k → k < w.heap.size := fun k hk => Nat.lt_of_lt_of_le (h.agree.lt k hk) h.agree.size
 have hsl : ∀ a v, S.sn a = some v → a.block < w.heap.size := fun a v q => World.block_lt_of_cell? w a (h.agree.sn a v q)
 refine ⟨⟨fun k hk => (hs.block k (hlt k hk) (h.own k hk)).trans (h.agree.same k hk), h.agree.lt, h.agree.nomark, fun a v q => ?_, Nat.le_trans h.agree.size hs.size, hs.os.trans h.agree.os, hs.tape.trans h.agree.tape, hs.output.trans h.agree.output, Nat.le_trans h.agree.drawn hs.drawn⟩, fun k hk ho => ?_, fun a v q ho => ?_, fun a v hv hk => ?_⟩
 ·rw [World.cell?_heap (hs.block _ (hsl a v q) (h.snown a v q))]
  exact h.agree.sn a v q
 ·rcases hs.ownd k ho with q | q
  ·exact h.own k hk q
  ·have := hlt k hk; omega
 ·rcases hs.ownd _ ho with p | p
  ·exact h.snown a v q p
  ·have := hsl a v q; omega
 ·rcases hs.snapn a v hv with q | q | q
  ·exact h.snap a v q hk
  ·have := hlt _ hk; omega
  ·exact h.own _ hk q
structure StepS (Φ : Phi) (σ : St) (w : World) (S : YS) (Φ' : Phi) (σ' : St) (w' : World) (S' : YS) : Prop where
 le : Φ.le Φ'
 os : w'.os = w.os
 tape : w'.tape = w.tape
 output : w'.output = w.output
 drawn : w.drawn ≤ w'.drawn
 size : w.heap.size ≤ w'.heap.size
 block : ∀ k, k < w.heap.size → ¬ Owned Φ σ k → ¬ S.wr k → w'.heap[k]? = w.heap[k]?
 snapn : ∀ a v, Φ'.snap a = some v → Φ.snap a = some v ∨ w.heap.size ≤ a.block ∨ Owned Φ σ a.block
 ownd : ∀ R, Owned Φ' σ' R → Owned Φ σ R ∨ w.heap.size ≤ R
 wr : ∀ k, S'.wr k → S.wr k ∨ w.heap.size ≤ k
 sn : ∀ a v, S'.sn a = some v → S.sn a = some v ∨ S.wr a.block ∨ w.heap.size ≤ a.block ∨ Φ.snap a = some v ∨ Owned Φ σ a.block
theorem StepS.of {Φ Φ' : Phi} {σ σ' : St} {w w' : World} (S : YS) (hs : Step Φ σ w Φ' σ' w') : StepS Φ σ w S Φ' σ' w' S :=
 ⟨hs.le, hs.os, hs.tape, hs.output, hs.drawn, hs.size, fun k hk hn _ => hs.block k hk hn, hs.snapn, hs.ownd, fun k hk => .inl hk, fun _ _ q => .inl q⟩
theorem StepS.refl (Φ : Phi) (σ : St) (w : World) (S : YS) : StepS Φ σ w S Φ σ w S := .of S (.refl Φ σ w)
theorem StepS.trans {Φ Φ1 Φ2 : Phi} {σ σ1 σ2 : St} {w w1 w2 : World} {S S1 S2 : YS} (h : StepS Φ σ w S Φ1 σ1 w1 S1) (k : StepS Φ1 σ1 w1 S1 Φ2 σ2 w2 S2) : StepS Φ σ w S Φ2 σ2 w2 S2 where
 le := h.le.trans k.le
 os := k.os.trans h.os
 tape := k.tape.trans h.tape
 output := k.output.trans h.output
 drawn := Nat.le_trans h.drawn k.drawn
 size := Nat.le_trans h.size k.size
 block := fun i hi hn hw => (k.block i (Nat.lt_of_lt_of_le hi h.size) (fun ho => (h.ownd i ho).elim hn (fun q => by omega)) (fun ho => (h.wr i ho).elim hw (fun q => by omega))).trans (h.block i hi hn hw)
 snapn := fun a v hv => by
  rcases k.snapn a v hv with q | q | q
  ·exact h.snapn a v q
  ·exact .inr (.inl (Nat.le_trans h.size q))
  ·rcases h.ownd _ q with q | q
   ·exact .inr (.inr q)
   ·exact .inr (.inl q)
 ownd := fun R hR => by
  rcases k.ownd R hR with q | q
  ·exact h.ownd R q
  ·exact .inr (Nat.le_trans h.size q)
 wr := fun i hi => by
  rcases k.wr i hi with q | q
  ·exact h.wr i q
  ·exact .inr (Nat.le_trans h.size q)
 sn := fun a v hv => by
  rcases k.sn a v hv with q | q | q | q | q
  ·exact h.sn a v q
  ·rcases h.wr _ q with q | q
   ·exact .inr (.inl q)
   ·exact .inr (.inr (.inl q))
  ·exact .inr (.inr (.inl (Nat.le_trans h.size q)))
  ·rcases h.snapn a v q with q | q | q
   ·exact .inr (.inr (.inr (.inl q)))
   ·exact .inr (.inr (.inl q))
   ·exact .inr (.inr (.inr (.inr q)))
  ·rcases h.ownd _ q with q | q
   ·exact .inr (.inr (.inr (.inr q)))
   ·exact .inr (.inr (.inl q))
def YSpec (P : Program) (l : Nat) (xs : List (List MV)) (Y : Nat → YS → Prop) (Yx : YS → Prop) (Φ0 : Phi) (σ0 : St) (n0 : Nat) : Prop :=
 ∀ (i : Nat) (x : List MV) (S : YS) (w : World) (Ψ : Phi) (vs : Array Value), xs[i]? = some x → Y i S → Agree S w → n0 ≤ w.heap.size → (∀ m, Ψ.obj m = none) →
  (∀ a v, Ψ.snap a = some v → w.cell? a = some v ∧ ¬ S.wr a.block ∧ (Φ0.snap a = some v ∨ n0 ≤ a.block ∨ Owned Φ0 σ0 a.block)) → Rels Ψ vs x →
  YieldAt Fence.wide 0 P l vs w fun e w' => ∃ b S', e = .returned (.bool b) ∧ S'.w = w' ∧ Agree S' w' ∧ w'.os = w.os ∧ w'.tape = w.tape ∧ w'.output = w.output ∧ w.drawn ≤ w'.drawn ∧ w.heap.size ≤ w'.heap.size ∧
   (∀ k, k < w.heap.size → ¬ S.wr k → w'.heap[k]? = w.heap[k]?) ∧ (∀ k, S'.wr k → S.wr k ∨ w.heap.size ≤ k) ∧
   (∀ a v, S'.sn a = some v → S.sn a = some v ∨ S.wr a.block ∨ w.heap.size ≤ a.block ∨ Ψ.snap a = some v) ∧ (if b = true then Y (i + 1) S' else Yx S')
def MSeq (P : Program) (g : FuncId) (ns : List MV) (σi : St) (xs : List (List MV)) : Prop :=
 Enters P g ∧ ∀ (l : Nat) (Y : Nat → YS → Prop) (Yx : YS → Prop) (Φ : Phi) (w : World) (S : YS) (vs : Array Value), YSpec P l xs Y Yx Φ σi w.heap.size → Inv Φ w σi → Apt Φ σi S w → Y 0 S → Rels Φ vs ns →
  Calls P g (#[.func (.yield l) #[] #[]] ++ vs) w fun e w' => ∃ v Φ' σ' S', e = .returned v ∧ Inv Φ' w' σ' ∧ Apt Φ' σ' S' w' ∧ StepS Φ σi w S Φ' σ' w' S' ∧ (Y xs.length S' ∨ Yx S')
def mputs (f : FR) : List Tmp → List MV → FR
 | p :: ps, x :: xs => mputs (mput f (some p) x) ps xs
 | _, _ => f
theorem mputs_d (ps : List Tmp) : ∀ (f : FR) (xs : List MV), (mputs f ps xs).d = f.d := by
 induction ps with
 | nil => intro f xs; rfl
 | cons p ps ih =>
  intro f xs
  cases xs with
  | nil => rfl
  | cons x xs => rw [mputs, ih, mput_d]
theorem frel_puts {Φ : Phi} : ∀ (ps : List Tmp) (xs : List MV) (vs : List Value) (tmps : Array Value) (f : FR), FRel Φ tmps f → vs.length = xs.length → (∀ (i : Nat) m, xs[i]? = some m → Rel Φ (vs.getD i undef) m) →
  FRel Φ ((ps.zip vs).foldl (fun t (p : Tmp × Value) => t.setIfInBounds p.1 p.2) tmps) (mputs f ps xs)
 | [], _, _, _, _, h, _, _ => by simpa [mputs] using h
 | _ :: _, [], [], _, _, h, _, _ => by simpa [mputs] using h
 | p :: ps, x :: xs, v :: vs, tmps, f, h, hl, hr => by
  simp only [List.zip_cons_cons, List.foldl_cons, mputs]
  refine frel_puts ps xs vs _ _ ?_ (by simpa using hl) (fun i m hm => by have := hr (i + 1) m (by simpa using hm); simpa using this)
  have := rels_put (a := { tmps := tmps, defers := [] }) h (some p) (hr 0 x rfl)
  simpa [Act.put] using this
 | _ :: _, [], _ :: _, _, _, _, hl, _ => by simp at hl
 | _ :: _, _ :: _, [], _, _, _, hl, _ => by simp at hl
theorem foldl_zip {β : Type} (ps : Array Tmp) (vs : Array Value) (g : β → Tmp × Value → β) (b : β) : (ps.zip vs).foldl g b = (ps.toList.zip vs.toList).foldl g b := by
 rw [← Array.foldl_toList, Array.toList_zip]
end Go.Proofs.YtfbodefnblpflaaGreatDoor
end

section
namespace Go.Proofs.YtfbodefnblpflaaGreatDoor
theorem Inv.grow {Φ : Phi} {w w' : World} {σ : St} (hi : Inv Φ w σ) (h1 : w'.os = w.os) (h2 : w'.tape = w.tape) (h3 : w'.output = w.output) (h4 : w.drawn ≤ w'.drawn) (h5 : w.heap.size ≤ w'.heap.size) (hb : ∀ k, k < w.heap.size → w'.heap[k]? = w.heap[k]?) :
  Inv Φ w' σ ∧ Step Φ σ w Φ σ w' :=
 ⟨⟨fun l o h => (hi.own l o h).mono (.refl Φ) fun p R hp hR => by
   obtain ⟨p', hp', hlt⟩ := (hi.own l o h).place
   rw [hp] at hp'; cases hp'
   exact hb R (hlt R hR), hi.inj, fun a v h => by
   rw [World.cell?_heap (hb _ (World.block_lt_of_cell? w a (hi.snap a v h)))]
   exact hi.snap a v h, hi.apart, hi.fresh⟩,
  ⟨.refl Φ, h1, h2, h3, h4, h5, fun k hk _ => hb k hk, fun _ _ h => .inl h, fun l o h => .inl ⟨o, h⟩, fun _ h => .inl h⟩⟩
structure CStep (Φ0 : Phi) (σ0 : St) (n0 : Nat) (Φ : Phi) (σ : St) : Prop where
 le : Φ0.le Φ
 snapn : ∀ a v, Φ.snap a = some v → Φ0.snap a = some v ∨ n0 ≤ a.block ∨ Owned Φ0 σ0 a.block
 locs : ∀ l o, σ l = some o → (∃ o', σ0 l = some o') ∨ Φ0.obj l = none
 ownd : ∀ R, Owned Φ σ R → Owned Φ0 σ0 R ∨ n0 ≤ R
theorem CStep.of {Φ Φ' : Phi} {σ σ' : St} {w w' : World} (h : Step Φ σ w Φ' σ' w') : CStep Φ σ w.heap.size Φ' σ' := ⟨h.le, h.snapn, h.locs, h.ownd⟩
theorem CStep.step {Φ0 Φ Φ' : Phi} {σ0 σ σ' : St} {n0 : Nat} {w w' : World} (h : CStep Φ0 σ0 n0 Φ σ) (hn : n0 ≤ w.heap.size) (k : Step Φ σ w Φ' σ' w') : CStep Φ0 σ0 n0 Φ' σ' where
 le := h.le.trans k.le
 snapn := fun a v hv => by
  rcases k.snapn a v hv with q | q | q
  ·exact h.snapn a v q
  ·exact .inr (.inl (Nat.le_trans hn q))
  ·rcases h.ownd _ q with q | q
   ·exact .inr (.inr q)
   ·exact .inr (.inl q)
 locs := fun l o hl => by
  rcases k.locs l o hl with ⟨o', q⟩ | q
  ·exact h.locs l o' q
  ·right
   cases hl : Φ0.obj l with
   | none => rfl
   | some p => have := h.le.obj l p hl; simp [this] at q
 ownd := fun R hR => by
  rcases k.ownd R hR with q | q
  ·exact h.ownd R q
  ·exact .inr (Nat.le_trans hn q)
structure CSt (Φ0 : Phi) (σ0 : St) (n0 : Nat) (tmps : Array Value) (fc : FR) (l : Nat) (st : Loop) (σ : St) (S : YS) (Φ : Phi) : Prop where
 inv : Inv Φ S.w σ
 frame : FRel Φ tmps fc
 step : CStep Φ0 σ0 n0 Φ σ
 wr : ∀ k, S.wr k ↔ (Owned Φ σ k ∨ k = l)
 sn : ∀ a, S.sn a = Φ.snap a
 lrec : S.w.heap[l]? = some (.loop st)
 size : n0 ≤ S.w.heap.size
 base : Φ.base ≤ S.w.heap.size
theorem Inv.loopNot {Φ : Phi} {w : World} {σ : St} (hi : Inv Φ w σ) {l : Nat} {st : Loop} (h : w.heap[l]? = some (.loop st)) : ¬ Owned Φ σ l :=
 hi.notOwned (fun c t fz e => by rw [h] at e; cases e) (fun c k e => by rw [h] at e; cases e)
theorem CSt.agree {Φ0 Φ : Phi} {σ0 σ : St} {n0 : Nat} {tmps : Array Value} {fc : FR} {l : Nat} {st : Loop} {S : YS} (h : CSt Φ0 σ0 n0 tmps fc l st σ S Φ) : Agree S S.w :=
 ⟨fun _ _ => rfl, fun k hk => by
  rcases (h.wr k).1 hk with q | rfl
  ·obtain ⟨l', o, p, h1, h2, h3⟩ := q
   obtain ⟨p', e, hlt⟩ := (h.inv.own l' o h1).place
   rw [h2] at e; cases e
   exact hlt k h3
  ·exact (Array.getElem?_eq_some_iff.1 h.lrec).1, (fun k hk x e => by
  rcases (h.wr k).1 hk with q | rfl
  ·exact h.inv.mark e q
  ·rw [h.lrec] at e; cases e), fun a v q => h.inv.snap a v (by rw [← h.sn a]; exact q), Nat.le_refl _, rfl, rfl, rfl, Nat.le_refl _⟩
theorem CSt.at {Φ0 Φ : Phi} {σ0 σ : St} {n0 : Nat} {tmps : Array Value} {fc : FR} {l : Nat} {st : Loop} {S : YS} (h : CSt Φ0 σ0 n0 tmps fc l st σ S Φ) {w : World} (ha : Agree S w) {Ψ : Phi} (ho : ∀ m, Ψ.obj m = none)
  (hs : ∀ a v, Ψ.snap a = some v → w.cell? a = some v ∧ ¬ S.wr a.block ∧ (Φ0.snap a = some v ∨ n0 ≤ a.block ∨ Owned Φ0 σ0 a.block)) :
  ∃ Φ', Inv Φ' w σ ∧ FRel Φ' tmps fc ∧ CStep Φ0 σ0 n0 Φ' σ ∧ (∀ k, Owned Φ' σ k ↔ Owned Φ σ k) ∧ (∀ a v, Φ'.snap a = some v → S.sn a = some v ∨ Ψ.snap a = some v) ∧ (∀ v m, Rel Ψ v m → Rel Φ' v m) ∧ w.heap[l]? = some (.loop st) ∧ Φ'.base ≤ w.heap.size := by
 obtain ⟨Φ', hΦ⟩ : ∃ Φ' : Phi, Φ' = { Φ with snap := fun a => match Φ.snap a with | some v => some v | none => Ψ.snap a } := ⟨_, rfl⟩
 have hle : Φ.le Φ' := by subst hΦ; exact ⟨fun a v q => by simp [q], fun _ _ q => q, rfl⟩
 have hobj : Φ'.obj = Φ.obj := by subst hΦ; rfl
 have hb : Φ'.base = Φ.base := by subst hΦ; rfl
 have hsn : ∀ a v, Φ'.snap a = some v → Φ.snap a = some v ∨ Ψ.snap a = some v := fun a v q => by
  subst hΦ
  simp only at q
  cases e : Φ.snap a with
  | none => rw [e] at q; exact .inr q
  | some u => rw [e] at q; exact .inl q
 have hwr : ∀ k, Owned Φ σ k → w.heap[k]? = S.w.heap[k]? := fun k hk => ha.same k ((h.wr k).2 (.inl hk))
 have hown : ∀ k, Owned Φ' σ k ↔ Owned Φ σ k := fun k => by unfold Owned; rw [hobj]
 refine ⟨Φ', ⟨fun l' o hl => (h.inv.own l' o hl).mono hle fun p R h1 h2 => hwr R ⟨l', o, p, hl, h1, h2⟩, fun a b o o' p p' R h1 h2 h3 h4 => ?_, fun a v q => ?_, fun l' o p R a v h1 h2 h3 q => ?_, ?_⟩, h.frame.mono hle, ⟨h.step.le.trans hle, fun a v q => ?_, h.step.locs, fun R hR => h.step.ownd R ((hown R).1 hR)⟩, hown, fun a v q => ?_, fun v m r => ?_, ?_, ?_⟩
 ·rw [hobj] at h3 h4; exact h.inv.inj a b o o' p p' R h1 h2 h3 h4
 ·rcases hsn a v q with q | q
  ·exact ha.sn a v (by rw [h.sn a]; exact q)
  ·exact (hs a v q).1
 ·rw [hobj] at h2
  rcases hsn a v q with q | q
  ·exact h.inv.apart l' o p R a v h1 h2 h3 q
  ·intro e
   exact (hs a v q).2.1 ((h.wr _).2 (.inl ⟨l', o, p, h1, h2, e ▸ h3⟩))
 ·obtain ⟨n, hn⟩ := h.inv.fresh.1
  exact ⟨⟨n, fun k hk => by rw [hobj]; exact hn k hk⟩, fun g i v q => hle.snap _ _ (h.inv.fresh.2 g i v q)⟩
 ·rcases hsn a v q with q | q
  ·exact h.step.snapn a v q
  ·exact (hs a v q).2.2
 ·rcases hsn a v q with q | q
  ·exact .inl (by rw [h.sn a]; exact q)
  ·exact .inr q
 ·refine r.mono2 (fun a u q => ?_) (fun l' p q => by rw [ho l'] at q; cases q)
  have h1 := (hs a u q).1
  subst hΦ
  simp only
  cases e : Φ.snap a with
  | none => exact q
  | some u' =>
   have h2 := ha.sn a u' (by rw [h.sn a]; exact e)
   rw [h1] at h2
   simpa using h2.symm
 ·rw [ha.same l ((h.wr l).2 (.inr rfl))]; exact h.lrec
 ·rw [hb]; exact Nat.le_trans h.base ha.size
def onlyN (K : FR → St → Prop) : MQ
 | .normal, f, σ => K f σ
 | _, _, _ => False
def roundQ (Q : MQ) (fc : FR) (nxt : St → Prop) : MQ
 | .normal, f, σ => Gh f σ fun _ σ1 => nxt σ1
 | .ret, f, σ => Gh f σ fun _ σ1 => Q .ret fc σ1
 | .exit id, f, σ => Gh f σ fun _ σ1 => Q (.exit id) fc σ1
 | _, _, _ => False
theorem round_at {P : Program} {Φ0 : Phi} {σ0 : St} {n0 : Nat} {tmps : Array Value} {fc : FR} {l : Nat} {fn : FuncId} {ps : Array Tmp} {assign body : Code} {Q : MQ} {nxt : St → Prop} {D : Nat} {σ : St} {S : YS} {Φ : Phi} {x : List MV} {w : World} {Ψ : Phi} {vs : Array Value}
  (rec : LoopState → Option Code → Loop) (hrec : rec = fun st pe => { state := st, pending := pe, fn, tmps, params := ps, assign, body, defers := D })
  (nda : noDefer assign = true) (ndb : noDefer body = true) (hx : x.length = ps.size)
  (hr : mwp P assign (mputs ⟨fc.n, fc.l, []⟩ ps.toList x) σ (onlyN fun f1 σ1 => mwp P body f1 σ1 (roundQ Q fc nxt)))
  (h : CSt Φ0 σ0 n0 tmps fc l (rec .ready none) σ S Φ) (ha : Agree S w) (hn0 : n0 ≤ w.heap.size) (ho : ∀ m, Ψ.obj m = none)
  (hs : ∀ a v, Ψ.snap a = some v → w.cell? a = some v ∧ ¬ S.wr a.block ∧ (Φ0.snap a = some v ∨ n0 ≤ a.block ∨ Owned Φ0 σ0 a.block)) (hv : Rels Ψ vs x) :
  YieldAt Fence.wide 0 P l vs w fun e w' => ∃ b S', e = .returned (.bool b) ∧ S'.w = w' ∧ Agree S' w' ∧ w'.os = w.os ∧ w'.tape = w.tape ∧ w'.output = w.output ∧ w.drawn ≤ w'.drawn ∧ w.heap.size ≤ w'.heap.size ∧
   (∀ k, k < w.heap.size → ¬ S.wr k → w'.heap[k]? = w.heap[k]?) ∧ (∀ k, S'.wr k → S.wr k ∨ w.heap.size ≤ k) ∧
   (∀ a v, S'.sn a = some v → S.sn a = some v ∨ S.wr a.block ∨ w.heap.size ≤ a.block ∨ Ψ.snap a = some v) ∧
   (if b = true then ∃ σ1 Φ1, nxt σ1 ∧ CSt Φ0 σ0 n0 tmps fc l (rec .ready none) σ1 S' Φ1 else ∃ c σ1 Φ1, ((c = .ret ∧ Q .ret fc σ1) ∨ ∃ id, c = .exit id ∧ Q (.exit id) fc σ1) ∧ CSt Φ0 σ0 n0 tmps fc l (rec .done (some c)) σ1 S' Φ1) := by
 obtain ⟨Φc, i1, fr1, c1, o1, s1, r1, l1, b1⟩ := h.at ha ho hs
 have hl : l < w.heap.size := (Array.getElem?_eq_some_iff.1 l1).1
 have hwl : S.wr l := (h.wr l).2 (.inr rfl)
 have hy := run_yield (P := P) (args := vs) l1 (by rw [hrec]; exact hv.1.trans hx)
 rw [hrec] at hy
 refine ⟨fn, _, assign, body, hy, roundIn_of_wpIn trivial ?_⟩
 have hfr : FRel Φc ((ps.zip vs).foldl (fun t (p : Tmp × Value) => t.setIfInBounds p.1 p.2) tmps) (mputs ⟨fc.n, fc.l, []⟩ ps.toList x) := by
  rw [foldl_zip]
  refine frel_puts ps.toList x vs.toList tmps ⟨fc.n, fc.l, []⟩ fr1 (by simpa using hv.1) fun i m hm => ?_
  have := r1 _ _ (hv.2 i m hm)
  simpa [Array.getD_eq_getD_getElem?, List.getD_eq_getElem?_getD] using this
 refine wpIn_mono (hr (Fence.wide.inRound l) (.inr ⟨l, rfl, nda⟩) Φc w { tmps := _, defers := [] } i1 hfr (by rw [mputs_d]; exact ⟨rfl, b1⟩)) ?_
 rintro e a₁ w₁ ⟨f2, σ2, Φ2, d2, fr2, i2, st2, q⟩
 cases e with
 | normal =>
  have hnl : ¬ Owned Φc σ l := i1.loopNot l1
  have hl2 : w₁.heap[l]? = some (.loop (rec .ready none)) := (st2.block l hl hnl).trans l1
  refine ⟨_, run_beginRound hl2 (by rw [hrec]), ?_⟩
  obtain ⟨w₂, hw2⟩ : ∃ w₂, w₁.putObj l (.loop { rec .ready none with state := .busy }) = w₂ := ⟨_, rfl⟩
  rw [hw2]
  have i2' : Inv Φ2 w₂ σ2 := by rw [← hw2]; exact i2.putObj _ hl2 (fun _ _ _ e => by cases e) (fun _ _ e => by cases e)
  have sz2 : w₂.heap.size = w₁.heap.size := by rw [← hw2, World.putObj_size]
  have ll2 : w₂.heap[l]? = some (.loop { rec .ready none with state := .busy }) := by rw [← hw2]; exact World.putObj_heap_same (Array.getElem?_eq_some_iff.1 hl2).1
  have d2' : DRel Φ2 w₂ a₁.defers f2.d := d2.mono (.refl _) (by omega) fun D' hD => by
   rw [← hw2, World.putObj_heap_other]
   ·exact hD
   ·rintro rfl; rw [hl2] at hD; cases hD
  have q : mwp P body f2 σ2 (roundQ Q fc nxt) := q
  refine wpIn_mono (q (Fence.wide.inRound l) (.inr ⟨l, rfl, ndb⟩) Φ2 w₂ a₁ i2' fr2 d2') ?_
  rintro e a₃ w₃ ⟨f3, σ3, Φ3, d3, fr3, i3, st3, q3⟩
  have hnl2 : ¬ Owned Φ2 σ2 l := i2'.loopNot ll2
  have hl3 : w₃.heap[l]? = some (.loop { rec .ready none with state := .busy }) := (st3.block l (Array.getElem?_eq_some_iff.1 ll2).1 hnl2).trans ll2
  -- what a round comes to, whichever way it is left
  have fin : ∀ (jump : Option Code) (st : Loop) (σ4 : St) (K : FR → St → Prop), st = rec (if jump.isNone then .ready else .done) jump → Gh f3 σ3 K →
    ∃ σ4 f4 Φ4, K f4 σ4 ∧ (Instr.endRound l jump).run P w₃ = .ok (.bool jump.isNone) (w₃.putObj l (.loop st)) ∧
     (∃ S' : YS, S'.w = w₃.putObj l (.loop st) ∧ Agree S' (w₃.putObj l (.loop st)) ∧ (w₃.putObj l (.loop st)).os = w.os ∧ (w₃.putObj l (.loop st)).tape = w.tape ∧ (w₃.putObj l (.loop st)).output = w.output ∧ w.drawn ≤ (w₃.putObj l (.loop st)).drawn ∧ w.heap.size ≤ (w₃.putObj l (.loop st)).heap.size ∧
      (∀ k, k < w.heap.size → ¬ S.wr k → (w₃.putObj l (.loop st)).heap[k]? = w.heap[k]?) ∧ (∀ k, S'.wr k → S.wr k ∨ w.heap.size ≤ k) ∧
      (∀ a v, S'.sn a = some v → S.sn a = some v ∨ S.wr a.block ∨ w.heap.size ≤ a.block ∨ Ψ.snap a = some v) ∧ CSt Φ0 σ0 n0 tmps fc l st σ4 S' Φ4) := by
   intro jump st _ K hst hg
   obtain ⟨f4, σ4, Φ4, -, k4, i4, fr4, st4⟩ := hg Φ3 w₃ a₃.tmps i3 fr3
   have hend := run_endRound (P := P) jump hl3
   have hst' : ({ ({ rec .ready none with state := .busy } : Loop) with state := if jump.isNone then .ready else .done, pending := jump } : Loop) = st := by rw [hst, hrec]
   rw [hst'] at hend
   refine ⟨σ4, f4, Φ4, k4, hend, ?_⟩
   obtain ⟨w₄, hw4⟩ : ∃ w₄, w₃.putObj l (.loop st) = w₄ := ⟨_, rfl⟩
   rw [hw4]
   have sz4 : w₄.heap.size = w₃.heap.size := by rw [← hw4, World.putObj_size]
   have i4' : Inv Φ4 w₄ σ4 := by rw [← hw4]; exact i4.putObj _ hl3 (fun _ _ _ e => by cases e) (fun _ _ e => by cases e)
   have cs : CStep Φ0 σ0 n0 Φ4 σ4 := ((c1.step hn0 st2).step (w := w₂) (by have := st2.size; omega) st3).step (w := w₃) (by have := st2.size; have := st3.size; omega) st4
   have hsz : w.heap.size ≤ w₃.heap.size := by have := st2.size; have := st3.size; omega
   have oth : ∀ k, k ≠ l → w₄.heap[k]? = w₃.heap[k]? := fun k hk => by rw [← hw4]; exact World.putObj_heap_other hk
   have oth2 : ∀ k, k ≠ l → w₂.heap[k]? = w₁.heap[k]? := fun k hk => by rw [← hw2]; exact World.putObj_heap_other hk
   have ow : ∀ k, Owned Φ4 σ4 k → S.wr k ∨ w.heap.size ≤ k := fun k hk => by
    rcases st4.ownd k hk with q | q
    ·rcases st3.ownd k q with q | q
     ·rcases st2.ownd k q with q | q
      ·exact .inl ((h.wr k).2 (.inl ((o1 k).1 q)))
      ·exact .inr q
     ·have := st2.size; exact .inr (by omega)
    ·exact .inr (by omega)
   have hcst : CSt Φ0 σ0 n0 tmps fc l st σ4 ⟨w₄, fun k => Owned Φ4 σ4 k ∨ k = l, Φ4.snap⟩ Φ4 :=
    ⟨i4', fr1.mono ((st2.le.trans st3.le).trans st4.le), cs, fun _ => Iff.rfl, fun _ => rfl, by simp only; rw [← hw4]; exact World.putObj_heap_same (Array.getElem?_eq_some_iff.1 hl3).1, by simp only; omega, by
     simp only
     rw [st4.le.base, st3.le.base, st2.le.base]; omega⟩
   refine ⟨⟨w₄, fun k => Owned Φ4 σ4 k ∨ k = l, Φ4.snap⟩, rfl, hcst.agree, ?_, ?_, ?_, ?_, by omega, fun k hk hw => ?_, fun k hk => ?_, fun a v hv => ?_, hcst⟩
   ·have e1 : w₄.os = w₃.os := by rw [← hw4]; rfl
    have e2 : w₂.os = w₁.os := by rw [← hw2]; rfl
    rw [e1, st3.os, e2, st2.os]
   ·have e1 : w₄.tape = w₃.tape := by rw [← hw4]; rfl
    have e2 : w₂.tape = w₁.tape := by rw [← hw2]; rfl
    rw [e1, st3.tape, e2, st2.tape]
   ·have e1 : w₄.output = w₃.output := by rw [← hw4]; rfl
    have e2 : w₂.output = w₁.output := by rw [← hw2]; rfl
    rw [e1, st3.output, e2, st2.output]
   ·have e1 : w₄.drawn = w₃.drawn := by rw [← hw4]; rfl
    have e2 : w₂.drawn = w₁.drawn := by rw [← hw2]; rfl
    have := st2.drawn
    have := st3.drawn
    omega
   ·have hkl : k ≠ l := fun e => hw (e ▸ hwl)
    have hno : ¬ Owned Φc σ k := fun q => hw ((h.wr k).2 (.inl ((o1 k).1 q)))
    have hno2 : ¬ Owned Φ2 σ2 k := fun q => (st2.ownd k q).elim hno (fun q => by omega)
    rw [oth k hkl, st3.block k (by have := st2.size; omega) hno2, oth2 k hkl, st2.block k hk hno]
   ·rcases hk with q | rfl
    ·exact ow k q
    ·exact .inl hwl
   ·have hv : Φ4.snap a = some v := hv
    have ow3 : ∀ k, Owned Φ3 σ3 k → S.wr k ∨ w.heap.size ≤ k := fun k hk => by
     rcases st3.ownd k hk with q | q
     ·rcases st2.ownd k q with q | q
      ·exact .inl ((h.wr k).2 (.inl ((o1 k).1 q)))
      ·exact .inr q
     ·have := st2.size; exact .inr (by omega)
    have ow2 : ∀ k, Owned Φ2 σ2 k → S.wr k ∨ w.heap.size ≤ k := fun k hk => by
     rcases st2.ownd k hk with q | q
     ·exact .inl ((h.wr k).2 (.inl ((o1 k).1 q)))
     ·exact .inr q
    have tw : S.wr a.block ∨ w.heap.size ≤ a.block → S.sn a = some v ∨ S.wr a.block ∨ w.heap.size ≤ a.block ∨ Ψ.snap a = some v := fun q => q.elim (fun q => .inr (.inl q)) (fun q => .inr (.inr (.inl q)))
    rcases st4.snapn a v hv with q | q | q
    ·rcases st3.snapn a v q with q | q | q
     ·rcases st2.snapn a v q with q | q | q
      ·rcases s1 a v q with q | q
       ·exact .inl q
       ·exact .inr (.inr (.inr q))
      ·exact tw (.inr q)
      ·exact tw (.inl ((h.wr _).2 (.inl ((o1 _).1 q))))
     ·have := st2.size; exact tw (.inr (by omega))
     ·exact tw (ow2 _ q)
    ·exact tw (.inr (by omega))
    ·exact tw (ow3 _ q)
  cases e with
  | normal =>
   obtain ⟨σ4, f4, Φ4, k4, hend, S', hS1, hS2, hS3, hS4, hS5, hS6, hS7, hS8, hS9, hS10, hS11⟩ := fin none (rec .ready none) σ3 _ rfl q3
   exact ⟨_, _, hend, true, S', rfl, hS1, hS2, hS3, hS4, hS5, hS6, hS7, hS8, hS9, hS10, σ4, Φ4, k4, hS11⟩
  | ret =>
   obtain ⟨σ4, f4, Φ4, k4, hend, S', hS1, hS2, hS3, hS4, hS5, hS6, hS7, hS8, hS9, hS10, hS11⟩ := fin (some .ret) (rec .done (some .ret)) σ3 _ rfl q3
   exact ⟨_, _, hend, false, S', rfl, hS1, hS2, hS3, hS4, hS5, hS6, hS7, hS8, hS9, hS10, .ret, σ4, Φ4, .inl ⟨rfl, k4⟩, hS11⟩
  | exit id =>
   obtain ⟨σ4, f4, Φ4, k4, hend, S', hS1, hS2, hS3, hS4, hS5, hS6, hS7, hS8, hS9, hS10, hS11⟩ := fin (some (.exit id)) (rec .done (some (.exit id))) σ3 _ rfl q3
   exact ⟨_, _, hend, false, S', rfl, hS1, hS2, hS3, hS4, hS5, hS6, hS7, hS8, hS9, hS10, .exit id, σ4, Φ4, .inr ⟨id, rfl, k4⟩, hS11⟩
  | goto l => exact q3.elim
  | panic c => exact q3.elim
  | outgrown => exact q3.elim
 | exit id => exact q.elim
 | goto l => exact q.elim
 | ret => exact q.elim
 | panic c => exact q.elim
 | outgrown => exact q.elim
end Go.Proofs.YtfbodefnblpflaaGreatDoor
end
