/- Parts of the proof, joined. Each part says what it proves, and under which conditions it does: those that its theorems name. -/
import Derived.Test.YtfbodefnblpflaaGreatDoorMbc
set_option linter.unusedVariables false
set_option linter.unusedSimpArgs false
set_option maxHeartbeats 4000000
namespace Go.Proofs.YtfbodefnblpflaaGreatDoor
section
variable {α : Type} {f : RD → α × RD} {ok : α → Prop} {w : α → BL}
theorem listR_stk (k : Nat) (x : List α × RD) (h : x.2.e ≠ 0) : listR f k x = x := by
 cases k
 ·rfl
 ·rw [listR, if_neg h]
theorem listR_sfx (hs : Sk f) : ∀ (k : Nat) (x : List α × RD), (listR f k x).2.l <:+ x.2.l
 | 0, _ => List.suffix_refl _
 | k + 1, x => by
  rw [listR]
  split
  ·exact (listR_sfx hs k _).trans (hs.sfx _)
  ·exact List.suffix_refl _
theorem listR_err {k : Nat} {x : List α × RD} (h : (listR f k x).2.e = 0) : x.2.e = 0 := by
 by_cases h0 : x.2.e = 0
 ·exact h0
 ·rw [listR_stk k x h0] at h; exact h
theorem Rt.list_fwd (h : Rt f ok w) (rest : BL) : ∀ (l acc : List α), (∀ x, x ∈ l → ok x) → listR f l.length (acc, ⟨(l.map w).flatten ++ rest, 0⟩) = (acc ++ l, ⟨rest, 0⟩)
 | [], acc, _ => by simp [listR]
 | x :: l, acc, ho => by
  rw [List.length_cons, listR, if_pos rfl, List.map_cons, List.flatten_cons, List.append_assoc]
  simp only [h.fwd x _ (ho x (by simp))]
  rw [h.list_fwd rest l _ fun y hy => ho y (by simp [hy])]
  simp
theorem Rt.list_bck (h : Rt f ok w) : ∀ (k : Nat) (x : List α × RD), (listR f k x).2.e = 0 → ∃ l, (listR f k x).1 = x.1 ++ l ∧ l.length = k ∧ (∀ y, y ∈ l → ok y) ∧ x.2.l = (l.map w).flatten ++ (listR f k x).2.l
 | 0, x, _ => ⟨[], by simp [listR], rfl, by simp, by simp [listR]⟩
 | k + 1, x, hx => by
  have h0 := listR_err hx
  rw [listR, if_pos h0] at hx ⊢
  obtain ⟨l, h1, h2, h3, h4⟩ := h.list_bck k _ hx
  have h5 := listR_err hx
  obtain ⟨-, b1, b2⟩ := h.bck _ h5
  refine ⟨(f x.2).1 :: l, by rw [h1]; simp, by simp [h2], ?_, ?_⟩
  ·intro y hy
   rcases List.mem_cons.1 hy with rfl | hy
   ·exact b1
   ·exact h3 y hy
  ·rw [List.map_cons, List.flatten_cons, List.append_assoc, ← h4]; exact b2
end
section
variable {c : Prop} [Decidable c] {e : Int} {r : RD} {l : BL}
theorem failC_stk (h : r.e ≠ 0) : (if c then failR e r else r) = r := by
 split
 ·exact failR_stk h
 ·rfl
theorem failC_sfx (h : r.l <:+ l) : (if c then failR e r else r).l <:+ l := by
 split
 ·rw [failR_l]; exact h
 ·exact h
theorem failC_stk' (h : r.e ≠ 0) : (if c then r else failR e r) = r := by
 split
 ·rfl
 ·exact failR_stk h
theorem failC_sfx' (h : r.l <:+ l) : (if c then r else failR e r).l <:+ l := by
 split
 ·exact h
 ·rw [failR_l]; exact h
theorem failN_err (he : e ≠ 0) (h : (if c then r else failR e r).e = 0) : c ∧ (if c then r else failR e r) = r := by
 by_cases k : c
 ·exact ⟨k, if_pos k⟩
 ·rw [if_neg k] at h; exact absurd h (failR_ne he _)
theorem failC_err (he : e ≠ 0) (h : (if c then failR e r else r).e = 0) : ¬ c ∧ (if c then failR e r else r) = r := by
 by_cases k : c
 ·rw [if_pos k] at h; exact absurd h (failR_ne he _)
 ·exact ⟨k, if_neg k⟩
end
def okN (x : ND) : Prop := (1 ≤ x.op ∧ x.op ≤ 12) ∧ (if opN x.op = true then 0 ≤ x.n ∧ x.n ≤ mostN x.op else x.n = 0) ∧ (if opV x.op = true then vaOk x.v = true else x.v = va0) ∧ (opV x.op = true → ndOk x = true)
theorem okN_of {x : ND} (h : ndOk x = true) : okN x := by
 unfold okN
 refine ⟨?_, ?_, ?_, fun _ => h⟩
 all_goals
  unfold ndOk at h
  try simp only [opN, opV, mostN, decide_eq_true_eq]
  grind
theorem nodeR_sk : Sk nodeR := by
 refine ⟨fun r h => ?_, fun r => ?_⟩
 ·unfold nodeR
  simp only [(fromR_sk 1 12).stk r h]
  rw [((numR_sk _).cond 0 _).stk r h, (valR_sk.cond va0 _).stk r h]
  exact failC_stk h
 ·unfold nodeR
  simp only
  have := ((valR_sk.cond va0 (opV (fromR 1 12 r).1)).sfx _).trans ((((numR_sk (mostN (fromR 1 12 r).1)).cond 0 (opN (fromR 1 12 r).1)).sfx _).trans ((fromR_sk 1 12).sfx r))
  exact failC_sfx this
theorem mostN_le (op : Int) : mostN op ≤ 15 := by unfold mostN; split <;> (try split) <;> omega
theorem nodeR_rt : Rt nodeR okN nodeB where
 fwd x l h := by
  obtain ⟨h1, h2, h3, h4⟩ := h
  have hm := mostN_le x.op
  unfold nodeB nodeR
  simp only [List.append_assoc, (fromR_rt 1 12).fwd x.op _ ⟨by omega, h1.1, by unfold big; omega, h1.2⟩]
  rw [((numR_rt (mostN x.op)).cond 0 (opN x.op)).fwd x.n _ (by
   cases hg : opN x.op <;> rw [hg] at h2 <;> simp only [Bool.false_eq_true, if_false, if_true] at h2 ⊢
   ·exact h2
   ·exact ⟨h2.1, by unfold big; omega, h2.2⟩)]
  simp only
  rw [(valR_rt.cond va0 (opV x.op)).fwd x.v l h3]
  rw [if_neg (fun hc => by rw [h4 hc.1] at hc; cases hc.2)]
 bck r h := by
  have h0 := nodeR_sk.err h
  unfold nodeR at h ⊢
  simp only at h ⊢
  obtain ⟨hc, hx⟩ := failC_err (by decide) h
  rw [hx] at h ⊢
  ·clear hx
   obtain ⟨e2, a3, b3⟩ := (valR_rt.cond va0 _).bck _ h
   obtain ⟨e1, a2, b2⟩ := ((numR_rt _).cond 0 _).bck _ e2
   obtain ⟨-, a1, b1⟩ := (fromR_rt 1 12).bck _ e1
   generalize (if opN (fromR 1 12 r).1 = true then numR (mostN (fromR 1 12 r).1) (fromR 1 12 r).2 else (0, (fromR 1 12 r).2)) = G at *
   generalize (if opV (fromR 1 12 r).1 = true then valR G.2 else (va0, G.2)) = I at *
   refine ⟨h0, ⟨⟨a1.2.1, a1.2.2.2⟩, ?_, a3, fun hv => ?_⟩, ?_⟩
   ·simp only
    split at a2
    ·rename_i c; rw [if_pos c]; exact ⟨a2.1, a2.2.2⟩
    ·rename_i c; rw [if_neg c]; exact a2
   ·exact Classical.byContradiction fun hn => hc ⟨hv, by simpa using hn⟩
   ·unfold nodeB
    simp only [List.append_assoc]
    rw [← b3, ← b2]
    exact b1
theorem predErr_iff (l : List ND) : predErr l = 0 ↔ l.length ≤ 31 ∧ l ≠ [] ∧ endS l 0 = l.length ∧ l.all ndOk = true ∧ depthS l ≤ 8 := by
 unfold predErr
 by_cases h1 : 31 < l.length
 ·rw [if_pos h1]
  constructor
  ·intro h; cases h
  ·intro h; omega
 ·rw [if_neg h1]
  by_cases h2 : l = [] ∨ endS l 0 ≠ l.length ∨ l.all ndOk = false
  ·rw [if_pos h2]
   constructor
   ·intro h; cases h
   ·rintro ⟨_, k1, k2, k3, _⟩
    rcases h2 with hc | hc | hc
    ·exact absurd hc k1
    ·exact absurd k2 hc
    ·rw [k3] at hc; cases hc
  ·rw [if_neg h2]
   by_cases h3 : 8 < depthS l
   ·rw [if_pos h3]
    constructor
    ·intro h; cases h
    ·rintro ⟨_, _, _, _, k⟩; exact absurd h3 (Nat.not_lt.2 k)
   ·rw [if_neg h3]
    refine ⟨fun _ => ⟨Nat.le_of_not_lt h1, fun h => h2 (.inl h), Classical.byContradiction fun h => h2 (.inr (.inl h)), ?_, Nat.le_of_not_lt h3⟩, fun _ => rfl⟩
    cases h : l.all ndOk
    ·exact absurd (.inr (.inr h)) h2
    ·rfl
theorem predErr_cases (l : List ND) : predErr l = 0 ∨ predErr l = 1 ∨ predErr l = 4 ∨ predErr l = 5 := by
 unfold predErr
 by_cases h1 : 31 < l.length
 ·simp [h1]
 ·by_cases h2 : l = [] ∨ endS l 0 ≠ l.length ∨ l.all ndOk = false
  ·rw [if_neg h1, if_pos h2]; simp
  ·rw [if_neg h1, if_neg h2]
   by_cases h3 : 8 < depthS l
   ·rw [if_pos h3]; simp
   ·rw [if_neg h3]; simp
theorem predR_sk : Sk predR := by
 refine ⟨fun r h => ?_, fun r => ?_⟩
 ·unfold predR
  simp only [(fromR_sk 1 31).stk r h]
  rw [listR_stk _ _ h, if_neg h]
 ·unfold predR
  simp only
  have := (listR_sfx nodeR_sk (fromR 1 31 r).1.toNat ([], (fromR 1 31 r).2)).trans ((fromR_sk 1 31).sfx r)
  split
  ·split
   ·exact this
   ·rw [failR_l]; exact this
  ·exact this
theorem predR_rt : Rt predR (fun l => predErr l = 0) predB where
 fwd x l h := by
  rw [predB, if_pos h]
  obtain ⟨h1, h2, h3, h4, h5⟩ := (predErr_iff x).1 h
  have hp := List.length_pos_iff.2 h2
  unfold predR
  simp only [List.append_assoc, (fromR_rt 1 31).fwd (x.length : Int) _ ⟨by omega, by omega, by unfold big; omega, by omega⟩, Int.toNat_natCast]
  rw [nodeR_rt.list_fwd l x [] fun y hy => okN_of (List.all_eq_true.1 h4 y hy)]
  rw [if_pos rfl, List.nil_append, if_pos h]
 bck r h := by
  have h0 := predR_sk.err h
  unfold predR at h ⊢
  simp only at h ⊢
  by_cases e2 : (listR nodeR (fromR 1 31 r).1.toNat ([], (fromR 1 31 r).2)).2.e = 0
  ·rw [if_pos e2] at h ⊢
   obtain ⟨x, c1, c2, c3, c4⟩ := nodeR_rt.list_bck _ _ e2
   obtain ⟨-, a1, b1⟩ := (fromR_rt 1 31).bck _ (listR_err e2)
   rw [List.nil_append] at c1
   by_cases hp : predErr (listR nodeR (fromR 1 31 r).1.toNat ([], (fromR 1 31 r).2)).1 = 0
   ·rw [if_pos hp]
    refine ⟨h0, hp, ?_⟩
    rw [predB, if_pos hp, c1, c2, Int.toNat_of_nonneg a1.1, List.append_assoc, ← c4]
    exact b1
   ·rw [if_neg hp] at h
    refine absurd h (failR_ne ?_ _)
    rcases predErr_cases (listR nodeR (fromR 1 31 r).1.toNat ([], (fromR 1 31 r).2)).1 with q | q | q | q
    ·exact absurd q hp
    ·rw [q]; decide
    ·rw [q]; decide
    ·rw [q]; decide
  ·rw [if_neg e2] at h; exact absurd h e2
theorem repR_sk : Sk repR := by
 refine ⟨fun r h => ?_, fun r => ?_⟩
 ·unfold repR
  simp only [okR_snd]
  rw [(fromR_sk 2 4).stk r h, (numR_sk 5).stk r h, (fromR_sk 1 big).stk r h, (numR_sk 16).stk r h]
  rw [((numR_sk big).cond 0 _).stk r h, ((fromR_sk 1 (idMax - 1)).cond 0 _).stk r h, ((fromR_sk 1 big).cond 0 _).stk r h, ((fromR_sk 1 big).cond 0 _).stk r h, (predR_sk.cond [] _).stk r h, ((numR_sk 511).cond 0 _).stk r h]
 ·unfold repR
  simp only [okR_snd]
  exact (((numR_sk 511).cond 0 _).sfx _).trans (((predR_sk.cond [] _).sfx _).trans ((((fromR_sk 1 big).cond 0 _).sfx _).trans ((((fromR_sk 1 big).cond 0 _).sfx _).trans ((((fromR_sk 1 (idMax - 1)).cond 0 _).sfx _).trans ((((numR_sk big).cond 0 _).sfx _).trans (((numR_sk 16).sfx _).trans (((fromR_sk 1 big).sfx _).trans (((numR_sk 5).sfx _).trans ((fromR_sk 2 4).sfx r)))))))))
theorem u32_zero {x : UInt32} : x = 0 ↔ x.toNat = 0 := ⟨fun h => by rw [h]; rfl, fun h => UInt32.toNat_inj.1 (by rw [h]; rfl)⟩
theorem repR_rt : Rt repR (fun a => repOk a = true) repB where
 fwd a l h := by
  rw [repB, if_pos h]
  obtain ⟨q1, q2, q3, q4, q5, q6, q7, q8, q9, q10, q11, q12, q13⟩ := of_decide_eq_true h
  have hb : big = 1099511627776 := rfl
  have hi : idMax = 1073741824 := rfl
  unfold repR
  simp only [List.append_assoc, (fromR_rt 2 4).fwd a.kd _ ⟨by omega, q1, by omega, q2⟩, (numR_rt 5).fwd a.dev _ ⟨q3, by omega, by omega⟩, (fromR_rt 1 big).fwd a.req _ ⟨by omega, q5, q6, q6⟩, (numR_rt 16).fwd a.code _ ⟨q7, by omega, q8⟩]
  obtain ⟨kd, dev, req, code, id, ver, sq, ep, fl, mask⟩ := a
  simp only at *
  by_cases hc : code = 0
  ·subst hc
   simp only [true_and, if_true, decide_true, Bool.true_and, decide_eq_true_eq, ne_eq, not_true_eq_false, false_implies, List.append_assoc] at *
   simp only [(numR_rt big).fwd sq _ ⟨q9, q10, q10⟩]
   by_cases h2 : kd = 2
   ·subst h2
    simp only [if_true, show ¬ (2 : Int) = 3 by decide, if_false, List.append_assoc, List.nil_append] at *
    simp only [(fromR_rt 1 (idMax - 1)).fwd id _ ⟨by omega, q12.1, by omega, by omega⟩, (fromR_rt 1 big).fwd ver _ ⟨by omega, q12.2.2.1, q12.2.2.2, q12.2.2.2⟩]
    obtain ⟨r1, r2, r3⟩ := q13
    subst r1 r2 r3
    exact okR_ok rfl
   ·by_cases h3 : kd = 3
    ·subst h3
     simp only [if_true, show ¬ (3 : Int) = 2 by decide, if_false, List.append_assoc, List.nil_append] at *
     simp only [(fromR_rt 1 big).fwd ep _ ⟨by omega, q13.1, q13.2.1, q13.2.1⟩, predR_rt.fwd fl _ q13.2.2.1, (numR_rt 511).fwd (mask.toNat : Int) _ ⟨by omega, by omega, by omega⟩, u32_ofn]
     obtain ⟨r1, r2⟩ := q12
     subst r1 r2
     exact okR_ok rfl
    ·simp only [if_neg h2, if_neg h3, List.nil_append] at *
     obtain ⟨r1, r2⟩ := q12
     obtain ⟨r3, r4, r5⟩ := q13
     subst r1 r2 r3 r4 r5
     exact okR_ok rfl
  ·simp only [hc, false_and, if_false, List.nil_append, and_false, decide_false, Bool.false_and, Bool.false_eq_true, ne_eq, not_false_eq_true, forall_const] at *
   obtain ⟨r1, r2⟩ := q12
   obtain ⟨r3, r4, r5⟩ := q13
   subst r1 r2 r3 r4 r5 q11
   exact okR_ok rfl
 bck r h := by
  have h0 := repR_sk.err h
  unfold repR at h ⊢
  simp only at h ⊢
  rw [okR_ok' h]
  simp only [okR_snd] at h ⊢
  have hi : idMax = 1073741824 := rfl
  obtain ⟨e9, a10, b10⟩ := ((numR_rt 511).cond 0 _).bck _ h
  obtain ⟨e8, a9, b9⟩ := (predR_rt.cond [] _).bck _ e9
  obtain ⟨e7, a8, b8⟩ := ((fromR_rt 1 big).cond 0 _).bck _ e8
  obtain ⟨e6, a7, b7⟩ := ((fromR_rt 1 big).cond 0 _).bck _ e7
  obtain ⟨e5, a6, b6⟩ := ((fromR_rt 1 (idMax - 1)).cond 0 _).bck _ e6
  obtain ⟨e4, a5, b5⟩ := ((numR_rt big).cond 0 _).bck _ e5
  obtain ⟨e3, a4, b4⟩ := (numR_rt 16).bck _ e4
  obtain ⟨e2, a3, b3⟩ := (fromR_rt 1 big).bck _ e3
  obtain ⟨e1, a2, b2⟩ := (numR_rt 5).bck _ e2
  obtain ⟨-, a1, b1⟩ := (fromR_rt 2 4).bck _ e1
  generalize fromR 2 4 r = K at *
  generalize numR 5 K.2 = D at *
  generalize fromR 1 big D.2 = Q at *
  generalize numR 16 Q.2 = C at *
  simp only [e4, true_and] at a10 b10 a9 b9 a8 b8 a7 b7 a6 b6 a5 b5 h ⊢
  generalize (if decide (C.1 = 0) = true then numR big C.2 else (0, C.2)) = S at *
  generalize (if (decide (C.1 = 0) && decide (K.1 = 2)) = true then fromR 1 (idMax - 1) S.2 else (0, S.2)) = I at *
  generalize (if (decide (C.1 = 0) && decide (K.1 = 2)) = true then fromR 1 big I.2 else (0, I.2)) = V at *
  generalize (if (decide (C.1 = 0) && decide (K.1 = 3)) = true then fromR 1 big V.2 else (0, V.2)) = E at *
  generalize (if (decide (C.1 = 0) && decide (K.1 = 3)) = true then predR E.2 else ([], E.2)) = F at *
  generalize (if (decide (C.1 = 0) && decide (K.1 = 3)) = true then numR 511 F.2 else (0, F.2)) = M at *
  have hM : 0 ≤ M.1 ∧ M.1 ≤ 511 := by
   split at a10
   ·exact ⟨a10.1, a10.2.2⟩
   ·omega
  have hm := u32_toN hM.1 (by omega)
  have hok : repOk ⟨K.1, D.1, Q.1, C.1, I.1, V.1, S.1, E.1, F.1, UInt32.ofNat M.1.toNat⟩ = true := by
   refine decide_eq_true ⟨a1.2.1, a1.2.2.2, a2.1, by have := a2.2.2; simp only; omega, a3.2.1, a3.2.2.1, a4.1, a4.2.2, ?_, ?_, ?_, ?_, ?_⟩
   ·simp only; split at a5 <;> omega
   ·simp only; split at a5
    ·exact a5.2.1
    ·rw [a5]; decide
   ·intro hc; simp only at hc ⊢; rw [if_neg (by simpa using hc)] at a5; exact a5
   ·simp only [Bool.and_eq_true, decide_eq_true_eq] at a6 a7 ⊢
    split
    ·rename_i c; rw [if_pos c] at a6 a7; exact ⟨a6.2.1, by have := a6.2.2.2; omega, a7.2.1, a7.2.2.1⟩
    ·rename_i c; rw [if_neg c] at a6 a7; exact ⟨a6, a7⟩
   ·simp only [Bool.and_eq_true, decide_eq_true_eq] at a8 a9 a10 ⊢
    split
    ·rename_i c; rw [if_pos c] at a8 a9; exact ⟨a8.2.1, a8.2.2.1, a9, by omega⟩
    ·rename_i c; rw [if_neg c] at a8 a9 a10; exact ⟨a8, a9, by rw [a10]; rfl⟩
  refine ⟨h0, hok, ?_⟩
  rw [repB, if_pos hok]
  simp only [hm, List.append_assoc]
  rw [b1, b2, b3, b4, b5, b6, b7, b8, b9, b10]
  by_cases hc : C.1 = 0 <;> by_cases h2 : K.1 = 2 <;> by_cases h3 : K.1 = 3
  all_goals simp [hc, h2, h3]
end Go.Proofs.YtfbodefnblpflaaGreatDoor
