/- Parts of the proof, joined. Each part says what it proves, and under which conditions it does: those that its theorems name. -/
import Derived.Test.YtfbodefnblpflaaGreatDoorMce
import Derived.Test.YtfbodefnblpflaaGreatDoorMcf
set_option linter.unusedVariables false
set_option linter.unusedSimpArgs false
set_option maxHeartbeats 4000000
section
namespace Go.Proofs.YtfbodefnblpflaaGreatDoor
theorem Sk.cond {α : Type} {f : RD → α × RD} (h : Sk f) (d : α) (b : Bool) : Sk (fun r => if b = true then f r else (d, r)) := ⟨fun r hr => by
 cases b
 ·rfl
 ·simpa using h.stk r hr, fun r => by
 cases b
 ·exact List.suffix_refl _
 ·simpa using h.sfx r⟩
theorem Rt.cond {α : Type} {f : RD → α × RD} {ok : α → Prop} {w : α → BL} (h : Rt f ok w) (d : α) (b : Bool) : Rt (fun r => if b = true then f r else (d, r)) (fun x => if b = true then ok x else x = d) (fun x => if b = true then w x else []) where
 fwd x l hx := by
  cases b
  ·simp only [Bool.false_eq_true, if_false, List.nil_append] at hx ⊢; rw [hx]
  ·simp only [if_true] at hx ⊢; exact h.fwd x l hx
 bck r hr := by
  cases b
  ·exact ⟨by simpa using hr, by simp, by simp⟩
  ·simp only [if_true] at hr ⊢; exact h.bck r hr
theorem patchR_sk : Sk patchR := by
 have s1 := fromR_sk 1 511
 have s3 := numR_sk 65535
 refine ⟨fun r h => ?_, fun r => ?_⟩
 ·unfold patchR
  simp only [okR_snd, s1.stk r h]
  rw [(s3.cond 0 _).stk r h]
  exact fieldsR_stk _ _ _ _ h
 ·unfold patchR
  simp only [okR_snd]
  refine (fieldsR_sfx _ _ _ _).trans ?_
  split
  ·exact (s3.sfx _).trans (s1.sfx _)
  ·exact s1.sfx _
theorem patchErr_iff (p : PA) : patchErr p = 0 ↔ (1 ≤ p.mask.toNat ∧ p.mask.toNat ≤ 511) ∧ (p.lab.toNat < 65536 ∧ (bit p.mask.toNat 8 = false → p.lab.toNat = 0)) ∧ ∀ i, i < 8 → vaOk (p.f.get i) = true ∧ (bit p.mask.toNat i = false → (p.f.get i).kd = 0) := by
 unfold patchErr
 by_cases h1 : p.mask.toNat = 0 ∨ 511 < p.mask.toNat
 ·rw [if_pos h1]
  constructor
  ·intro h; simp at h
  ·intro h; omega
 ·rw [if_neg h1]
  by_cases h2 : 65536 ≤ p.lab.toNat ∨ p.lab.toNat ≠ 0 ∧ bit p.mask.toNat 8 = false
  ·rw [if_pos h2]
   constructor
   ·intro h; simp at h
   ·rintro ⟨_, ⟨a, b⟩, _⟩
    rcases h2 with h2 | ⟨h2, h3⟩
    ·omega
    ·exact absurd (b h3) h2
  ·rw [if_neg h2]
   have hx : (List.range 8).all (fun i => vaOk (p.f.get i) && (decide ((p.f.get i).kd = 0) || bit p.mask.toNat i)) = true ↔ ∀ i, i < 8 → vaOk (p.f.get i) = true ∧ (bit p.mask.toNat i = false → (p.f.get i).kd = 0) := by
    rw [List.all_eq_true]
    refine ⟨fun h i hi => ?_, fun h i hi => ?_⟩
    ·have := h i (List.mem_range.2 hi)
     rw [Bool.and_eq_true, Bool.or_eq_true, decide_eq_true_eq] at this
     exact ⟨this.1, fun hb => this.2.elim id fun h => by rw [hb] at h; cases h⟩
    ·have := h i (List.mem_range.1 hi)
     rw [Bool.and_eq_true, Bool.or_eq_true, decide_eq_true_eq]
     refine ⟨this.1, ?_⟩
     cases hb : bit p.mask.toNat i
     ·exact .inl (this.2 hb)
     ·exact .inr rfl
   constructor
   ·intro h
    split at h
    ·rename_i h3
     refine ⟨by omega, ⟨by omega, fun hb => ?_⟩, hx.1 h3⟩
     exact Classical.byContradiction fun hc => h2 (.inr ⟨hc, hb⟩)
    ·simp at h
   ·rintro ⟨_, _, h⟩
    rw [if_pos (hx.2 h)]
theorem patchR_rt : Rt patchR (fun p => patchErr p = 0) patchB where
 fwd p l h := by
  rw [patchB, if_pos h]
  obtain ⟨h1, h2, h3⟩ := (patchErr_iff p).1 h
  simp only [List.append_assoc]
  unfold patchR
  simp only [(fromR_rt 1 511).fwd (p.mask.toNat : Int) _ ⟨by omega, by omega, by unfold big; omega, by omega⟩, Int.toNat_natCast]
  have key : (if bit p.mask.toNat 8 = true then numR 65535 ⟨(if bit p.mask.toNat 8 = true then numB p.lab.toNat else []) ++ (fieldsB p.mask.toNat p.f 8 ++ l), 0⟩ else ((0 : Int), (⟨(if bit p.mask.toNat 8 = true then numB p.lab.toNat else []) ++ (fieldsB p.mask.toNat p.f 8 ++ l), 0⟩ : RD))) = ((p.lab.toNat : Int), ⟨fieldsB p.mask.toNat p.f 8 ++ l, 0⟩) := by
   by_cases hb : bit p.mask.toNat 8 = true
   ·rw [if_pos hb, if_pos hb, (numR_rt 65535).fwd (p.lab.toNat : Int) _ ⟨by omega, by unfold big; omega, by omega⟩]
   ·rw [if_neg hb, if_neg hb, h2.2 (by simpa using hb)]; rfl
  rw [key]
  obtain ⟨g, e, hg⟩ := fieldsR_fwd p.mask.toNat true p.f l 8 (Nat.le_refl _) (fun i hi hb => ⟨(h3 i hi).1, fun hn => by cases hn⟩) f80
  simp only [e, Int.toNat_natCast, UInt32.ofNat_toNat]
  rw [okR_ok rfl]
  have : g = p.f := F8.ext fun i hi => by
   rw [hg i hi, f80_get]
   by_cases hb : bit p.mask.toNat i = true
   ·rw [if_pos ⟨by omega, hb⟩]
   ·rw [if_neg (fun hc => hb hc.2), va_zero (h3 i hi).1 ((h3 i hi).2 (by simpa using hb))]
  rw [this]
 bck r h := by
  have h0 := patchR_sk.err h
  unfold patchR at h ⊢
  simp only at h ⊢
  rw [okR_ok' h]
  simp only [okR_snd] at h ⊢
  have e2 := fieldsR_err h
  simp only at e2
  obtain ⟨-, f2, f3, f4⟩ := fieldsR_bck _ _ 8 (Nat.le_refl _) _ h
  have hB : (fromR 1 511 r).2.e = 0 ∧ (if bit (fromR 1 511 r).1.toNat 8 = true then numR 65535 (fromR 1 511 r).2 else (0, (fromR 1 511 r).2)).1 ≤ 65535 ∧ 0 ≤ (if bit (fromR 1 511 r).1.toNat 8 = true then numR 65535 (fromR 1 511 r).2 else (0, (fromR 1 511 r).2)).1 ∧
    (bit (fromR 1 511 r).1.toNat 8 = false → (if bit (fromR 1 511 r).1.toNat 8 = true then numR 65535 (fromR 1 511 r).2 else (0, (fromR 1 511 r).2)).1 = 0) ∧
    (fromR 1 511 r).2.l = (if bit (fromR 1 511 r).1.toNat 8 = true then numB (if bit (fromR 1 511 r).1.toNat 8 = true then numR 65535 (fromR 1 511 r).2 else (0, (fromR 1 511 r).2)).1 else []) ++ (if bit (fromR 1 511 r).1.toNat 8 = true then numR 65535 (fromR 1 511 r).2 else (0, (fromR 1 511 r).2)).2.l := by
   by_cases hb : bit (fromR 1 511 r).1.toNat 8 = true
   ·simp only [if_pos hb] at e2 ⊢
    obtain ⟨a1, a2, a3⟩ := (numR_rt 65535).bck _ e2
    exact ⟨a1, a2.2.2, a2.1, fun hc => (by rw [hb] at hc; cases hc), a3⟩
   ·simp only [if_neg hb] at e2 ⊢
    exact ⟨e2, by decide, by decide, fun _ => by first | rfl | trivial, rfl⟩
  generalize (if bit (fromR 1 511 r).1.toNat 8 = true then numR 65535 (fromR 1 511 r).2 else (0, (fromR 1 511 r).2)) = B at *
  obtain ⟨e1, b1, b2, b3, b4⟩ := hB
  obtain ⟨-, a1, a2⟩ := (fromR_rt 1 511).bck _ e1
  generalize fieldsR (fromR 1 511 r).1.toNat true 8 (f80, B.2) = F at *
  have hm := u32_toN a1.1 (by omega)
  have hl := u32_toN b2 (by omega)
  have hmn : (UInt32.ofNat (fromR 1 511 r).1.toNat).toNat = (fromR 1 511 r).1.toNat := by omega
  have hln : (UInt32.ofNat B.1.toNat).toNat = B.1.toNat := by omega
  have hok : patchErr ⟨UInt32.ofNat (fromR 1 511 r).1.toNat, UInt32.ofNat B.1.toNat, F.1⟩ = 0 := by
   rw [patchErr_iff]
   simp only [hmn, hln]
   refine ⟨by omega, ⟨by omega, fun hb => by rw [b3 hb]; rfl⟩, fun i hi => ?_⟩
   by_cases hb : bit (fromR 1 511 r).1.toNat i = true
   ·exact ⟨(f3 i hi (by omega) hb).1, fun hc => by rw [hb] at hc; cases hc⟩
   ·rw [f4 i hi (.inr (by simpa using hb)), f80_get]
    exact ⟨by decide, fun _ => by first | rfl | trivial⟩
  refine ⟨h0, hok, ?_⟩
  rw [patchB, if_pos hok]
  simp only [hmn, hln, Int.toNat_of_nonneg a1.1, Int.toNat_of_nonneg b2, List.append_assoc]
  rw [← f2, ← b4]
  exact a2
theorem mayR_sk : Sk mayR := by
 refine ⟨fun r h => ?_, fun r => ?_⟩
 ·unfold mayR
  simp only [okR_snd, patchR_sk.stk r h]
  split
  ·rfl
  ·exact failR_stk h
 ·unfold mayR
  simp only [okR_snd]
  split
  ·exact patchR_sk.sfx r
  ·rw [failR_l]; exact patchR_sk.sfx r
theorem mayR_rt : Rt mayR (fun p => patchErr p = 0) patchB where
 fwd p l h := by
  unfold mayR
  simp only [patchR_rt.fwd p l h, if_pos h]
  exact okR_ok rfl
 bck r h := by
  have h0 := mayR_sk.err h
  unfold mayR at h ⊢
  simp only at h ⊢
  rw [okR_ok' h]
  simp only [okR_snd] at h ⊢
  by_cases hp : patchErr (patchR r).1 = 0
  ·rw [if_pos hp] at h ⊢
   exact patchR_rt.bck r h
  ·rw [if_neg hp] at h; exact absurd h (failR_ne (by decide) _)
theorem editR_sk : Sk editR := by
 refine ⟨fun r h => ?_, fun r => ?_⟩
 ·unfold editR
  simp only [okR_snd]
  rw [(fromR_sk 1 7).stk r h]
  rw [((numR_sk 15).cond 0 _).stk r h, ((fromR_sk 1 (idMax - 1)).cond 0 _).stk r h, (mayR_sk.cond pa0 _).stk r h]
 ·unfold editR
  simp only [okR_snd]
  exact ((mayR_sk.cond pa0 _).sfx _).trans ((((fromR_sk 1 (idMax - 1)).cond 0 _).sfx _).trans ((((numR_sk 15).cond 0 _).sfx _).trans ((fromR_sk 1 7).sfx r)))
theorem editErr_iff (e : ED) : editErr e = 0 ↔ (1 ≤ e.kd ∧ e.kd ≤ 7) ∧ (if edG e.kd = true then 0 ≤ e.gr ∧ e.gr ≤ 15 else e.gr = 0) ∧ (if edI e.kd = true then 1 ≤ e.id ∧ e.id < idMax else e.id = 0) ∧ (if edP e.kd = true then patchErr e.p = 0 else e.p = pa0) := by
 unfold editErr
 cases hg : edG e.kd <;> cases hi : edI e.kd <;> cases hp : edP e.kd
 all_goals
  simp only [Bool.false_eq_true, if_false, if_true, true_and, false_and, reduceCtorEq, false_or, or_false]
  grind
theorem editR_rt : Rt editR (fun e => editErr e = 0) editB where
 fwd x l h := by
  rw [editB, if_pos h]
  obtain ⟨h1, h2, h3, h4⟩ := (editErr_iff x).1 h
  simp only [List.append_assoc]
  unfold editR
  simp only [(fromR_rt 1 7).fwd x.kd _ ⟨by omega, h1.1, by unfold big; omega, h1.2⟩]
  rw [((numR_rt 15).cond 0 (edG x.kd)).fwd x.gr _ (by
   cases hg : edG x.kd <;> rw [hg] at h2 <;> simp only [Bool.false_eq_true, if_false, if_true] at h2 ⊢
   ·exact h2
   ·exact ⟨h2.1, by unfold big; omega, h2.2⟩)]
  simp only
  rw [((fromR_rt 1 (idMax - 1)).cond 0 (edI x.kd)).fwd x.id _ (by
   cases hg : edI x.kd <;> rw [hg] at h3 <;> simp only [Bool.false_eq_true, if_false, if_true] at h3 ⊢
   ·exact h3
   ·exact ⟨by omega, h3.1, by unfold idMax at h3; unfold big; omega, by omega⟩)]
  simp only
  rw [(mayR_rt.cond pa0 (edP x.kd)).fwd x.p l h4]
  exact okR_ok rfl
 bck r h := by
  have h0 := editR_sk.err h
  unfold editR at h ⊢
  simp only at h ⊢
  rw [okR_ok' h]
  simp only [okR_snd] at h ⊢
  obtain ⟨e3, a4, b4⟩ := (mayR_rt.cond pa0 _).bck _ h
  obtain ⟨e2, a3, b3⟩ := ((fromR_rt 1 (idMax - 1)).cond 0 _).bck _ e3
  obtain ⟨e1, a2, b2⟩ := ((numR_rt 15).cond 0 _).bck _ e2
  obtain ⟨-, a1, b1⟩ := (fromR_rt 1 7).bck _ e1
  generalize (if edG (fromR 1 7 r).1 = true then numR 15 (fromR 1 7 r).2 else (0, (fromR 1 7 r).2)) = G at *
  generalize (if edI (fromR 1 7 r).1 = true then fromR 1 (idMax - 1) G.2 else (0, G.2)) = I at *
  generalize (if edP (fromR 1 7 r).1 = true then mayR I.2 else (pa0, I.2)) = P at *
  have hok : editErr ⟨(fromR 1 7 r).1, I.1, G.1, P.1⟩ = 0 := (editErr_iff _).2 ⟨⟨a1.2.1, a1.2.2.2⟩, by
   simp only
   split at a2
   ·rename_i c; rw [if_pos c]; exact ⟨a2.1, a2.2.2⟩
   ·rename_i c; rw [if_neg c]; exact a2, by
   simp only
   split at a3
   ·rename_i c; rw [if_pos c]; exact ⟨a3.2.1, by have := a3.2.2.2; omega⟩
   ·rename_i c; rw [if_neg c]; exact a3, a4⟩
  refine ⟨h0, hok, ?_⟩
  rw [editB, if_pos hok]
  simp only [List.append_assoc]
  rw [← b4, ← b3, ← b2]
  exact b1
theorem tokR_sk : Sk tokR := by
 refine ⟨fun r h => ?_, fun r => ?_⟩
 ·unfold tokR
  simp only [okR_snd, (numR_sk 5).stk r h, (fromR_sk 1 big).stk r h, (numR_sk big).stk r h, (numR_sk idMax).stk r h]
 ·unfold tokR
  simp only [okR_snd]
  exact ((numR_sk idMax).sfx _).trans (((numR_sk big).sfx _).trans (((fromR_sk 1 big).sfx _).trans ((numR_sk 5).sfx r)))
theorem tokR_rt : Rt tokR (fun t => tokOk t = true) tokB where
 fwd t l h := by
  rw [tokB, if_pos h]
  obtain ⟨q1, q2, q3, q4, q5, q6, q7, q8⟩ := of_decide_eq_true h
  simp only [List.append_assoc]
  unfold tokR
  simp only [big, idMax] at q1 q2 q3 q4 q5 q6 q7 q8
  simp only [(numR_rt 5).fwd t.dev _ ⟨by omega, by unfold big; omega, by omega⟩, (fromR_rt 1 big).fwd t.ep _ ⟨by omega, by omega, by unfold big; omega, by unfold big; omega⟩,
   (numR_rt big).fwd t.sq _ ⟨by omega, by unfold big; omega, by unfold big; omega⟩, (numR_rt idMax).fwd t.cu _ ⟨by omega, by unfold big; omega, by unfold idMax; omega⟩]
  exact okR_ok rfl
 bck r h := by
  have h0 := tokR_sk.err h
  unfold tokR at h ⊢
  simp only at h ⊢
  rw [okR_ok' h]
  simp only [okR_snd] at h ⊢
  obtain ⟨e3, a4, b4⟩ := (numR_rt idMax).bck _ h
  obtain ⟨e2, a3, b3⟩ := (numR_rt big).bck _ e3
  obtain ⟨e1, a2, b2⟩ := (fromR_rt 1 big).bck _ e2
  obtain ⟨-, a1, b1⟩ := (numR_rt 5).bck _ e1
  have hok : tokOk ⟨(numR 5 r).1, _, _, _⟩ = true := decide_eq_true ⟨a1.1, by have := a1.2.2; simp only; omega, a2.2.1, a2.2.2.1, a3.1, a3.2.1, a4.1, a4.2.2⟩
  refine ⟨h0, hok, ?_⟩
  rw [tokB, if_pos hok]
  simp only [List.append_assoc]
  rw [← b4, ← b3, ← b2]
  exact b1
end Go.Proofs.YtfbodefnblpflaaGreatDoor
end

section
namespace Go.Proofs.YtfbodefnblpflaaGreatDoor
section
variable {α : Type} {f : RD → α × RD} {ok : α → Prop} {w : α → BL}
theorem listR_stk (k : Nat) (x : List α × RD) (h : x.2.e ≠ 0) : listR f k x = x := by
 cases k
 ·rfl
 ·rw [listR, if_neg h]
theorem listR_sfx (hs : Sk f) : ∀ (k : Nat) (x : List α × RD), (listR f k x).2.l <:+ x.2.l
 | 0, _ => List.suffix_refl _
 | k + 1, x => by
  rw [listR]
  split
  ·exact (listR_sfx hs k _).trans (hs.sfx _)
  ·exact List.suffix_refl _
theorem listR_err {k : Nat} {x : List α × RD} (h : (listR f k x).2.e = 0) : x.2.e = 0 := by
 by_cases h0 : x.2.e = 0
 ·exact h0
 ·rw [listR_stk k x h0] at h; exact h
theorem Rt.list_fwd (h : Rt f ok w) (rest : BL) : ∀ (l acc : List α), (∀ x, x ∈ l → ok x) → listR f l.length (acc, ⟨(l.map w).flatten ++ rest, 0⟩) = (acc ++ l, ⟨rest, 0⟩)
 | [], acc, _ => by simp [listR]
 | x :: l, acc, ho => by
  rw [List.length_cons, listR, if_pos rfl, List.map_cons, List.flatten_cons, List.append_assoc]
  simp only [h.fwd x _ (ho x (by simp))]
  rw [h.list_fwd rest l _ fun y hy => ho y (by simp [hy])]
  simp
theorem Rt.list_bck (h : Rt f ok w) : ∀ (k : Nat) (x : List α × RD), (listR f k x).2.e = 0 → ∃ l, (listR f k x).1 = x.1 ++ l ∧ l.length = k ∧ (∀ y, y ∈ l → ok y) ∧ x.2.l = (l.map w).flatten ++ (listR f k x).2.l
 | 0, x, _ => ⟨[], by simp [listR], rfl, by simp, by simp [listR]⟩
 | k + 1, x, hx => by
  have h0 := listR_err hx
  rw [listR, if_pos h0] at hx ⊢
  obtain ⟨l, h1, h2, h3, h4⟩ := h.list_bck k _ hx
  have h5 := listR_err hx
  obtain ⟨-, b1, b2⟩ := h.bck _ h5
  refine ⟨(f x.2).1 :: l, by rw [h1]; simp, by simp [h2], ?_, ?_⟩
  ·intro y hy
   rcases List.mem_cons.1 hy with rfl | hy
   ·exact b1
   ·exact h3 y hy
  ·rw [List.map_cons, List.flatten_cons, List.append_assoc, ← h4]; exact b2
end
section
variable {c : Prop} [Decidable c] {e : Int} {r : RD} {l : BL}
theorem failC_stk (h : r.e ≠ 0) : (if c then failR e r else r) = r := by
 split
 ·exact failR_stk h
 ·rfl
theorem failC_sfx (h : r.l <:+ l) : (if c then failR e r else r).l <:+ l := by
 split
 ·rw [failR_l]; exact h
 ·exact h
theorem failC_stk' (h : r.e ≠ 0) : (if c then r else failR e r) = r := by
 split
 ·rfl
 ·exact failR_stk h
theorem failC_sfx' (h : r.l <:+ l) : (if c then r else failR e r).l <:+ l := by
 split
 ·exact h
 ·rw [failR_l]; exact h
theorem failN_err (he : e ≠ 0) (h : (if c then r else failR e r).e = 0) : c ∧ (if c then r else failR e r) = r := by
 by_cases k : c
 ·exact ⟨k, if_pos k⟩
 ·rw [if_neg k] at h; exact absurd h (failR_ne he _)
theorem failC_err (he : e ≠ 0) (h : (if c then failR e r else r).e = 0) : ¬ c ∧ (if c then failR e r else r) = r := by
 by_cases k : c
 ·rw [if_pos k] at h; exact absurd h (failR_ne he _)
 ·exact ⟨k, if_neg k⟩
end
def okN (x : ND) : Prop := (1 ≤ x.op ∧ x.op ≤ 12) ∧ (if opN x.op = true then 0 ≤ x.n ∧ x.n ≤ mostN x.op else x.n = 0) ∧ (if opV x.op = true then vaOk x.v = true else x.v = va0) ∧ (opV x.op = true → ndOk x = true)
theorem okN_of {x : ND} (h : ndOk x = true) : okN x := by
 unfold okN
 refine ⟨?_, ?_, ?_, fun _ => h⟩
 all_goals
  unfold ndOk at h
  try simp only [opN, opV, mostN, decide_eq_true_eq]
  grind
theorem nodeR_sk : Sk nodeR := by
 refine ⟨fun r h => ?_, fun r => ?_⟩
 ·unfold nodeR
  simp only [(fromR_sk 1 12).stk r h]
  rw [((numR_sk _).cond 0 _).stk r h, (valR_sk.cond va0 _).stk r h]
  exact failC_stk h
 ·unfold nodeR
  simp only
  have := ((valR_sk.cond va0 (opV (fromR 1 12 r).1)).sfx _).trans ((((numR_sk (mostN (fromR 1 12 r).1)).cond 0 (opN (fromR 1 12 r).1)).sfx _).trans ((fromR_sk 1 12).sfx r))
  exact failC_sfx this
theorem mostN_le (op : Int) : mostN op ≤ 15 := by unfold mostN; split <;> (try split) <;> omega
theorem nodeR_rt : Rt nodeR okN nodeB where
 fwd x l h := by
  obtain ⟨h1, h2, h3, h4⟩ := h
  have hm := mostN_le x.op
  unfold nodeB nodeR
  simp only [List.append_assoc, (fromR_rt 1 12).fwd x.op _ ⟨by omega, h1.1, by unfold big; omega, h1.2⟩]
  rw [((numR_rt (mostN x.op)).cond 0 (opN x.op)).fwd x.n _ (by
   cases hg : opN x.op <;> rw [hg] at h2 <;> simp only [Bool.false_eq_true, if_false, if_true] at h2 ⊢
   ·exact h2
   ·exact ⟨h2.1, by unfold big; omega, h2.2⟩)]
  simp only
  rw [(valR_rt.cond va0 (opV x.op)).fwd x.v l h3]
  rw [if_neg (fun hc => by rw [h4 hc.1] at hc; cases hc.2)]
 bck r h := by
  have h0 := nodeR_sk.err h
  unfold nodeR at h ⊢
  simp only at h ⊢
  obtain ⟨hc, hx⟩ := failC_err (by decide) h
  rw [hx] at h ⊢
  ·clear hx
   obtain ⟨e2, a3, b3⟩ := (valR_rt.cond va0 _).bck _ h
   obtain ⟨e1, a2, b2⟩ := ((numR_rt _).cond 0 _).bck _ e2
   obtain ⟨-, a1, b1⟩ := (fromR_rt 1 12).bck _ e1
   generalize (if opN (fromR 1 12 r).1 = true then numR (mostN (fromR 1 12 r).1) (fromR 1 12 r).2 else (0, (fromR 1 12 r).2)) = G at *
   generalize (if opV (fromR 1 12 r).1 = true then valR G.2 else (va0, G.2)) = I at *
   refine ⟨h0, ⟨⟨a1.2.1, a1.2.2.2⟩, ?_, a3, fun hv => ?_⟩, ?_⟩
   ·simp only
    split at a2
    ·rename_i c; rw [if_pos c]; exact ⟨a2.1, a2.2.2⟩
    ·rename_i c; rw [if_neg c]; exact a2
   ·exact Classical.byContradiction fun hn => hc ⟨hv, by simpa using hn⟩
   ·unfold nodeB
    simp only [List.append_assoc]
    rw [← b3, ← b2]
    exact b1
theorem predErr_iff (l : List ND) : predErr l = 0 ↔ l.length ≤ 31 ∧ l ≠ [] ∧ endS l 0 = l.length ∧ l.all ndOk = true ∧ depthS l ≤ 8 := by
 unfold predErr
 by_cases h1 : 31 < l.length
 ·rw [if_pos h1]
  constructor
  ·intro h; cases h
  ·intro h; omega
 ·rw [if_neg h1]
  by_cases h2 : l = [] ∨ endS l 0 ≠ l.length ∨ l.all ndOk = false
  ·rw [if_pos h2]
   constructor
   ·intro h; cases h
   ·rintro ⟨_, k1, k2, k3, _⟩
    rcases h2 with hc | hc | hc
    ·exact absurd hc k1
    ·exact absurd k2 hc
    ·rw [k3] at hc; cases hc
  ·rw [if_neg h2]
   by_cases h3 : 8 < depthS l
   ·rw [if_pos h3]
    constructor
    ·intro h; cases h
    ·rintro ⟨_, _, _, _, k⟩; exact absurd h3 (Nat.not_lt.2 k)
   ·rw [if_neg h3]
    refine ⟨fun _ => ⟨Nat.le_of_not_lt h1, fun h => h2 (.inl h), Classical.byContradiction fun h => h2 (.inr (.inl h)), ?_, Nat.le_of_not_lt h3⟩, fun _ => rfl⟩
    cases h : l.all ndOk
    ·exact absurd (.inr (.inr h)) h2
    ·rfl
theorem predErr_cases (l : List ND) : predErr l = 0 ∨ predErr l = 1 ∨ predErr l = 4 ∨ predErr l = 5 := by
 unfold predErr
 by_cases h1 : 31 < l.length
 ·simp [h1]
 ·by_cases h2 : l = [] ∨ endS l 0 ≠ l.length ∨ l.all ndOk = false
  ·rw [if_neg h1, if_pos h2]; simp
  ·rw [if_neg h1, if_neg h2]
   by_cases h3 : 8 < depthS l
   ·rw [if_pos h3]; simp
   ·rw [if_neg h3]; simp
theorem predR_sk : Sk predR := by
 refine ⟨fun r h => ?_, fun r => ?_⟩
 ·unfold predR
  simp only [(fromR_sk 1 31).stk r h]
  rw [listR_stk _ _ h, if_neg h]
 ·unfold predR
  simp only
  have := (listR_sfx nodeR_sk (fromR 1 31 r).1.toNat ([], (fromR 1 31 r).2)).trans ((fromR_sk 1 31).sfx r)
  split
  ·split
   ·exact this
   ·rw [failR_l]; exact this
  ·exact this
theorem predR_rt : Rt predR (fun l => predErr l = 0) predB where
 fwd x l h := by
  rw [predB, if_pos h]
  obtain ⟨h1, h2, h3, h4, h5⟩ := (predErr_iff x).1 h
  have hp := List.length_pos_iff.2 h2
  unfold predR
  simp only [List.append_assoc, (fromR_rt 1 31).fwd (x.length : Int) _ ⟨by omega, by omega, by unfold big; omega, by omega⟩, Int.toNat_natCast]
  rw [nodeR_rt.list_fwd l x [] fun y hy => okN_of (List.all_eq_true.1 h4 y hy)]
  rw [if_pos rfl, List.nil_append, if_pos h]
 bck r h := by
  have h0 := predR_sk.err h
  unfold predR at h ⊢
  simp only at h ⊢
  by_cases e2 : (listR nodeR (fromR 1 31 r).1.toNat ([], (fromR 1 31 r).2)).2.e = 0
  ·rw [if_pos e2] at h ⊢
   obtain ⟨x, c1, c2, c3, c4⟩ := nodeR_rt.list_bck _ _ e2
   obtain ⟨-, a1, b1⟩ := (fromR_rt 1 31).bck _ (listR_err e2)
   rw [List.nil_append] at c1
   by_cases hp : predErr (listR nodeR (fromR 1 31 r).1.toNat ([], (fromR 1 31 r).2)).1 = 0
   ·rw [if_pos hp]
    refine ⟨h0, hp, ?_⟩
    rw [predB, if_pos hp, c1, c2, Int.toNat_of_nonneg a1.1, List.append_assoc, ← c4]
    exact b1
   ·rw [if_neg hp] at h
    refine absurd h (failR_ne ?_ _)
    rcases predErr_cases (listR nodeR (fromR 1 31 r).1.toNat ([], (fromR 1 31 r).2)).1 with q | q | q | q
    ·exact absurd q hp
    ·rw [q]; decide
    ·rw [q]; decide
    ·rw [q]; decide
  ·rw [if_neg e2] at h; exact absurd h e2
theorem repR_sk : Sk repR := by
 refine ⟨fun r h => ?_, fun r => ?_⟩
 ·unfold repR
  simp only [okR_snd]
  rw [(fromR_sk 2 4).stk r h, (numR_sk 5).stk r h, (fromR_sk 1 big).stk r h, (numR_sk 16).stk r h]
  rw [((numR_sk big).cond 0 _).stk r h, ((fromR_sk 1 (idMax - 1)).cond 0 _).stk r h, ((fromR_sk 1 big).cond 0 _).stk r h, ((fromR_sk 1 big).cond 0 _).stk r h, (predR_sk.cond [] _).stk r h, ((numR_sk 511).cond 0 _).stk r h]
 ·unfold repR
  simp only [okR_snd]
  exact (((numR_sk 511).cond 0 _).sfx _).trans (((predR_sk.cond [] _).sfx _).trans ((((fromR_sk 1 big).cond 0 _).sfx _).trans ((((fromR_sk 1 big).cond 0 _).sfx _).trans ((((fromR_sk 1 (idMax - 1)).cond 0 _).sfx _).trans ((((numR_sk big).cond 0 _).sfx _).trans (((numR_sk 16).sfx _).trans (((fromR_sk 1 big).sfx _).trans (((numR_sk 5).sfx _).trans ((fromR_sk 2 4).sfx r)))))))))
theorem u32_zero {x : UInt32} : x = 0 ↔ x.toNat = 0 := ⟨fun h => by rw [h]; rfl, fun h => UInt32.toNat_inj.1 (by rw [h]; rfl)⟩
theorem repR_rt : Rt repR (fun a => repOk a = true) repB where
 fwd a l h := by
  rw [repB, if_pos h]
  obtain ⟨q1, q2, q3, q4, q5, q6, q7, q8, q9, q10, q11, q12, q13⟩ := of_decide_eq_true h
  have hb : big = 1099511627776 := rfl
  have hi : idMax = 1073741824 := rfl
  unfold repR
  simp only [List.append_assoc, (fromR_rt 2 4).fwd a.kd _ ⟨by omega, q1, by omega, q2⟩, (numR_rt 5).fwd a.dev _ ⟨q3, by omega, by omega⟩, (fromR_rt 1 big).fwd a.req _ ⟨by omega, q5, q6, q6⟩, (numR_rt 16).fwd a.code _ ⟨q7, by omega, q8⟩]
  obtain ⟨kd, dev, req, code, id, ver, sq, ep, fl, mask⟩ := a
  simp only at *
  by_cases hc : code = 0
  ·subst hc
   simp only [true_and, if_true, decide_true, Bool.true_and, decide_eq_true_eq, ne_eq, not_true_eq_false, false_implies, List.append_assoc] at *
   simp only [(numR_rt big).fwd sq _ ⟨q9, q10, q10⟩]
   by_cases h2 : kd = 2
   ·subst h2
    simp only [if_true, show ¬ (2 : Int) = 3 by decide, if_false, List.append_assoc, List.nil_append] at *
    simp only [(fromR_rt 1 (idMax - 1)).fwd id _ ⟨by omega, q12.1, by omega, by omega⟩, (fromR_rt 1 big).fwd ver _ ⟨by omega, q12.2.2.1, q12.2.2.2, q12.2.2.2⟩]
    obtain ⟨r1, r2, r3⟩ := q13
    subst r1 r2 r3
    exact okR_ok rfl
   ·by_cases h3 : kd = 3
    ·subst h3
     simp only [if_true, show ¬ (3 : Int) = 2 by decide, if_false, List.append_assoc, List.nil_append] at *
     simp only [(fromR_rt 1 big).fwd ep _ ⟨by omega, q13.1, q13.2.1, q13.2.1⟩, predR_rt.fwd fl _ q13.2.2.1, (numR_rt 511).fwd (mask.toNat : Int) _ ⟨by omega, by omega, by omega⟩, u32_ofn]
     obtain ⟨r1, r2⟩ := q12
     subst r1 r2
     exact okR_ok rfl
    ·simp only [if_neg h2, if_neg h3, List.nil_append] at *
     obtain ⟨r1, r2⟩ := q12
     obtain ⟨r3, r4, r5⟩ := q13
     subst r1 r2 r3 r4 r5
     exact okR_ok rfl
  ·simp only [hc, false_and, if_false, List.nil_append, and_false, decide_false, Bool.false_and, Bool.false_eq_true, ne_eq, not_false_eq_true, forall_const] at *
   obtain ⟨r1, r2⟩ := q12
   obtain ⟨r3, r4, r5⟩ := q13
   subst r1 r2 r3 r4 r5 q11
   exact okR_ok rfl
 bck r h := by
  have h0 := repR_sk.err h
  unfold repR at h ⊢
  simp only at h ⊢
  rw [okR_ok' h]
  simp only [okR_snd] at h ⊢
  have hi : idMax = 1073741824 := rfl
  obtain ⟨e9, a10, b10⟩ := ((numR_rt 511).cond 0 _).bck _ h
  obtain ⟨e8, a9, b9⟩ := (predR_rt.cond [] _).bck _ e9
  obtain ⟨e7, a8, b8⟩ := ((fromR_rt 1 big).cond 0 _).bck _ e8
  obtain ⟨e6, a7, b7⟩ := ((fromR_rt 1 big).cond 0 _).bck _ e7
  obtain ⟨e5, a6, b6⟩ := ((fromR_rt 1 (idMax - 1)).cond 0 _).bck _ e6
  obtain ⟨e4, a5, b5⟩ := ((numR_rt big).cond 0 _).bck _ e5
  obtain ⟨e3, a4, b4⟩ := (numR_rt 16).bck _ e4
  obtain ⟨e2, a3, b3⟩ := (fromR_rt 1 big).bck _ e3
  obtain ⟨e1, a2, b2⟩ := (numR_rt 5).bck _ e2
  obtain ⟨-, a1, b1⟩ := (fromR_rt 2 4).bck _ e1
  generalize fromR 2 4 r = K at *
  generalize numR 5 K.2 = D at *
  generalize fromR 1 big D.2 = Q at *
  generalize numR 16 Q.2 = C at *
  simp only [e4, true_and] at a10 b10 a9 b9 a8 b8 a7 b7 a6 b6 a5 b5 h ⊢
  generalize (if decide (C.1 = 0) = true then numR big C.2 else (0, C.2)) = S at *
  generalize (if (decide (C.1 = 0) && decide (K.1 = 2)) = true then fromR 1 (idMax - 1) S.2 else (0, S.2)) = I at *
  generalize (if (decide (C.1 = 0) && decide (K.1 = 2)) = true then fromR 1 big I.2 else (0, I.2)) = V at *
  generalize (if (decide (C.1 = 0) && decide (K.1 = 3)) = true then fromR 1 big V.2 else (0, V.2)) = E at *
  generalize (if (decide (C.1 = 0) && decide (K.1 = 3)) = true then predR E.2 else ([], E.2)) = F at *
  generalize (if (decide (C.1 = 0) && decide (K.1 = 3)) = true then numR 511 F.2 else (0, F.2)) = M at *
  have hM : 0 ≤ M.1 ∧ M.1 ≤ 511 := by
   split at a10
   ·exact ⟨a10.1, a10.2.2⟩
   ·omega
  have hm := u32_toN hM.1 (by omega)
  have hok : repOk ⟨K.1, D.1, Q.1, C.1, I.1, V.1, S.1, E.1, F.1, UInt32.ofNat M.1.toNat⟩ = true := by
   refine decide_eq_true ⟨a1.2.1, a1.2.2.2, a2.1, by have := a2.2.2; simp only; omega, a3.2.1, a3.2.2.1, a4.1, a4.2.2, ?_, ?_, ?_, ?_, ?_⟩
   ·simp only; split at a5 <;> omega
   ·simp only; split at a5
    ·exact a5.2.1
    ·rw [a5]; decide
   ·intro hc; simp only at hc ⊢; rw [if_neg (by simpa using hc)] at a5; exact a5
   ·simp only [Bool.and_eq_true, decide_eq_true_eq] at a6 a7 ⊢
    split
    ·rename_i c; rw [if_pos c] at a6 a7; exact ⟨a6.2.1, by have := a6.2.2.2; omega, a7.2.1, a7.2.2.1⟩
    ·rename_i c; rw [if_neg c] at a6 a7; exact ⟨a6, a7⟩
   ·simp only [Bool.and_eq_true, decide_eq_true_eq] at a8 a9 a10 ⊢
    split
    ·rename_i c; rw [if_pos c] at a8 a9; exact ⟨a8.2.1, a8.2.2.1, a9, by omega⟩
    ·rename_i c; rw [if_neg c] at a8 a9 a10; exact ⟨a8, a9, by rw [a10]; rfl⟩
  refine ⟨h0, hok, ?_⟩
  rw [repB, if_pos hok]
  simp only [hm, List.append_assoc]
  rw [b1, b2, b3, b4, b5, b6, b7, b8, b9, b10]
  by_cases hc : C.1 = 0 <;> by_cases h2 : K.1 = 2 <;> by_cases h3 : K.1 = 3
  all_goals simp [hc, h2, h3]
end Go.Proofs.YtfbodefnblpflaaGreatDoor
end

section
namespace Go.Proofs.YtfbodefnblpflaaGreatDoor
def okI (x : IT) : Prop := (x.kd = 1 ∨ x.kd = 2 ∨ x.kd = 3) ∧ (if x.kd = 2 then 0 ≤ x.c.id ∧ x.c.id ≤ idMax - 1 ∧ x.c = { ca0 with id := x.c.id } else cardOk x.c = true)
theorem itemR_sk : Sk itemR := by
 refine ⟨fun r h => ?_, fun r => ?_⟩
 ·unfold itemR
  simp only [(fromR_sk 1 3).stk r h]
  split
  ·exact (numR_sk _).stk r h
  ·exact cardR_sk.stk r h
 ·unfold itemR
  simp only
  split
  ·exact ((numR_sk _).sfx _).trans ((fromR_sk 1 3).sfx r)
  ·exact (cardR_sk.sfx _).trans ((fromR_sk 1 3).sfx r)
theorem itemR_rt : Rt itemR okI itemB where
 fwd x l h := by
  obtain ⟨h1, h2⟩ := h
  have hi : idMax = 1073741824 := rfl
  unfold itemB itemR
  simp only [List.append_assoc, (fromR_rt 1 3).fwd x.kd _ ⟨by omega, by omega, by unfold big; omega, by omega⟩]
  by_cases k : x.kd = 2
  ·rw [if_pos k] at h2 ⊢
   rw [if_pos k]
   rw [(numR_rt (idMax - 1)).fwd x.c.id l ⟨h2.1, by unfold big; omega, h2.2.1⟩]
   simp only
   rw [← h2.2.2]
  ·rw [if_neg k] at h2 ⊢
   rw [if_neg k]
   rw [cardR_rt.fwd x.c l h2]
 bck r h := by
  have h0 := itemR_sk.err h
  unfold itemR at h ⊢
  simp only at h ⊢
  by_cases k : (fromR 1 3 r).1 = 2
  ·simp only [if_pos k] at h ⊢
   obtain ⟨e1, a2, b2⟩ := (numR_rt (idMax - 1)).bck _ h
   obtain ⟨-, a1, b1⟩ := (fromR_rt 1 3).bck _ e1
   refine ⟨h0, ⟨.inr (.inl k), ?_⟩, ?_⟩
   ·simp only [if_pos k]
    exact ⟨a2.1, a2.2.2, trivial⟩
   ·unfold itemB
    simp only [if_pos k, List.append_assoc]
    rw [← b2]; exact b1
  ·simp only [if_neg k] at h ⊢
   obtain ⟨e1, a2, b2⟩ := cardR_rt.bck _ h
   obtain ⟨-, a1, b1⟩ := (fromR_rt 1 3).bck _ e1
   refine ⟨h0, ⟨by simp only; omega, ?_⟩, ?_⟩
   ·simp only [if_neg k]; exact a2
   ·unfold itemB
    simp only [if_neg k, List.append_assoc]
    rw [← b2]; exact b1
theorem okI_of {last : Int} {x : IT} (h0 : 0 ≤ last) (h : itOk last x = true) : okI x := by
 rw [itOk, Bool.and_eq_true, decide_eq_true_eq] at h
 obtain ⟨⟨h1, h2, h3⟩, h4⟩ := h
 unfold okI
 by_cases k : x.kd = 2
 ·rw [if_neg (by omega), if_pos k, decide_eq_true_eq] at h4
  rw [if_pos k]
  exact ⟨.inr (.inl k), by omega, by omega, h4⟩
 ·by_cases k2 : x.kd = 1 ∨ x.kd = 3
  ·rw [if_pos k2] at h4
   rw [if_neg k]
   exact ⟨by omega, h4⟩
  ·rw [if_neg k2, if_neg k] at h4; cases h4
theorem okI_all : ∀ {l : List IT} {last : Int}, 0 ≤ last → itemsOk last l = true → ∀ x, x ∈ l → okI x
 | [], _, _, _ => by simp
 | y :: l, last, h0, h => by
  rw [itemsOk, Bool.and_eq_true] at h
  have h1 := h.1
  rw [itOk, Bool.and_eq_true, decide_eq_true_eq] at h1
  intro x hx
  rcases List.mem_cons.1 hx with rfl | hx
  ·exact okI_of h0 h.1
  ·exact okI_all (by omega) h.2 x hx
theorem pageR_sk : Sk pageR := by
 refine ⟨fun r h => ?_, fun r => ?_⟩
 ·unfold pageR
  simp only [okR_snd]
  rw [(numR_sk 16).stk r h, tokR_sk.stk r h]
  rw [(flagR_sk.cond false _).stk r h, (tokR_sk.cond tk0 _).stk r h]
  rw [((numR_sk 16).cond 0 _).stk r h]
  rw [listR_stk _ _ (by exact h)]
  exact failC_stk' h
 ·unfold pageR
  simp only [okR_snd]
  exact failC_sfx' ((listR_sfx itemR_sk _ _).trans ((((numR_sk 16).cond 0 _).sfx _).trans (((tokR_sk.cond tk0 _).sfx _).trans (((flagR_sk.cond false _).sfx _).trans ((tokR_sk.sfx _).trans ((numR_sk 16).sfx r))))))
theorem pageOk_iff (p : PG) : pageOk p = true ↔ tokOk p.fr = true ∧ (if p.code ≠ 0 then 1 ≤ p.code ∧ p.code ≤ 16 ∧ p.reset = false ∧ p.to = tk0 ∧ p.items = []
  else if p.reset = true then p.items = [] ∧ tokOk p.to = true ∧ p.to.dev = p.fr.dev ∧ p.to.cu = 0 else tokGo p.fr p.to = true ∧ itemsOk 0 p.items = true ∧ p.items.length ≤ 16) := by
 unfold pageOk
 rw [Bool.and_eq_true]
 by_cases h1 : p.code ≠ 0
 ·simp only [if_pos h1, decide_eq_true_eq]
 ·simp only [if_neg h1]
  by_cases h2 : p.reset = true
  ·simp only [if_pos h2, Bool.and_eq_true, decide_eq_true_eq, and_assoc]
  ·simp only [if_neg h2, Bool.and_eq_true, decide_eq_true_eq, and_assoc]
theorem tokGo_to {a b : TO} (h : tokGo a b = true) : tokOk b = true := by
 rw [tokGo, Bool.and_eq_true, Bool.and_eq_true] at h; exact h.1.2
theorem pageR_rt : Rt pageR (fun p => pageOk p = true) pageB where
 fwd p l h := by
  rw [pageB, if_pos h]
  obtain ⟨h1, h2⟩ := (pageOk_iff p).1 h
  have hb : big = 1099511627776 := rfl
  unfold pageR
  obtain ⟨code, reset, fr, to, items⟩ := p
  simp only at *
  by_cases hc : code = 0
  ·subst hc
   simp only [ne_eq, not_true_eq_false, if_false] at h2
   simp only [if_true, List.append_assoc]
   simp only [(numR_rt 16).fwd 0 _ ⟨by decide, by decide, by decide⟩, tokR_rt.fwd fr _ h1, true_and, decide_true, if_true, flagR_rt.fwd reset _ trivial]
   by_cases hr : reset = true
   ·subst hr
    simp only [if_true, List.nil_append] at h2 ⊢
    simp only [tokR_rt.fwd to _ h2.2.1, Bool.not_true, Bool.and_false, Bool.false_eq_true, if_false]
    obtain ⟨rfl, -⟩ := h2
    simp only [Int.toNat_zero, listR, h, if_true]
    exact okR_ok rfl
   ·have hrf : reset = false := by simpa using hr
    subst hrf
    simp only [Bool.false_eq_true, if_false, List.append_assoc] at h2 ⊢
    simp only [tokR_rt.fwd to _ (tokGo_to h2.1), decide_true, Bool.not_false, Bool.and_true, if_true, (numR_rt 16).fwd (items.length : Int) _ ⟨by omega, by omega, by omega⟩, Int.toNat_natCast, itemR_rt.list_fwd l items [] (okI_all (by decide) h2.2.1), List.nil_append, h]
    exact okR_ok rfl
  ·simp only [ne_eq, hc, not_false_eq_true, if_true, if_false, List.append_nil, List.append_assoc] at h2 ⊢
   simp only [(numR_rt 16).fwd code _ ⟨by omega, by omega, h2.2.1⟩, tokR_rt.fwd fr _ h1, hc, and_false, decide_false, Bool.false_and, Bool.false_eq_true, if_false, Int.toNat_zero, listR]
   obtain ⟨_, _, rfl, rfl, rfl⟩ := h2
   simp only [h, if_true]
   exact okR_ok rfl
 bck r h := by
  have h0 := pageR_sk.err h
  unfold pageR at h ⊢
  simp only at h ⊢
  rw [okR_ok' h]
  simp only [okR_snd] at h ⊢
  obtain ⟨hp, hx⟩ := failN_err (by decide) h
  rw [hx] at h ⊢
  clear hx
  refine ⟨h0, hp, ?_⟩
  rw [pageB, if_pos hp]
  have e5 := listR_err h
  simp only at e5
  obtain ⟨x, c1, c2, c3, c4⟩ := itemR_rt.list_bck _ _ h
  rw [List.nil_append] at c1
  simp only at c4
  obtain ⟨h1, h2⟩ := (pageOk_iff _).1 hp
  simp only at h1 h2 ⊢
  generalize listR itemR _ _ = L at h c1 c4 h2 hp ⊢
  subst c1
  have eC : (tokR (numR 16 r).2).2.e = 0 := (flagR_sk.cond false _).err ((tokR_sk.cond tk0 _).err (((numR_sk 16).cond 0 _).err e5))
  obtain ⟨e1, a2, b2⟩ := tokR_rt.bck _ eC
  obtain ⟨-, a1, b1⟩ := (numR_rt 16).bck _ e1
  rw [b1, b2]
  generalize numR 16 r = C at *
  generalize tokR C.2 = F at *
  simp only [eC, true_and] at *
  by_cases hc : C.1 = 0
  ·simp only [hc, decide_true, if_true, ne_eq, not_true_eq_false, if_false, Bool.true_and] at *
   have ht : (tokR (flagR F.2).2).2.e = 0 := ((numR_sk 16).cond 0 _).err e5
   obtain ⟨e3, a4, b4⟩ := tokR_rt.bck _ ht
   obtain ⟨-, a3, b3⟩ := flagR_rt.bck _ e3
   rw [b3, b4]
   generalize flagR F.2 = S at *
   generalize tokR S.2 = T at *
   simp only [ht, decide_true, Bool.true_and] at *
   cases hr : S.1
   ·simp only [hr, Bool.false_eq_true, if_false, if_true, Bool.not_false] at *
    obtain ⟨-, a5, b5⟩ := (numR_rt 16).bck _ e5
    rw [b5, c4, c2, Int.toNat_of_nonneg a5.1]
    simp
   ·simp only [hr, if_true, Bool.not_true, Bool.false_eq_true, if_false, Int.toNat_zero] at *
    rw [h2.1] at c4
    rw [c4]
    simp
  ·simp only [hc, decide_false, Bool.false_eq_true, Bool.false_and, if_false, ne_eq, not_false_eq_true, if_true, Int.toNat_zero] at *
   rw [h2.2.2.2.2] at c4
   rw [c4]
   simp
end Go.Proofs.YtfbodefnblpflaaGreatDoor
end

section
namespace Go.Proofs.YtfbodefnblpflaaGreatDoor
class LB (l : BL) (k : outParam Nat) : Prop where
 h : l.length ≤ k
theorem numB_len (n : Int) : (numB n).length ≤ 6 := numF_len 5 _
instance {n : Int} : LB (numB n) 6 := ⟨numB_len n⟩
instance {a b : BL} {i j : Nat} [h : LB a i] [k : LB b j] : LB (a ++ b) (i + j) := ⟨by have := h.h; have := k.h; rw [List.length_append]; omega⟩
instance : LB [] 0 := ⟨Nat.le_refl _⟩
instance {c : Prop} [Decidable c] {a b : BL} {i j : Nat} [h : LB a i] [k : LB b j] : LB (if c then a else b) (i + j) := ⟨by have := h.h; have := k.h; split <;> omega⟩
instance {b : Bool} : LB (flagB b) 6 := ⟨numB_len _⟩
instance {v : VA} : LB (valB v) 36 := ⟨by
 have h1 := numB_len v.kd
 have h2 := numB_len v.n
 unfold valB
 split
 ·rename_i h
  rw [vaOk_iff] at h
  have h3 := numB_len ((bl v.s).length : Int)
  simp only [List.length_append]
  split
  ·omega
  ·split
   ·rename_i h5
    have : v.s.size ≤ 24 := by omega
    have e : (bl v.s).length = v.s.size := rfl
    simp only [strB, List.length_append]
    omega
   ·simp only [List.length_nil]; omega
 ·simp⟩
theorem fieldsB_len (m : Nat) (f : F8) : ∀ k, (fieldsB m f k).length ≤ 36 * k
 | 0 => by simp [fieldsB]
 | k + 1 => by
  have ih := fieldsB_len m f k
  have := (inferInstance : LB (valB (f.get (7 - k))) 36).h
  simp only [fieldsB, List.length_append]
  split
  ·omega
  ·simp only [List.length_nil]; omega
instance {m : Nat} {f : F8} : LB (fieldsB m f 8) 288 := ⟨fieldsB_len m f 8⟩
instance {p : PA} : LB (patchB p) 400 := ⟨by
 have h : LB (numB p.mask.toNat ++ (if bit p.mask.toNat 8 = true then numB p.lab.toNat else []) ++ fieldsB p.mask.toNat p.f 8) _ := inferInstance
 have h := h.h
 unfold patchB
 split
 ·omega
 ·simp⟩
instance {c : CA} : LB (cardB c) 400 := ⟨by
 have h : LB (numB c.id ++ numB c.ver ++ numB c.lab.toNat ++ numB (hasM c.f) ++ fieldsB (hasM c.f) c.f 8) _ := inferInstance
 have h := h.h
 unfold cardB
 split
 ·omega
 ·simp⟩
instance {e : ED} : LB (editB e) 500 := ⟨by
 have h : LB (numB e.kd ++ (if edG e.kd = true then numB e.gr else []) ++ (if edI e.kd = true then numB e.id else []) ++ (if edP e.kd = true then patchB e.p else [])) _ := inferInstance
 have h := h.h
 unfold editB
 split
 ·omega
 ·simp⟩
instance {t : TO} : LB (tokB t) 24 := ⟨by
 have h : LB (numB t.dev ++ numB t.ep ++ numB t.sq ++ numB t.cu) _ := inferInstance
 have h := h.h
 unfold tokB
 split
 ·omega
 ·simp⟩
instance {x : ND} : LB (nodeB x) 48 := ⟨by
 have h : LB (numB x.op) 6 := inferInstance
 have h2 : LB (if opN x.op = true then numB x.n else []) _ := inferInstance
 have h3 : LB (if opV x.op = true then valB x.v else []) _ := inferInstance
 have h := h.h
 have h2 := h2.h
 have h3 := h3.h
 unfold nodeB
 simp only [List.length_append]
 omega⟩
theorem flat_len {α : Type} {f : α → BL} {k : Nat} (h : ∀ x, (f x).length ≤ k) : ∀ l : List α, (l.map f).flatten.length ≤ k * l.length
 | [] => by simp
 | x :: l => by
  have := flat_len h l
  have := h x
  simp only [List.map_cons, List.flatten_cons, List.length_append, List.length_cons, Nat.mul_add]
  omega
theorem nodes_len (l : List ND) : (l.map nodeB).flatten.length ≤ 48 * l.length := flat_len (fun x => (inferInstance : LB (nodeB x) 48).h) l
instance {l : List ND} : LB (predB l) 1600 := ⟨by
 have h := nodes_len l
 have h1 := numB_len l.length
 unfold predB
 split
 ·rename_i hp
  have := (predErr_iff l).1 hp
  simp only [List.length_append]
  omega
 ·simp⟩
instance {a : RE} : LB (repB a) 1700 := ⟨by
 have h : LB (numB a.kd ++ numB a.dev ++ numB a.req ++ numB a.code ++ (if a.code = 0 then numB a.sq ++ (if a.kd = 2 then numB a.id ++ numB a.ver else []) ++ (if a.kd = 3 then numB a.ep ++ predB a.fl ++ numB a.mask.toNat else []) else [])) _ := inferInstance
 have h := h.h
 unfold repB
 split
 ·omega
 ·simp⟩
instance {x : IT} : LB (itemB x) 412 := ⟨by
 have h : LB (numB x.kd ++ (if x.kd = 2 then numB x.c.id else cardB x.c)) _ := inferInstance
 have h := h.h
 unfold itemB
 omega⟩
theorem items_len (l : List IT) : (l.map itemB).flatten.length ≤ 412 * l.length := flat_len (fun x => (inferInstance : LB (itemB x) 412).h) l
theorem page_items {p : PG} (hp : pageOk p = true) (hc : p.code = 0) (hr : ¬ p.reset = true) : p.items.length ≤ 16 := by
 have h := (pageOk_iff p).1 hp
 have h := h.2
 rw [if_neg (by omega), if_neg hr] at h
 exact h.2.2
instance {p : PG} : LB (pageB p) 7000 := ⟨by
 have h1 : LB (numB p.code ++ tokB p.fr) _ := inferInstance
 have h2 : LB (flagB p.reset ++ tokB p.to) _ := inferInstance
 have h3 := items_len p.items
 have h1 := h1.h
 have h2 := h2.h
 have h4 := numB_len p.items.length
 unfold pageB
 by_cases hp : pageOk p = true
 ·rw [if_pos hp]
  by_cases hc : p.code = 0
  ·rw [if_pos hc]
   by_cases hr : p.reset = true
   ·rw [if_pos hr]
    simp only [List.length_append, List.length_nil] at h1 h2 ⊢; omega
   ·have := page_items hp hc hr
    rw [if_neg hr]
    simp only [List.length_append] at h1 h2 ⊢; omega
  ·rw [if_neg hc]
   simp only [List.length_append, List.length_nil] at h1 h2 ⊢; omega
 ·rw [if_neg hp]; simp⟩
instance {c : CM} : LB (cmdB c) 3000 := ⟨by
 have h : LB (numB c.kd ++ (if c.kd = 1 then editB c.e else if c.kd = 5 then numB c.keep else numB c.dev ++ numB c.req ++ (if c.kd = 2 then numB c.id ++ numB c.base ++ patchB c.p else []) ++ (if c.kd = 3 then predB c.fl ++ numB c.mask.toNat else []))) _ := inferInstance
 have h := h.h
 unfold cmdB
 split
 ·omega
 ·simp⟩
theorem LB.le {l : BL} {k n : Nat} [h : LB l k] (hk : k ≤ n) : l.length ≤ n := Nat.le_trans h.h hk
class Sh (r : RD) : Prop where
 h : r.l.length ≤ 1000000
theorem Sh.sk {α : Type} {f : RD → α × RD} (hf : Sk f) {r : RD} [h : Sh r] : Sh (f r).2 := ⟨Nat.le_trans (hf.sfx r).length_le h.h⟩
instance {r : RD} {most : Int} [Sh r] : Sh (numR most r).2 := Sh.sk (numR_sk most)
instance {r : RD} {a b : Int} [Sh r] : Sh (fromR a b r).2 := Sh.sk (fromR_sk a b)
instance {r : RD} {most : Int} [Sh r] : Sh (strR most r).2 := Sh.sk (strR_sk most)
instance {r : RD} [Sh r] : Sh (flagR r).2 := Sh.sk flagR_sk
instance {r : RD} {e : Int} [h : Sh r] : Sh (failR e r) := ⟨by rw [failR_l]; exact h.h⟩
instance {r : RD} [Sh r] : Sh (valR r).2 := Sh.sk valR_sk
instance {r : RD} [Sh r] : Sh (cardR r).2 := Sh.sk cardR_sk
instance {r : RD} [Sh r] : Sh (patchR r).2 := Sh.sk patchR_sk
instance {r : RD} [Sh r] : Sh (mayR r).2 := Sh.sk mayR_sk
instance {r : RD} [Sh r] : Sh (editR r).2 := Sh.sk editR_sk
instance {r : RD} [Sh r] : Sh (tokR r).2 := Sh.sk tokR_sk
instance {r : RD} [Sh r] : Sh (nodeR r).2 := Sh.sk nodeR_sk
instance {r : RD} [Sh r] : Sh (predR r).2 := Sh.sk predR_sk
instance {r : RD} [Sh r] : Sh (itemR r).2 := Sh.sk itemR_sk
instance {r : RD} [Sh r] : Sh (repR r).2 := Sh.sk repR_sk
instance {r : RD} [Sh r] : Sh (pageR r).2 := Sh.sk pageR_sk
instance {c : Prop} [Decidable c] {r s : RD} [h : Sh r] [k : Sh s] : Sh (if c then r else s) := by
 split
 ·exact h
 ·exact k
end Go.Proofs.YtfbodefnblpflaaGreatDoor
end

section
namespace Go.Proofs.YtfbodefnblpflaaGreatDoor
inductive Lz (e : Nat) (xs : List (List MV)) : MV → Prop where
 | lst (t : Bool) : Lz e xs (.lst e xs t)
 | nil (h : xs = []) : Lz e xs .nils
theorem Lz.cell {e : Nat} {xs : List (List MV)} {m : MV} (h : Lz e xs m) : m.isCell = true := by cases h <;> rfl
theorem Lz.cells {e : Nat} {xs : List (List MV)} {m : MV} (h : Lz e xs m) : m.cells = [m] := by cases h <;> rfl
theorem Lz.weak {e : Nat} {xs : List (List MV)} {m : MV} (h : Lz e xs m) : Weak m (.lst e xs false) := by
 cases h with
 | lst t => cases t with
  | false => exact .same _
  | true => exact .tight _ _
 | nil h => subst h; exact .nil _ _
abbrev CM.k (c : CM) (f : MV) : List MV := .int .i64 c.kd :: .int .i64 c.e.kd :: .int .i64 c.e.id :: .int .i64 c.e.gr :: .int .u32 (c.e.p.mask.toNat : Int) :: .int .u32 (c.e.p.lab.toNat : Int) :: (fc c.e.p.f ++
 .int .i64 c.dev :: .int .i64 c.req :: .int .i64 c.id :: .int .i64 c.base :: .int .i64 c.keep :: .int .u32 (c.p.mask.toNat : Int) :: .int .u32 (c.p.lab.toNat : Int) :: (fc c.p.f ++ [f, .int .u32 (c.mask.toNat : Int)]))
abbrev RE.k (a : RE) (f : MV) : List MV := [.int .i64 a.kd, .int .i64 a.dev, .int .i64 a.req, .int .i64 a.code, .int .i64 a.id, .int .i64 a.ver, .int .i64 a.sq, .int .i64 a.ep, f, .int .u32 (a.mask.toNat : Int)]
abbrev PG.k (p : PG) (i : MV) : List MV := [.int .i64 p.code, .bool p.reset, .int .i64 p.fr.dev, .int .i64 p.fr.ep, .int .i64 p.fr.sq, .int .i64 p.fr.cu, .int .i64 p.to.dev, .int .i64 p.to.ep, .int .i64 p.to.sq, .int .i64 p.to.cu, i]
abbrev MS.k (m : MS) (f g i : MV) : List MV := .int .i64 m.kd :: .int .i64 m.size :: .int .i64 m.cmd.kd :: .int .i64 m.cmd.e.kd :: .int .i64 m.cmd.e.id :: .int .i64 m.cmd.e.gr :: .int .u32 (m.cmd.e.p.mask.toNat : Int) :: .int .u32 (m.cmd.e.p.lab.toNat : Int) :: (fc m.cmd.e.p.f ++
 .int .i64 m.cmd.dev :: .int .i64 m.cmd.req :: .int .i64 m.cmd.id :: .int .i64 m.cmd.base :: .int .i64 m.cmd.keep :: .int .u32 (m.cmd.p.mask.toNat : Int) :: .int .u32 (m.cmd.p.lab.toNat : Int) :: (fc m.cmd.p.f ++ f :: .int .u32 (m.cmd.mask.toNat : Int) ::
 .int .i64 m.tok.dev :: .int .i64 m.tok.ep :: .int .i64 m.tok.sq :: .int .i64 m.tok.cu ::
 .int .i64 m.rep.kd :: .int .i64 m.rep.dev :: .int .i64 m.rep.req :: .int .i64 m.rep.code :: .int .i64 m.rep.id :: .int .i64 m.rep.ver :: .int .i64 m.rep.sq :: .int .i64 m.rep.ep :: g :: .int .u32 (m.rep.mask.toNat : Int) ::
 .int .i64 m.page.code :: .bool m.page.reset :: .int .i64 m.page.fr.dev :: .int .i64 m.page.fr.ep :: .int .i64 m.page.fr.sq :: .int .i64 m.page.fr.cu :: .int .i64 m.page.to.dev :: .int .i64 m.page.to.ep :: .int .i64 m.page.to.sq :: .int .i64 m.page.to.cu :: i ::
 [.int .i64 m.code]))
theorem cm_iff {a b : CM} : a = b ↔ a.kd = b.kd ∧ a.e = b.e ∧ a.dev = b.dev ∧ a.req = b.req ∧ a.id = b.id ∧ a.base = b.base ∧ a.keep = b.keep ∧ a.p = b.p ∧ a.fl = b.fl ∧ a.mask = b.mask := by
 obtain ⟨a1, a2, a3, a4, a5, a6, a7, a8, a9, a10⟩ := a
 obtain ⟨b1, b2, b3, b4, b5, b6, b7, b8, b9, b10⟩ := b
 simp
theorem re_iff {a b : RE} : a = b ↔ a.kd = b.kd ∧ a.dev = b.dev ∧ a.req = b.req ∧ a.code = b.code ∧ a.id = b.id ∧ a.ver = b.ver ∧ a.sq = b.sq ∧ a.ep = b.ep ∧ a.fl = b.fl ∧ a.mask = b.mask := by
 obtain ⟨a1, a2, a3, a4, a5, a6, a7, a8, a9, a10⟩ := a
 obtain ⟨b1, b2, b3, b4, b5, b6, b7, b8, b9, b10⟩ := b
 simp
theorem pg_iff {a b : PG} : a = b ↔ a.code = b.code ∧ a.reset = b.reset ∧ a.fr = b.fr ∧ a.to = b.to ∧ a.items = b.items := by
 obtain ⟨a1, a2, a3, a4, a5⟩ := a
 obtain ⟨b1, b2, b3, b4, b5⟩ := b
 simp
theorem ms_iff {a b : MS} : a = b ↔ a.kd = b.kd ∧ a.size = b.size ∧ a.cmd = b.cmd ∧ a.tok = b.tok ∧ a.rep = b.rep ∧ a.page = b.page ∧ a.code = b.code := by
 obtain ⟨a1, a2, a3, a4, a5, a6, a7⟩ := a
 obtain ⟨b1, b2, b3, b4, b5, b6, b7⟩ := b
 simp
end Go.Proofs.YtfbodefnblpflaaGreatDoor
end

section
namespace Go.Proofs.YtfbodefnblpflaaGreatDoor
abbrev RE.c (a : RE) : List MV := a.k (.lst 5 (a.fl.map ND.c) false)
abbrev IT.ks (l : List IT) : List (List MV) := l.map fun x => .int .i64 x.kd :: .int .i64 x.c.id :: .int .i64 x.c.ver :: .int .u32 (x.c.lab.toNat : Int) :: fc x.c.f
abbrev PG.c (p : PG) : List MV := p.k (.lst 28 (IT.ks p.items) false)
abbrev CM.c (c : CM) : List MV := c.k (.lst 5 (c.fl.map ND.c) false)
def Views (σ : St) : List MV → List MV → Prop
 | [], [] => True
 | m :: ms, m' :: ms' => View σ m m' ∧ Views σ ms ms'
 | _, _ => False
theorem Views.same {σ : St} : ∀ ms : List MV, Views σ ms ms
 | [] => trivial
 | m :: ms => ⟨.same m, Views.same ms⟩
theorem Views.app {σ : St} : ∀ {a b c d : List MV}, Views σ a b → Views σ c d → Views σ (a ++ c) (b ++ d)
 | [], [], _, _, _, h => h
 | _ :: _, _ :: _, _, _, h, k => ⟨h.1, Views.app h.2 k⟩
theorem Views.len {σ : St} : ∀ {a b : List MV}, Views σ a b → a.length = b.length
 | [], [], _ => rfl
 | _ :: _, _ :: _, h => congrArg (· + 1) (Views.len h.2)
theorem Views.at {σ : St} : ∀ {a b : List MV}, Views σ a b → ∀ (i : Nat) (m m' : MV), a[i]? = some m → b[i]? = some m' → View σ m m'
 | _ :: _, _ :: _, h, 0, m, m', h1, h2 => by simp at h1 h2; subst h1 h2; exact h.1
 | _ :: _, _ :: _, h, i + 1, m, m', h1, h2 => by simp at h1 h2; exact h.2.at i m m' h1 h2
theorem View.aggL {σ : St} {ms ms' : List MV} (h : Views σ ms ms') (hc : ms'.all MV.isCell = true) : View σ (.agg ms) (.agg ms') :=
 .agg h.len (fun i m hm => List.all_eq_true.1 hc m (List.mem_of_getElem? hm)) h.at
theorem View.nils {σ : St} {e : Nat} {xs : List (List MV)} (h : xs = []) : View σ .nils (.lst e xs false) := by subst h; exact .nil e false
theorem fc_all {f : F8} {r : List MV} : (fc f ++ r).all MV.isCell = r.all MV.isCell := by rw [List.all_append, fc_cell, Bool.true_and]
theorem fc_assoc {f : F8} {a b : List MV} : (fc f ++ a) ++ b = fc f ++ (a ++ b) := List.append_assoc _ _ _
theorem u32z : ((UInt32.toNat 0 : Nat) : Int) = 0 := rfl
theorem RE.cell (a : RE) : a.c.all MV.isCell = true := rfl
theorem PG.cell (a : PG) : a.c.all MV.isCell = true := rfl
theorem CM.cell (c : CM) : c.c.all MV.isCell = true := by
 simp only [CM.c, CM.k, List.all_cons, List.all_append, fc_cell]; rfl
end Go.Proofs.YtfbodefnblpflaaGreatDoor
end
