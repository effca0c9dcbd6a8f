/- Parts of the proof, joined. Each part says what it proves, and under which conditions it does: those that its theorems name. -/
import Derived.Test.YtfbodefnblpflaaGreatDoorMbd
import Derived.Test.YtfbodefnblpflaaGreatDoorMbf
import Derived.Test.YtfbodefnblpflaaGreatDoorMbg
set_option linter.unusedVariables false
set_option linter.unusedSimpArgs false
set_option maxHeartbeats 4000000
section
namespace Go.Proofs.YtfbodefnblpflaaGreatDoor
def okI (x : IT) : Prop := (x.kd = 1 ∨ x.kd = 2 ∨ x.kd = 3) ∧ (if x.kd = 2 then 0 ≤ x.c.id ∧ x.c.id ≤ idMax - 1 ∧ x.c = { ca0 with id := x.c.id } else cardOk x.c = true)
theorem itemR_sk : Sk itemR := by
 refine ⟨fun r h => ?_, fun r => ?_⟩
 ·unfold itemR
  simp only [(fromR_sk 1 3).stk r h]
  split
  ·exact (numR_sk _).stk r h
  ·exact cardR_sk.stk r h
 ·unfold itemR
  simp only
  split
  ·exact ((numR_sk _).sfx _).trans ((fromR_sk 1 3).sfx r)
  ·exact (cardR_sk.sfx _).trans ((fromR_sk 1 3).sfx r)
theorem itemR_rt : Rt itemR okI itemB where
 fwd x l h := by
  obtain ⟨h1, h2⟩ := h
  have hi : idMax = 1073741824 := rfl
  unfold itemB itemR
  simp only [List.append_assoc, (fromR_rt 1 3).fwd x.kd _ ⟨by omega, by omega, by unfold big; omega, by omega⟩]
  by_cases k : x.kd = 2
  ·rw [if_pos k] at h2 ⊢
   rw [if_pos k]
   rw [(numR_rt (idMax - 1)).fwd x.c.id l ⟨h2.1, by unfold big; omega, h2.2.1⟩]
   simp only
   rw [← h2.2.2]
  ·rw [if_neg k] at h2 ⊢
   rw [if_neg k]
   rw [cardR_rt.fwd x.c l h2]
 bck r h := by
  have h0 := itemR_sk.err h
  unfold itemR at h ⊢
  simp only at h ⊢
  by_cases k : (fromR 1 3 r).1 = 2
  ·simp only [if_pos k] at h ⊢
   obtain ⟨e1, a2, b2⟩ := (numR_rt (idMax - 1)).bck _ h
   obtain ⟨-, a1, b1⟩ := (fromR_rt 1 3).bck _ e1
   refine ⟨h0, ⟨.inr (.inl k), ?_⟩, ?_⟩
   ·simp only [if_pos k]
    exact ⟨a2.1, a2.2.2, trivial⟩
   ·unfold itemB
    simp only [if_pos k, List.append_assoc]
    rw [← b2]; exact b1
  ·simp only [if_neg k] at h ⊢
   obtain ⟨e1, a2, b2⟩ := cardR_rt.bck _ h
   obtain ⟨-, a1, b1⟩ := (fromR_rt 1 3).bck _ e1
   refine ⟨h0, ⟨by simp only; omega, ?_⟩, ?_⟩
   ·simp only [if_neg k]; exact a2
   ·unfold itemB
    simp only [if_neg k, List.append_assoc]
    rw [← b2]; exact b1
theorem okI_of {last : Int} {x : IT} (h0 : 0 ≤ last) (h : itOk last x = true) : okI x := by
 rw [itOk, Bool.and_eq_true, decide_eq_true_eq] at h
 obtain ⟨⟨h1, h2, h3⟩, h4⟩ := h
 unfold okI
 by_cases k : x.kd = 2
 ·rw [if_neg (by omega), if_pos k, decide_eq_true_eq] at h4
  rw [if_pos k]
  exact ⟨.inr (.inl k), by omega, by omega, h4⟩
 ·by_cases k2 : x.kd = 1 ∨ x.kd = 3
  ·rw [if_pos k2] at h4
   rw [if_neg k]
   exact ⟨by omega, h4⟩
  ·rw [if_neg k2, if_neg k] at h4; cases h4
theorem okI_all : ∀ {l : List IT} {last : Int}, 0 ≤ last → itemsOk last l = true → ∀ x, x ∈ l → okI x
 | [], _, _, _ => by simp
 | y :: l, last, h0, h => by
  rw [itemsOk, Bool.and_eq_true] at h
  have h1 := h.1
  rw [itOk, Bool.and_eq_true, decide_eq_true_eq] at h1
  intro x hx
  rcases List.mem_cons.1 hx with rfl | hx
  ·exact okI_of h0 h.1
  ·exact okI_all (by omega) h.2 x hx
theorem pageR_sk : Sk pageR := by
 refine ⟨fun r h => ?_, fun r => ?_⟩
 ·unfold pageR
  simp only [okR_snd]
  rw [(numR_sk 16).stk r h, tokR_sk.stk r h]
  rw [(flagR_sk.cond false _).stk r h, (tokR_sk.cond tk0 _).stk r h]
  rw [((numR_sk 16).cond 0 _).stk r h]
  rw [listR_stk _ _ (by exact h)]
  exact failC_stk' h
 ·unfold pageR
  simp only [okR_snd]
  exact failC_sfx' ((listR_sfx itemR_sk _ _).trans ((((numR_sk 16).cond 0 _).sfx _).trans (((tokR_sk.cond tk0 _).sfx _).trans (((flagR_sk.cond false _).sfx _).trans ((tokR_sk.sfx _).trans ((numR_sk 16).sfx r))))))
theorem pageOk_iff (p : PG) : pageOk p = true ↔ tokOk p.fr = true ∧ (if p.code ≠ 0 then 1 ≤ p.code ∧ p.code ≤ 16 ∧ p.reset = false ∧ p.to = tk0 ∧ p.items = []
  else if p.reset = true then p.items = [] ∧ tokOk p.to = true ∧ p.to.dev = p.fr.dev ∧ p.to.cu = 0 else tokGo p.fr p.to = true ∧ itemsOk 0 p.items = true ∧ p.items.length ≤ 16) := by
 unfold pageOk
 rw [Bool.and_eq_true]
 by_cases h1 : p.code ≠ 0
 ·simp only [if_pos h1, decide_eq_true_eq]
 ·simp only [if_neg h1]
  by_cases h2 : p.reset = true
  ·simp only [if_pos h2, Bool.and_eq_true, decide_eq_true_eq, and_assoc]
  ·simp only [if_neg h2, Bool.and_eq_true, decide_eq_true_eq, and_assoc]
theorem tokGo_to {a b : TO} (h : tokGo a b = true) : tokOk b = true := by
 rw [tokGo, Bool.and_eq_true, Bool.and_eq_true] at h; exact h.1.2
theorem pageR_rt : Rt pageR (fun p => pageOk p = true) pageB where
 fwd p l h := by
  rw [pageB, if_pos h]
  obtain ⟨h1, h2⟩ := (pageOk_iff p).1 h
  have hb : big = 1099511627776 := rfl
  unfold pageR
  obtain ⟨code, reset, fr, to, items⟩ := p
  simp only at *
  by_cases hc : code = 0
  ·subst hc
   simp only [ne_eq, not_true_eq_false, if_false] at h2
   simp only [if_true, List.append_assoc]
   simp only [(numR_rt 16).fwd 0 _ ⟨by decide, by decide, by decide⟩, tokR_rt.fwd fr _ h1, true_and, decide_true, if_true, flagR_rt.fwd reset _ trivial]
   by_cases hr : reset = true
   ·subst hr
    simp only [if_true, List.nil_append] at h2 ⊢
    simp only [tokR_rt.fwd to _ h2.2.1, Bool.not_true, Bool.and_false, Bool.false_eq_true, if_false]
    obtain ⟨rfl, -⟩ := h2
    simp only [Int.toNat_zero, listR, h, if_true]
    exact okR_ok rfl
   ·have hrf : reset = false := by simpa using hr
    subst hrf
    simp only [Bool.false_eq_true, if_false, List.append_assoc] at h2 ⊢
    simp only [tokR_rt.fwd to _ (tokGo_to h2.1), decide_true, Bool.not_false, Bool.and_true, if_true, (numR_rt 16).fwd (items.length : Int) _ ⟨by omega, by omega, by omega⟩, Int.toNat_natCast, itemR_rt.list_fwd l items [] (okI_all (by decide) h2.2.1), List.nil_append, h]
    exact okR_ok rfl
  ·simp only [ne_eq, hc, not_false_eq_true, if_true, if_false, List.append_nil, List.append_assoc] at h2 ⊢
   simp only [(numR_rt 16).fwd code _ ⟨by omega, by omega, h2.2.1⟩, tokR_rt.fwd fr _ h1, hc, and_false, decide_false, Bool.false_and, Bool.false_eq_true, if_false, Int.toNat_zero, listR]
   obtain ⟨_, _, rfl, rfl, rfl⟩ := h2
   simp only [h, if_true]
   exact okR_ok rfl
 bck r h := by
  have h0 := pageR_sk.err h
  unfold pageR at h ⊢
  simp only at h ⊢
  rw [okR_ok' h]
  simp only [okR_snd] at h ⊢
  obtain ⟨hp, hx⟩ := failN_err (by decide) h
  rw [hx] at h ⊢
  clear hx
  refine ⟨h0, hp, ?_⟩
  rw [pageB, if_pos hp]
  have e5 := listR_err h
  simp only at e5
  obtain ⟨x, c1, c2, c3, c4⟩ := itemR_rt.list_bck _ _ h
  rw [List.nil_append] at c1
  simp only at c4
  obtain ⟨h1, h2⟩ := (pageOk_iff _).1 hp
  simp only at h1 h2 ⊢
  generalize listR itemR _ _ = L at h c1 c4 h2 hp ⊢
  subst c1
  have eC : (tokR (numR 16 r).2).2.e = 0 := (flagR_sk.cond false _).err ((tokR_sk.cond tk0 _).err (((numR_sk 16).cond 0 _).err e5))
  obtain ⟨e1, a2, b2⟩ := tokR_rt.bck _ eC
  obtain ⟨-, a1, b1⟩ := (numR_rt 16).bck _ e1
  rw [b1, b2]
  generalize numR 16 r = C at *
  generalize tokR C.2 = F at *
  simp only [eC, true_and] at *
  by_cases hc : C.1 = 0
  ·simp only [hc, decide_true, if_true, ne_eq, not_true_eq_false, if_false, Bool.true_and] at *
   have ht : (tokR (flagR F.2).2).2.e = 0 := ((numR_sk 16).cond 0 _).err e5
   obtain ⟨e3, a4, b4⟩ := tokR_rt.bck _ ht
   obtain ⟨-, a3, b3⟩ := flagR_rt.bck _ e3
   rw [b3, b4]
   generalize flagR F.2 = S at *
   generalize tokR S.2 = T at *
   simp only [ht, decide_true, Bool.true_and] at *
   cases hr : S.1
   ·simp only [hr, Bool.false_eq_true, if_false, if_true, Bool.not_false] at *
    obtain ⟨-, a5, b5⟩ := (numR_rt 16).bck _ e5
    rw [b5, c4, c2, Int.toNat_of_nonneg a5.1]
    simp
   ·simp only [hr, if_true, Bool.not_true, Bool.false_eq_true, if_false, Int.toNat_zero] at *
    rw [h2.1] at c4
    rw [c4]
    simp
  ·simp only [hc, decide_false, Bool.false_eq_true, Bool.false_and, if_false, ne_eq, not_false_eq_true, if_true, Int.toNat_zero] at *
   rw [h2.2.2.2.2] at c4
   rw [c4]
   simp
end Go.Proofs.YtfbodefnblpflaaGreatDoor
end

section
namespace Go.Proofs.YtfbodefnblpflaaGreatDoor
class LB (l : BL) (k : outParam Nat) : Prop where
 h : l.length ≤ k
theorem numB_len (n : Int) : (numB n).length ≤ 6 := numF_len 5 _
instance {n : Int} : LB (numB n) 6 := ⟨numB_len n⟩
instance {a b : BL} {i j : Nat} [h : LB a i] [k : LB b j] : LB (a ++ b) (i + j) := ⟨by have := h.h; have := k.h; rw [List.length_append]; omega⟩
instance : LB [] 0 := ⟨Nat.le_refl _⟩
instance {c : Prop} [Decidable c] {a b : BL} {i j : Nat} [h : LB a i] [k : LB b j] : LB (if c then a else b) (i + j) := ⟨by have := h.h; have := k.h; split <;> omega⟩
instance {b : Bool} : LB (flagB b) 6 := ⟨numB_len _⟩
instance {v : VA} : LB (valB v) 36 := ⟨by
 have h1 := numB_len v.kd
 have h2 := numB_len v.n
 unfold valB
 split
 ·rename_i h
  rw [vaOk_iff] at h
  have h3 := numB_len ((bl v.s).length : Int)
  simp only [List.length_append]
  split
  ·omega
  ·split
   ·rename_i h5
    have : v.s.size ≤ 24 := by omega
    have e : (bl v.s).length = v.s.size := rfl
    simp only [strB, List.length_append]
    omega
   ·simp only [List.length_nil]; omega
 ·simp⟩
theorem fieldsB_len (m : Nat) (f : F8) : ∀ k, (fieldsB m f k).length ≤ 36 * k
 | 0 => by simp [fieldsB]
 | k + 1 => by
  have ih := fieldsB_len m f k
  have := (inferInstance : LB (valB (f.get (7 - k))) 36).h
  simp only [fieldsB, List.length_append]
  split
  ·omega
  ·simp only [List.length_nil]; omega
instance {m : Nat} {f : F8} : LB (fieldsB m f 8) 288 := ⟨fieldsB_len m f 8⟩
instance {p : PA} : LB (patchB p) 400 := ⟨by
 have h : LB (numB p.mask.toNat ++ (if bit p.mask.toNat 8 = true then numB p.lab.toNat else []) ++ fieldsB p.mask.toNat p.f 8) _ := inferInstance
 have h := h.h
 unfold patchB
 split
 ·omega
 ·simp⟩
instance {c : CA} : LB (cardB c) 400 := ⟨by
 have h : LB (numB c.id ++ numB c.ver ++ numB c.lab.toNat ++ numB (hasM c.f) ++ fieldsB (hasM c.f) c.f 8) _ := inferInstance
 have h := h.h
 unfold cardB
 split
 ·omega
 ·simp⟩
instance {e : ED} : LB (editB e) 500 := ⟨by
 have h : LB (numB e.kd ++ (if edG e.kd = true then numB e.gr else []) ++ (if edI e.kd = true then numB e.id else []) ++ (if edP e.kd = true then patchB e.p else [])) _ := inferInstance
 have h := h.h
 unfold editB
 split
 ·omega
 ·simp⟩
instance {t : TO} : LB (tokB t) 24 := ⟨by
 have h : LB (numB t.dev ++ numB t.ep ++ numB t.sq ++ numB t.cu) _ := inferInstance
 have h := h.h
 unfold tokB
 split
 ·omega
 ·simp⟩
instance {x : ND} : LB (nodeB x) 48 := ⟨by
 have h : LB (numB x.op) 6 := inferInstance
 have h2 : LB (if opN x.op = true then numB x.n else []) _ := inferInstance
 have h3 : LB (if opV x.op = true then valB x.v else []) _ := inferInstance
 have h := h.h
 have h2 := h2.h
 have h3 := h3.h
 unfold nodeB
 simp only [List.length_append]
 omega⟩
theorem flat_len {α : Type} {f : α → BL} {k : Nat} (h : ∀ x, (f x).length ≤ k) : ∀ l : List α, (l.map f).flatten.length ≤ k * l.length
 | [] => by simp
 | x :: l => by
  have := flat_len h l
  have := h x
  simp only [List.map_cons, List.flatten_cons, List.length_append, List.length_cons, Nat.mul_add]
  omega
theorem nodes_len (l : List ND) : (l.map nodeB).flatten.length ≤ 48 * l.length := flat_len (fun x => (inferInstance : LB (nodeB x) 48).h) l
instance {l : List ND} : LB (predB l) 1600 := ⟨by
 have h := nodes_len l
 have h1 := numB_len l.length
 unfold predB
 split
 ·rename_i hp
  have := (predErr_iff l).1 hp
  simp only [List.length_append]
  omega
 ·simp⟩
instance {a : RE} : LB (repB a) 1700 := ⟨by
 have h : LB (numB a.kd ++ numB a.dev ++ numB a.req ++ numB a.code ++ (if a.code = 0 then numB a.sq ++ (if a.kd = 2 then numB a.id ++ numB a.ver else []) ++ (if a.kd = 3 then numB a.ep ++ predB a.fl ++ numB a.mask.toNat else []) else [])) _ := inferInstance
 have h := h.h
 unfold repB
 split
 ·omega
 ·simp⟩
instance {x : IT} : LB (itemB x) 412 := ⟨by
 have h : LB (numB x.kd ++ (if x.kd = 2 then numB x.c.id else cardB x.c)) _ := inferInstance
 have h := h.h
 unfold itemB
 omega⟩
theorem items_len (l : List IT) : (l.map itemB).flatten.length ≤ 412 * l.length := flat_len (fun x => (inferInstance : LB (itemB x) 412).h) l
theorem page_items {p : PG} (hp : pageOk p = true) (hc : p.code = 0) (hr : ¬ p.reset = true) : p.items.length ≤ 16 := by
 have h := (pageOk_iff p).1 hp
 have h := h.2
 rw [if_neg (by omega), if_neg hr] at h
 exact h.2.2
instance {p : PG} : LB (pageB p) 7000 := ⟨by
 have h1 : LB (numB p.code ++ tokB p.fr) _ := inferInstance
 have h2 : LB (flagB p.reset ++ tokB p.to) _ := inferInstance
 have h3 := items_len p.items
 have h1 := h1.h
 have h2 := h2.h
 have h4 := numB_len p.items.length
 unfold pageB
 by_cases hp : pageOk p = true
 ·rw [if_pos hp]
  by_cases hc : p.code = 0
  ·rw [if_pos hc]
   by_cases hr : p.reset = true
   ·rw [if_pos hr]
    simp only [List.length_append, List.length_nil] at h1 h2 ⊢; omega
   ·have := page_items hp hc hr
    rw [if_neg hr]
    simp only [List.length_append] at h1 h2 ⊢; omega
  ·rw [if_neg hc]
   simp only [List.length_append, List.length_nil] at h1 h2 ⊢; omega
 ·rw [if_neg hp]; simp⟩
instance {c : CM} : LB (cmdB c) 3000 := ⟨by
 have h : LB (numB c.kd ++ (if c.kd = 1 then editB c.e else if c.kd = 5 then numB c.keep else numB c.dev ++ numB c.req ++ (if c.kd = 2 then numB c.id ++ numB c.base ++ patchB c.p else []) ++ (if c.kd = 3 then predB c.fl ++ numB c.mask.toNat else []))) _ := inferInstance
 have h := h.h
 unfold cmdB
 split
 ·omega
 ·simp⟩
theorem LB.le {l : BL} {k n : Nat} [h : LB l k] (hk : k ≤ n) : l.length ≤ n := Nat.le_trans h.h hk
class Sh (r : RD) : Prop where
 h : r.l.length ≤ 1000000
theorem Sh.sk {α : Type} {f : RD → α × RD} (hf : Sk f) {r : RD} [h : Sh r] : Sh (f r).2 := ⟨Nat.le_trans (hf.sfx r).length_le h.h⟩
instance {r : RD} {most : Int} [Sh r] : Sh (numR most r).2 := Sh.sk (numR_sk most)
instance {r : RD} {a b : Int} [Sh r] : Sh (fromR a b r).2 := Sh.sk (fromR_sk a b)
instance {r : RD} {most : Int} [Sh r] : Sh (strR most r).2 := Sh.sk (strR_sk most)
instance {r : RD} [Sh r] : Sh (flagR r).2 := Sh.sk flagR_sk
instance {r : RD} {e : Int} [h : Sh r] : Sh (failR e r) := ⟨by rw [failR_l]; exact h.h⟩
instance {r : RD} [Sh r] : Sh (valR r).2 := Sh.sk valR_sk
instance {r : RD} [Sh r] : Sh (cardR r).2 := Sh.sk cardR_sk
instance {r : RD} [Sh r] : Sh (patchR r).2 := Sh.sk patchR_sk
instance {r : RD} [Sh r] : Sh (mayR r).2 := Sh.sk mayR_sk
instance {r : RD} [Sh r] : Sh (editR r).2 := Sh.sk editR_sk
instance {r : RD} [Sh r] : Sh (tokR r).2 := Sh.sk tokR_sk
instance {r : RD} [Sh r] : Sh (nodeR r).2 := Sh.sk nodeR_sk
instance {r : RD} [Sh r] : Sh (predR r).2 := Sh.sk predR_sk
instance {r : RD} [Sh r] : Sh (itemR r).2 := Sh.sk itemR_sk
instance {r : RD} [Sh r] : Sh (repR r).2 := Sh.sk repR_sk
instance {r : RD} [Sh r] : Sh (pageR r).2 := Sh.sk pageR_sk
instance {c : Prop} [Decidable c] {r s : RD} [h : Sh r] [k : Sh s] : Sh (if c then r else s) := by
 split
 ·exact h
 ·exact k
theorem fieldsR_at {m : Nat} {none : Bool} {i : Nat} (h : i < 8) (x : F8 × RD) : fieldsR m none (8 - i) x = fieldsR m none (8 - (i + 1)) (if bit m i = true then (x.1.set i (valR x.2).1, if none = false ∧ (valR x.2).1.kd = 0 then failR 3 (valR x.2).2 else (valR x.2).2) else x) := by
 rw [show 8 - i = (8 - (i + 1)) + 1 by omega, fieldsR, show 7 - (8 - (i + 1)) = i by omega]
end Go.Proofs.YtfbodefnblpflaaGreatDoor
end

section
namespace Go.Proofs.YtfbodefnblpflaaGreatDoor
inductive Lz (e : Nat) (xs : List (List MV)) : MV → Prop where
 | lst (t : Bool) : Lz e xs (.lst e xs t)
 | nil (h : xs = []) : Lz e xs .nils
theorem Lz.cell {e : Nat} {xs : List (List MV)} {m : MV} (h : Lz e xs m) : m.isCell = true := by cases h <;> rfl
theorem Lz.cells {e : Nat} {xs : List (List MV)} {m : MV} (h : Lz e xs m) : m.cells = [m] := by cases h <;> rfl
theorem Lz.weak {e : Nat} {xs : List (List MV)} {m : MV} (h : Lz e xs m) : Weak m (.lst e xs false) := by
 cases h with
 | lst t => cases t with
  | false => exact .same _
  | true => exact .tight _ _
 | nil h => subst h; exact .nil _ _
abbrev CM.k (c : CM) (f : MV) : List MV := .int .i64 c.kd :: .int .i64 c.e.kd :: .int .i64 c.e.id :: .int .i64 c.e.gr :: .int .u32 (c.e.p.mask.toNat : Int) :: .int .u32 (c.e.p.lab.toNat : Int) :: (fc c.e.p.f ++
 .int .i64 c.dev :: .int .i64 c.req :: .int .i64 c.id :: .int .i64 c.base :: .int .i64 c.keep :: .int .u32 (c.p.mask.toNat : Int) :: .int .u32 (c.p.lab.toNat : Int) :: (fc c.p.f ++ [f, .int .u32 (c.mask.toNat : Int)]))
abbrev RE.k (a : RE) (f : MV) : List MV := [.int .i64 a.kd, .int .i64 a.dev, .int .i64 a.req, .int .i64 a.code, .int .i64 a.id, .int .i64 a.ver, .int .i64 a.sq, .int .i64 a.ep, f, .int .u32 (a.mask.toNat : Int)]
abbrev PG.k (p : PG) (i : MV) : List MV := [.int .i64 p.code, .bool p.reset, .int .i64 p.fr.dev, .int .i64 p.fr.ep, .int .i64 p.fr.sq, .int .i64 p.fr.cu, .int .i64 p.to.dev, .int .i64 p.to.ep, .int .i64 p.to.sq, .int .i64 p.to.cu, i]
abbrev MS.k (m : MS) (f g i : MV) : List MV := .int .i64 m.kd :: .int .i64 m.size :: .int .i64 m.cmd.kd :: .int .i64 m.cmd.e.kd :: .int .i64 m.cmd.e.id :: .int .i64 m.cmd.e.gr :: .int .u32 (m.cmd.e.p.mask.toNat : Int) :: .int .u32 (m.cmd.e.p.lab.toNat : Int) :: (fc m.cmd.e.p.f ++
 .int .i64 m.cmd.dev :: .int .i64 m.cmd.req :: .int .i64 m.cmd.id :: .int .i64 m.cmd.base :: .int .i64 m.cmd.keep :: .int .u32 (m.cmd.p.mask.toNat : Int) :: .int .u32 (m.cmd.p.lab.toNat : Int) :: (fc m.cmd.p.f ++ f :: .int .u32 (m.cmd.mask.toNat : Int) ::
 .int .i64 m.tok.dev :: .int .i64 m.tok.ep :: .int .i64 m.tok.sq :: .int .i64 m.tok.cu ::
 .int .i64 m.rep.kd :: .int .i64 m.rep.dev :: .int .i64 m.rep.req :: .int .i64 m.rep.code :: .int .i64 m.rep.id :: .int .i64 m.rep.ver :: .int .i64 m.rep.sq :: .int .i64 m.rep.ep :: g :: .int .u32 (m.rep.mask.toNat : Int) ::
 .int .i64 m.page.code :: .bool m.page.reset :: .int .i64 m.page.fr.dev :: .int .i64 m.page.fr.ep :: .int .i64 m.page.fr.sq :: .int .i64 m.page.fr.cu :: .int .i64 m.page.to.dev :: .int .i64 m.page.to.ep :: .int .i64 m.page.to.sq :: .int .i64 m.page.to.cu :: i ::
 [.int .i64 m.code]))
theorem cm_iff {a b : CM} : a = b ↔ a.kd = b.kd ∧ a.e = b.e ∧ a.dev = b.dev ∧ a.req = b.req ∧ a.id = b.id ∧ a.base = b.base ∧ a.keep = b.keep ∧ a.p = b.p ∧ a.fl = b.fl ∧ a.mask = b.mask := by
 obtain ⟨a1, a2, a3, a4, a5, a6, a7, a8, a9, a10⟩ := a
 obtain ⟨b1, b2, b3, b4, b5, b6, b7, b8, b9, b10⟩ := b
 simp
theorem re_iff {a b : RE} : a = b ↔ a.kd = b.kd ∧ a.dev = b.dev ∧ a.req = b.req ∧ a.code = b.code ∧ a.id = b.id ∧ a.ver = b.ver ∧ a.sq = b.sq ∧ a.ep = b.ep ∧ a.fl = b.fl ∧ a.mask = b.mask := by
 obtain ⟨a1, a2, a3, a4, a5, a6, a7, a8, a9, a10⟩ := a
 obtain ⟨b1, b2, b3, b4, b5, b6, b7, b8, b9, b10⟩ := b
 simp
theorem pg_iff {a b : PG} : a = b ↔ a.code = b.code ∧ a.reset = b.reset ∧ a.fr = b.fr ∧ a.to = b.to ∧ a.items = b.items := by
 obtain ⟨a1, a2, a3, a4, a5⟩ := a
 obtain ⟨b1, b2, b3, b4, b5⟩ := b
 simp
theorem ms_iff {a b : MS} : a = b ↔ a.kd = b.kd ∧ a.size = b.size ∧ a.cmd = b.cmd ∧ a.tok = b.tok ∧ a.rep = b.rep ∧ a.page = b.page ∧ a.code = b.code := by
 obtain ⟨a1, a2, a3, a4, a5, a6, a7⟩ := a
 obtain ⟨b1, b2, b3, b4, b5, b6, b7⟩ := b
 simp
end Go.Proofs.YtfbodefnblpflaaGreatDoor
end

section
namespace Go.Proofs.YtfbodefnblpflaaGreatDoor
abbrev RE.c (a : RE) : List MV := a.k (.lst 5 (a.fl.map ND.c) false)
abbrev IT.ks (l : List IT) : List (List MV) := l.map fun x => .int .i64 x.kd :: .int .i64 x.c.id :: .int .i64 x.c.ver :: .int .u32 (x.c.lab.toNat : Int) :: fc x.c.f
abbrev PG.c (p : PG) : List MV := p.k (.lst 28 (IT.ks p.items) false)
abbrev CM.c (c : CM) : List MV := c.k (.lst 5 (c.fl.map ND.c) false)
def Views (σ : St) : List MV → List MV → Prop
 | [], [] => True
 | m :: ms, m' :: ms' => View σ m m' ∧ Views σ ms ms'
 | _, _ => False
theorem Views.same {σ : St} : ∀ ms : List MV, Views σ ms ms
 | [] => trivial
 | m :: ms => ⟨.same m, Views.same ms⟩
theorem Views.app {σ : St} : ∀ {a b c d : List MV}, Views σ a b → Views σ c d → Views σ (a ++ c) (b ++ d)
 | [], [], _, _, _, h => h
 | _ :: _, _ :: _, _, _, h, k => ⟨h.1, Views.app h.2 k⟩
theorem Views.len {σ : St} : ∀ {a b : List MV}, Views σ a b → a.length = b.length
 | [], [], _ => rfl
 | _ :: _, _ :: _, h => congrArg (· + 1) (Views.len h.2)
theorem Views.at {σ : St} : ∀ {a b : List MV}, Views σ a b → ∀ (i : Nat) (m m' : MV), a[i]? = some m → b[i]? = some m' → View σ m m'
 | _ :: _, _ :: _, h, 0, m, m', h1, h2 => by simp at h1 h2; subst h1 h2; exact h.1
 | _ :: _, _ :: _, h, i + 1, m, m', h1, h2 => by simp at h1 h2; exact h.2.at i m m' h1 h2
theorem View.aggL {σ : St} {ms ms' : List MV} (h : Views σ ms ms') (hc : ms'.all MV.isCell = true) : View σ (.agg ms) (.agg ms') :=
 .agg h.len (fun i m hm => List.all_eq_true.1 hc m (List.mem_of_getElem? hm)) h.at
theorem View.nils {σ : St} {e : Nat} {xs : List (List MV)} (h : xs = []) : View σ .nils (.lst e xs false) := by subst h; exact .nil e false
theorem fc_all {f : F8} {r : List MV} : (fc f ++ r).all MV.isCell = r.all MV.isCell := by rw [List.all_append, fc_cell, Bool.true_and]
theorem fc_assoc {f : F8} {a b : List MV} : (fc f ++ a) ++ b = fc f ++ (a ++ b) := List.append_assoc _ _ _
theorem u32z : ((UInt32.toNat 0 : Nat) : Int) = 0 := rfl
theorem RE.cell (a : RE) : a.c.all MV.isCell = true := rfl
theorem PG.cell (a : PG) : a.c.all MV.isCell = true := rfl
theorem CM.cell (c : CM) : c.c.all MV.isCell = true := by
 simp only [CM.c, CM.k, List.all_cons, List.all_append, fc_cell]; rfl
end Go.Proofs.YtfbodefnblpflaaGreatDoor
end
