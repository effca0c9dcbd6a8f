/- Parts of the proof, joined. Each part says what it proves, and under which conditions it does: those that its theorems name. -/
import Derived.Test.YtjljgahfkcdhfaaGreatDoorSng
set_option linter.unusedVariables false
set_option linter.unusedSimpArgs false
set_option maxHeartbeats 4000000
section
namespace Go.Proofs.YtjljgahfkcdhfaaGreatDoor
structure RD where
 l : BL
 e : Int
 deriving DecidableEq
structure F8 where
 l : List VA
 h : l.length = 8
 deriving DecidableEq
abbrev F8.c (f : F8) : List MV := (f.l.map VA.c).flatten
def F8.get (f : F8) (i : Nat) : VA := f.l.getD i va0
def F8.set (f : F8) (i : Nat) (v : VA) : F8 := ⟨f.l.set i v, by rw [List.length_set, f.h]⟩
def f80 : F8 := ⟨List.replicate 8 va0, rfl⟩
structure PA where
 mask : UInt32
 lab : UInt32
 f : F8
 deriving DecidableEq
structure CA where
 id : Int
 ver : Int
 lab : UInt32
 f : F8
 deriving DecidableEq
def ca0 : CA := ⟨0, 0, 0, f80⟩
def idMax : Int := 1073741824
def cardOk (c : CA) : Bool := decide (1 ≤ c.id ∧ c.id < idMax ∧ 1 ≤ c.ver ∧ c.ver ≤ big ∧ c.lab.toNat < 65536) && c.f.l.all vaOk
structure ED where
 kd : Int
 id : Int
 gr : Int
 p : PA
 deriving DecidableEq
structure TO where
 dev : Int
 ep : Int
 sq : Int
 cu : Int
 deriving DecidableEq
abbrev TO.c (t : TO) : List MV := [.int .i64 t.dev, .int .i64 t.ep, .int .i64 t.sq, .int .i64 t.cu]
def shut : List Nat → List Nat
 | [] => []
 | [0] => []
 | 0 :: k :: s => shut ((k - 1) :: s)
 | (n + 1) :: s => (n + 1) :: s
termination_by s => s.length
def dp : Nat → List Nat → List ND → Nat
 | d, _, [] => d
 | d, s, x :: l => dp (max d (s.length + 1)) (shut (parts x.op :: s)) l
def depthS (l : List ND) : Nat := if l = [] ∨ endS l 0 ≠ l.length then 0 else dp 0 [] l
def predErr (l : List ND) : Int :=
 if 31 < l.length then 4 else if l = [] ∨ endS l 0 ≠ l.length ∨ l.all ndOk = false then 1 else if 8 < depthS l then 5 else 0
structure RE where
 kd : Int
 dev : Int
 req : Int
 code : Int
 id : Int
 ver : Int
 sq : Int
 ep : Int
 fl : List ND
 mask : UInt32
 deriving DecidableEq
def re0 : RE := ⟨0, 0, 0, 0, 0, 0, 0, 0, [], 0⟩
def repOk (a : RE) : Bool :=
 decide (2 ≤ a.kd ∧ a.kd ≤ 4 ∧ 0 ≤ a.dev ∧ a.dev < 6 ∧ 1 ≤ a.req ∧ a.req ≤ big ∧ 0 ≤ a.code ∧ a.code ≤ 16 ∧ 0 ≤ a.sq ∧ a.sq ≤ big ∧ (a.code ≠ 0 → a.sq = 0)
  ∧ (if a.code = 0 ∧ a.kd = 2 then 1 ≤ a.id ∧ a.id < idMax ∧ 1 ≤ a.ver ∧ a.ver ≤ big else a.id = 0 ∧ a.ver = 0)
  ∧ (if a.code = 0 ∧ a.kd = 3 then 1 ≤ a.ep ∧ a.ep ≤ big ∧ predErr a.fl = 0 ∧ a.mask.toNat ≤ 511 else a.ep = 0 ∧ a.fl = [] ∧ a.mask = 0))
structure IT where
 kd : Int
 c : CA
 deriving DecidableEq
structure PG where
 code : Int
 reset : Bool
 fr : TO
 to : TO
 items : List IT
 deriving DecidableEq
structure CM where
 kd : Int
 e : ED
 dev : Int
 req : Int
 id : Int
 base : Int
 keep : Int
 p : PA
 fl : List ND
 mask : UInt32
 deriving DecidableEq
structure MS where
 kd : Int
 size : Int
 cmd : CM
 tok : TO
 rep : RE
 page : PG
 code : Int
 deriving DecidableEq
end Go.Proofs.YtjljgahfkcdhfaaGreatDoor
end

section
namespace Go.Proofs.YtjljgahfkcdhfaaGreatDoor
structure Sk {α : Type} (f : RD → α × RD) : Prop where
 stk : ∀ r, r.e ≠ 0 → (f r).2 = r
 sfx : ∀ r, (f r).2.l <:+ r.l
structure Rt {α : Type} (f : RD → α × RD) (ok : α → Prop) (w : α → BL) : Prop where
 fwd : ∀ x l, ok x → f ⟨w x ++ l, 0⟩ = (x, ⟨l, 0⟩)
 bck : ∀ r, (f r).2.e = 0 → r.e = 0 ∧ ok (f r).1 ∧ r.l = w (f r).1 ++ (f r).2.l
section
variable {α : Type} {d : α} {y : α × RD}
end
end Go.Proofs.YtjljgahfkcdhfaaGreatDoor
end

section
namespace Go.Proofs.YtjljgahfkcdhfaaGreatDoor
theorem MCalls.pre {P : Program} {g : FuncId} {ms ms' : List MV} {σ σ2 : St} {Q : MV → St → Prop} (hl : ms.length = ms'.length) (hg : Ghost ⟨ms.length, args0 0 ms, []⟩ σ ⟨ms.length, args0 0 ms', []⟩ σ2) (h : MCalls P g ms' σ2 Q) : MCalls P g ms σ Q := by
 refine ⟨h.1, fun Φ w vs hi hr => ?_⟩
 obtain ⟨-, hg⟩ := hg
 obtain ⟨Φ1, i1, r1, s1⟩ := hg Φ w vs hi ⟨hr.1, fun t => by
  simp only [FR.get, args0_get, Nat.sub_zero, Nat.zero_le, if_true]
  cases hm : ms[t]? with
  | none => exact .junk _
  | some m => exact hr.2 t m hm⟩
 refine (h.2 Φ1 w vs i1 ⟨hr.1.trans hl, fun i m hm => ?_⟩).mono ?_
 ·have := r1.2 i
  simp only [FR.get, args0_get, Nat.sub_zero, Nat.zero_le, if_true, hm] at this
  exact this
 ·rintro e w' ⟨v, mv, σ', Φ', rfl, q1, q2, q3, hq⟩
  exact ⟨v, mv, σ', Φ', rfl, q1, q2, s1.trans q3, hq⟩
theorem mem_args0 : ∀ {ms : List MV} {i : Nat} {p : Nat × MV}, p ∈ args0 i ms → ∃ j, p.1 = i + j ∧ ms[j]? = some p.2
 | [], _, _, h => by simp [args0] at h
 | m :: ms, i, p, h => by
  rw [args0, List.mem_cons] at h
  rcases h with rfl | h
  ·exact ⟨0, rfl, rfl⟩
  ·obtain ⟨j, h1, h2⟩ := mem_args0 h
   exact ⟨j + 1, by omega, by simpa using h2⟩
theorem use_give {P : Program} {g : FuncId} {ms : List MV} (ms' : List MV) {σ : St} (σv σ2 : St) {r : MV} {k : MV → St → Prop} (h : MCalls P g ms' St.none fun v _ => v = r) (hle : σv.le σ) (h2 : σ2.le σ) (hd : ∀ k o, σ2 k = some o → σv k = none)
  (hl : ms.length = ms'.length) (hv : ∀ (i : Nat) (m m' : MV), ms[i]? = some m → ms'[i]? = some m' → View σv m m') (hk : R (mlet r σ2 k)) : R (mcallE P g ms σ k) := by
 refine MCalls.pre hl (Ghost.freeze σv hle h2 hd fun p hp => ?_) (use_pure h hk)
 obtain ⟨j, h1, h3⟩ := mem_args0 hp
 rw [h1, args0_get]
 simp only [Nat.zero_add, Nat.zero_le, if_true, Nat.sub_zero]
 have hj := (List.getElem?_eq_some_iff.1 h3).1
 obtain ⟨m, hm⟩ : ∃ m, ms[j]? = some m := ⟨ms[j]'(by omega), by simp⟩
 rw [hm]
 exact hv j m _ hm h3
theorem use_weak {P : Program} {g : FuncId} {ms : List MV} (ms' : List MV) {σ : St} {r : MV} {k : MV → St → Prop} (h : MCalls P g ms' St.none fun v _ => v = r)
  (hl : ms.length = ms'.length) (hv : ∀ (i : Nat) (m m' : MV), ms[i]? = some m → ms'[i]? = some m' → View St.none m m') (hk : R (mlet r σ k)) : R (mcallE P g ms σ k) :=
 use_give ms' St.none σ h (St.none_le _) (St.le_refl _) (fun _ _ _ => rfl) hl hv hk
theorem views_one {σ : St} {a a' : MV} (h : View σ a a') : ∀ (i : Nat) (m m' : MV), [a][i]? = some m → [a'][i]? = some m' → View σ m m' := fun i m m' h1 h2 => by
 match i, h1, h2 with
 | 0, h1, h2 => simp only [List.getElem?_cons_zero, Option.some.injEq] at h1 h2; subst h1 h2; exact h
theorem views_two {σ : St} {a b a' b' : MV} (h : View σ a a') (k : View σ b b') : ∀ (i : Nat) (m m' : MV), [a, b][i]? = some m → [a', b'][i]? = some m' → View σ m m' := fun i m m' h1 h2 => by
 match i, h1, h2 with
 | 0, h1, h2 => simp only [List.getElem?_cons_zero, Option.some.injEq] at h1 h2; subst h1 h2; exact h
 | 1, h1, h2 => simp only [List.getElem?_cons_succ, List.getElem?_cons_zero, Option.some.injEq] at h1 h2; subst h1 h2; exact k
end Go.Proofs.YtjljgahfkcdhfaaGreatDoor
end
