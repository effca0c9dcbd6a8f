/- Parts of the proof, joined. Each part says what it proves, and under which conditions it does: those that its theorems name. -/
import Derived.Test.YtjljgahfkcdhfaaGreatDoorSnzb
import Derived.Test.YtjljgahfkcdhfaaGreatDoorSnzf
import Derived.Laws.LoneSync
set_option linter.unusedVariables false
set_option linter.unusedSimpArgs false
set_option maxHeartbeats 4000000
section
namespace Go.Proofs.YtjljgahfkcdhfaaGreatDoor
set_option maxRecDepth 100000
set_option maxHeartbeats 4000000
theorem use_new2 {P : Program} {g : FuncId} {ms : List MV} {σ : St} {om : MObj} {ol : Nat → MObj} {u : Nat → Nat → MV} {k : MV → St → Prop} (h : MCalls P g ms St.none fun v σ' => ∃ m l, l ≠ m ∧ v = u l m ∧ σ' = (St.none.set m om).set l (ol m))
  (hk : ∀ m l, σ m = none → σ l = none → l ≠ m → R (mlet (u l m) ((σ.set m om).set l (ol m)) k)) : R (mcallE P g ms σ k) :=
 use_frame h (St.none_le σ) fun v σ' hv hf => by
  obtain ⟨m, l, hne, rfl, rfl⟩ := hv
  rw [minus_none, over_set, over_set, over_none]
  refine hk m l ?_ ?_ hne
  ·rcases hf m om ((set_miss _ _ _ _ (Ne.symm hne)).trans (set_hit _ _ _)) with h | ⟨o', h⟩
   ·exact h
   ·simp [St.none] at h
  ·rcases hf l _ (set_hit _ _ _) with h | ⟨o', h⟩
   ·exact h
   ·simp [St.none] at h
theorem use_new3 {P : Program} {g : FuncId} {ms : List MV} {σ : St} {om : MObj} {ol : Nat → MObj} {ob : Nat → MObj} {u : Nat → MV} {k : MV → St → Prop} (h : MCalls P g ms St.none fun v σ' => ∃ m l b, l ≠ m ∧ b ≠ m ∧ b ≠ l ∧ v = u b ∧ σ' = ((St.none.set m om).set l (ol m)).set b (ob l))
  (hk : ∀ m l b, σ m = none → σ l = none → σ b = none → l ≠ m → b ≠ m → b ≠ l → R (mlet (u b) (((σ.set m om).set l (ol m)).set b (ob l)) k)) : R (mcallE P g ms σ k) :=
 use_frame h (St.none_le σ) fun v σ' hv hf => by
  obtain ⟨m, l, b, h1, h2, h3, rfl, rfl⟩ := hv
  rw [minus_none, over_set, over_set, over_set, over_none]
  refine hk m l b ?_ ?_ ?_ h1 h2 h3
  ·rcases hf m om ((set_miss _ _ _ _ (Ne.symm h2)).trans ((set_miss _ _ _ _ (Ne.symm h1)).trans (set_hit _ _ _))) with h | ⟨o', h⟩
   ·exact h
   ·simp [St.none] at h
  ·rcases hf l _ ((set_miss _ _ _ _ (Ne.symm h3)).trans (set_hit _ _ _)) with h | ⟨o', h⟩
   ·exact h
   ·simp [St.none] at h
  ·rcases hf b _ (set_hit _ _ _) with h | ⟨o', h⟩
   ·exact h
   ·simp [St.none] at h
theorem MCalls.seenS {P : Program} {g : FuncId} {ms : List MV} {σ τ : St} {X : MV} (h : MCalls P g ms σ fun v σ' => ∃ σv : St, σv.le σ' ∧ τ.le σ' ∧ (∀ k o, τ k = some o → σv k = none) ∧ View σv v X) : MCalls P g ms σ fun v σ' => v = X ∧ σ' = τ :=
 MCalls.ghost (h.mono fun v σ' ⟨σv, h1, h2, h3, h4⟩ => ⟨X, τ, Ghost.freeze σv h1 h2 h3 (fun p hp => by
  simp at hp
  subst hp
  simpa [lget] using h4), rfl, rfl⟩)
theorem seenS_at {τ : St} {q : Nat} {t : TypeId} {e n : Nat} {xs ex : List (List MV)} (hq : τ q = none) (hn : n = xs.length) : ∃ σv : St, σv.le (τ.set q (.row t e (xs ++ ex))) ∧ τ.le (τ.set q (.row t e (xs ++ ex))) ∧ (∀ k o, τ k = some o → σv k = none) ∧ View σv (.vec e q 0 n) (.lst e xs false) :=
 ⟨St.none.set q (.row t e (xs ++ ex)), St.set_le (St.none_le _) (set_hit _ _ _), fun j o h => (set_miss _ _ _ _ (fun h1 => by subst h1; rw [hq] at h; cases h)).trans h, fun j o h => set_miss _ _ _ _ (fun h1 => by subst h1; rw [hq] at h; cases h), by
  have := View.vec (σ := St.none.set q (.row t e (xs ++ ex))) (lo := 0) (n := n) (set_hit _ _ _) (by rw [List.length_append]; omega)
  rwa [List.drop_zero, hn, List.take_append_of_le_length (Nat.le_refl _), List.take_length, ← hn] at this⟩
theorem le_skip {A : St} {a b : Nat} {x y : MObj} (ha : A a = none) : (A.set b y).le ((A.set a x).set b y) := fun j o h => by
 simp only [St.set] at h ⊢
 split
 ·rename_i e; rw [if_pos e] at h; exact h
 ·rename_i e
  rw [if_neg e] at h
  rw [if_neg (fun e => by subst e; rw [ha] at h; cases h)]
  exact h
theorem le_new {σ : St} {a : Nat} {x : MObj} (ha : σ a = none) : σ.le (σ.set a x) := fun j o h => (set_miss _ _ _ _ (fun e => by subst e; rw [ha] at h; cases h)).trans h
theorem le_new2 {σ : St} {a b : Nat} {x y : MObj} (ha : σ a = none) (hb : σ b = none) : σ.le ((σ.set a x).set b y) := fun j o h => (set_miss _ _ _ _ (fun e => by subst e; rw [hb] at h; cases h)).trans (le_new ha j o h)
theorem use_newK {P : Program} {g : FuncId} {ms : List MV} {σ τ : St} {o : MObj} {u : Nat → MV} {k : MV → St → Prop} (h : MCalls P g ms τ fun v σ' => ∃ q, τ q = none ∧ v = u q ∧ σ' = τ.set q o) (hle : τ.le σ) (hk : ∀ q, σ q = none → R (mlet (u q) (σ.set q o) k)) : R (mcallE P g ms σ k) :=
 use_frame h hle fun v σ' hv hf => by
  obtain ⟨q, hq, rfl, rfl⟩ := hv
  have e : (τ.set q o).over (σ.minus τ) = σ.set q o := by
   funext j
   by_cases h : j = q
   ·subst h; simp [St.over, St.set]
   ·cases ht : τ j with
    | none => simp [St.over, St.set, St.minus, h, ht]
    | some o' => simp [St.over, St.set, St.minus, h, ht, hle j o' ht]
  rw [e]
  refine hk q ?_
  rcases hf q o (set_hit _ _ _) with h | ⟨o', h⟩
  ·exact h
  ·rw [hq] at h; cases h
theorem none_ne {σ : St} {l k : Nat} {o : MObj} (h : (σ.set l o) k = none) : k ≠ l ∧ σ k = none := by
 have e : k ≠ l := fun e => by subst e; simp [St.set] at h
 exact ⟨e, by simpa [St.set, e] using h⟩
abbrev shO (next : Int) (m : Nat) (dead : MV) : MObj := .row 167 3 [[.int .i64 next, .mapv m, dead]]
abbrev bkO (seq : Int) (l : Nat) (groups : MV) : MObj := .row 86 3 [[.int .i64 seq, .ptr l 0 0, groups]]
theorem shnew_call : MCalls Tryz.prog 43 [] St.none (fun v σ' => ∃ m l, l ≠ m ∧ v = .ptr l 0 0 ∧ σ' = (St.none.set m (.mp [])).set l (shO 1 m .nils)) := by
 refine (MCalls.body 4 [.tmp 0] Tryz.func43 rfl rfl rfl rfl ?_)
 repeat' (first | (with_reducible first | (refine wN fun _ hnl => ?_; revert hnl; (repeat refine wS fun _ _ => ?_); intro hnl) | refine wE ?_ | (refine wK ?_ ?_ <;> intro h) | (refine wB ?_ ?_ <;> intro h <;> simp only [h])) | simp (maxSteps := 4000000) (disch := first | decide | assumption | omega | (simp only [wL]; omega)) only [go_sem, simprocAttr, Tryz.f43])
 all_goals exact ⟨_, _, by assumption, rfl, rfl⟩
theorem bknew_call : MCalls Tryz.prog 16 [] St.none (fun v σ' => ∃ m l b, l ≠ m ∧ b ≠ m ∧ b ≠ l ∧ v = .ptr b 0 0 ∧ σ' = ((St.none.set m (.mp [])).set l (shO 1 m .nils)).set b (bkO 0 l .nils)) := by
 refine (MCalls.body 4 [.tmp 0] Tryz.func16 rfl rfl rfl rfl ?_)
 repeat' (first | (refine use_new2 shnew_call ?_; intro m l hm hl hlm) | (with_reducible first | (refine wN fun _ hnl => ?_; revert hnl; (repeat refine wS fun _ _ => ?_); intro hnl) | refine wE ?_ | (refine wK ?_ ?_ <;> intro h) | (refine wB ?_ ?_ <;> intro h <;> simp only [h])) | simp (maxSteps := 4000000) (disch := first | decide | assumption | omega | (simp only [wL]; omega)) only [go_sem, simprocAttr, Tryz.f16])
 all_goals exact ⟨_, _, _, by assumption, by assumption, by assumption, rfl, rfl⟩
theorem shnext_call (next : Int) (l m : Nat) (dead : MV) : MCalls Tryz.prog 44 [.ptr l 0 0] (St.none.set l (shO next m dead)) (fun v σ' => v = .int .i64 next ∧ σ' = St.none.set l (shO next m dead)) := by
 refine (MCalls.body 9 [.tmp 2] Tryz.func44 rfl rfl rfl rfl ?_)
 repeat' (first | (with_reducible first | (refine wN fun _ hnl => ?_; revert hnl; (repeat refine wS fun _ _ => ?_); intro hnl) | refine wE ?_ | (refine wK ?_ ?_ <;> intro h) | (refine wB ?_ ?_ <;> intro h <;> simp only [h])) | simp (maxSteps := 4000000) (disch := first | decide | assumption | omega | (simp only [wL]; omega)) only [go_sem, simprocAttr, Tryz.f44])
 all_goals exact ⟨rfl, rfl⟩
theorem keysC_call (m : Nat) : MCalls Tryz.prog 89 [.mapv m] St.none (fun v σ' => ∃ l, v = .fn (.func 138) [] [.ptr l 0 0] ∧ σ' = St.none.set l (.row 165 1 [[.mapv m]])) := by
 refine (MCalls.body 4 [.tmp 2] Tryz.func89 rfl rfl rfl rfl ?_)
 repeat' (first | (with_reducible first | (refine wN fun _ hnl => ?_; revert hnl; (repeat refine wS fun _ _ => ?_); intro hnl) | refine wE ?_ | (refine wK ?_ ?_ <;> intro h) | (refine wB ?_ ?_ <;> intro h <;> simp only [h])) | simp (maxSteps := 4000000) (disch := first | decide | assumption | omega | (simp only [wL]; omega)) only [go_sem, simprocAttr, Tryz.f89])
 all_goals exact ⟨_, rfl, rfl⟩
end Go.Proofs.YtjljgahfkcdhfaaGreatDoor
end

section
namespace Go.Proofs.YtjljgahfkcdhfaaGreatDoor
set_option maxRecDepth 100000
set_option maxHeartbeats 4000000
def cEs (cs : List CA) : List (MV × MV) := cs.map fun c => (.int .i64 c.id, .agg c.c)
def Rise (cs : List CA) : Prop := cs.Pairwise (fun a b => a.id < b.id) ∧ (∀ c, c ∈ cs → 0 ≤ c.id ∧ c.id ≤ 1073741824) ∧ cs.length ≤ 1000000
theorem keysI_cEs (cs : List CA) : keysI (cEs cs) = cs.map CA.id := by
 simp [keysI, cEs, keyI]
theorem isK_cEs (cs : List CA) : ((cEs cs).all fun p => isK .i64 p.1) = true := by
 simp [cEs, isK]
theorem wf_small {n : Int} (h : 0 ≤ n ∧ n ≤ 1099511627776) : (Lit.int .i64 n).wf = true := by
 simp [Lit.wf, IntKind.min, IntKind.signed, IntKind.bits]
 omega
theorem sorted_rise {cs : List CA} (h : cs.Pairwise (fun a b => a.id < b.id)) {ns : List Int} (hp : ns.Perm (cs.map CA.id)) (hs : ns.Pairwise (fun a b => a ≤ b)) : ns = cs.map CA.id :=
 List.Perm.eq_of_pairwise (le := fun a b : Int => a ≤ b) (fun a b _ _ h1 h2 => Int.le_antisymm h1 h2) hs ((List.pairwise_map.2 (h.imp fun h => Int.le_of_lt h))) hp
theorem sortedR_call {l m : Nat} {cs : List CA} (hne : l ≠ m) (hc : Rise cs) :
  MCalls Tryz.prog 88 [.fn (.func 138) [] [.ptr l 0 0]] ((St.none.set l (.row 165 1 [[.mapv m]])).set m (.mp (cEs cs))) fun r σ' =>
   r = .lst 1 (cs.map fun c => [.int .i64 c.id]) false ∧ σ' = (St.none.set l (.row 165 1 [[.mapv m]])).set m (.mp (cEs cs)) := by
 refine (sortedC_call hne (isK_cEs cs) (fun n hn => ?_) (by simp [cEs]; exact hc.2.2)).mono fun r σ' h => ?_
 ·rw [keysI_cEs] at hn
  obtain ⟨c, h1, rfl⟩ := List.mem_map.1 hn
  have := hc.2.1 c h1
  exact wf_small (by omega)
 ·obtain ⟨⟨ns, h1, h2, rfl⟩, rfl⟩ := h
  rw [keysI_cEs] at h1
  rw [sorted_rise hc.1 h1 h2]
  simp
theorem iget_cEs {cs : List CA} (h : cs.Pairwise (fun a b => a.id < b.id)) {i : Nat} {c : CA} (hi : cs[i]? = some c) : iget c.id (cEs cs) = some (.agg c.c) := by
 induction cs generalizing i with
 | nil => simp at hi
 | cons d r ih =>
  obtain ⟨h1, h2⟩ := List.pairwise_cons.1 h
  cases i with
  | zero =>
   simp at hi
   subst hi
   simp [cEs, iget]
  | succ i =>
   have hi : r[i]? = some c := by simpa using hi
   have := h1 c (List.mem_of_getElem? hi)
   have h3 : iget c.id (cEs (d :: r)) = iget c.id (cEs r) := by
    simp only [cEs, List.map_cons, iget]
    rw [if_neg (by omega)]
   rw [h3]
   exact ih h2 hi
theorem shcards_call (next : Int) (l m : Nat) (dead : MV) (cs : List CA) (hlm : l ≠ m) (hc : Rise cs) : MCalls Tryz.prog 45 [.ptr l 0 0] ((St.none.set m (.mp (cEs cs))).set l (shO next m dead)) (fun v σ' => v = .lst 27 (cs.map CA.c) false ∧ σ' = (St.none.set m (.mp (cEs cs))).set l (shO next m dead)) := by
 refine MCalls.seenS (MCalls.body 30 [.tmp 2] Tryz.func45 rfl rfl rfl rfl ?_)
 have hk := keysC_call m
 obtain ⟨K, hK⟩ : ∃ K : List (List MV), (cs.map fun c => [MV.int .i64 c.id]) = K := ⟨_, rfl⟩
 have hkl : K.length = cs.length := by rw [← hK]; simp
 have hnone : ∀ {b : Nat}, (St.none.set m (.mp (cEs cs))).set l (shO next m dead) b = none → b ≠ m ∧ b ≠ l := fun {b} hb =>
  ⟨fun e => by subst e; simp [St.set, Ne.symm hlm] at hb, fun e => by subst e; simp [St.set] at hb⟩
 have hs : ∀ {b : Nat}, (St.none.set m (.mp (cEs cs))).set l (shO next m dead) b = none → MCalls Tryz.prog 88 [.fn (.func 138) [] [.ptr b 0 0]] ((St.none.set b (.row 165 1 [[.mapv m]])).set m (.mp (cEs cs))) fun r σ' =>
   r = .lst 1 K false ∧ σ' = (St.none.set b (.row 165 1 [[.mapv m]])).set m (.mp (cEs cs)) := fun {b} hb => by rw [← hK]; exact sortedR_call (hnone hb).1 hc
 have hle : ∀ {b : Nat}, (St.none.set m (.mp (cEs cs))).set l (shO next m dead) b = none → ((St.none.set b (.row 165 1 [[.mapv m]])).set m (.mp (cEs cs))).le (((St.none.set m (.mp (cEs cs))).set l (shO next m dead)).set b (.row 165 1 [[.mapv m]])) := fun {b} hb =>
  le2 (set_hit _ _ _) ((set_miss _ _ _ _ (Ne.symm (hnone hb).1)).trans ((set_miss _ _ _ _ (Ne.symm hlm)).trans (set_hit _ _ _)))
 have hlen := hc.2.2
 repeat' (first | (refine use_new hk ?_; intro b hb) | ((refine use_same (hs (by assumption)) (hle (by assumption)) ?_)) | (with_reducible first | (refine wT ?_; (first | ((fail_if_success (have := nl1)); refine wN fun nl1 hnl => ?_) | ((fail_if_success (have := nl2)); refine wN fun nl2 hnl => ?_) | refine wN fun _ hnl => ?_); revert hnl; (repeat refine wS fun _ _ => ?_); intro hnl) | refine wE ?_ | (refine wK ?_ ?_ <;> intro h) | (refine wB ?_ ?_ <;> intro h <;> simp only [h])) | simp (maxSteps := 4000000) (disch := first | decide | assumption | omega | (simp only [wL]; omega)) only [go_sem, simprocAttr, Tryz.f45, hkl])
 refine mloop_intro (α := Nat × Nat × List (List MV)) (fun a => ⟨30, [(15, .int .i64 (a.1 : Int)), (14, .int .i64 (cs.length : Int)), (13, .lst 1 K false), (3, .vec 27 a.2.1 0 a.1), (0, .ptr l 0 0)], []⟩)
  (fun a => ((St.none.set m (.mp (cEs cs))).set l (shO next m dead)).set a.2.1 (.row 81 27 ((cs.take a.1).map CA.c ++ a.2.2))) (fun a => a.1 ≤ cs.length ∧ a.2.1 ≠ m ∧ a.2.1 ≠ l) (fun a => cs.length - a.1) ?_ ?_
 ·refine Gh.step (.drop (σ1 := (St.none.set m (.mp (cEs cs))).set l (shO next m dead)) fun j o h => ?_) (Gh.rowNew 81 27 (fun q => [(15, .int .i64 0), (14, .int .i64 (cs.length : Int)), (13, .lst 1 K false), (3, .vec 27 q 0 0), (0, .ptr l 0 0)]) (fun k => by (repeat' (refine And.intro ?_ ?_)) <;> first | exact trivial | exact .inl rfl | exact .inr ⟨rfl, .inl rfl⟩ | exact .inr ⟨rfl, .inr rfl⟩) fun q hq => ?_)
  ·exact (set_miss _ _ _ _ (fun e => by subst e; rw [hb] at h; cases h)).trans h
  ·obtain ⟨q2, hq⟩ := none_ne hq
   obtain ⟨q1, -⟩ := none_ne hq
   exact .done ⟨(0, q, []), rfl, rfl, Nat.zero_le _, q1, q2⟩
 ·rintro ⟨k, q, ex⟩ ⟨hk, q1, q2⟩
  simp only at hk q1 q2 ⊢
  have q1' := Ne.symm q1
  have q2' := Ne.symm q2
  have hml := Ne.symm hlm
  by_cases h8 : k < cs.length
  ·obtain ⟨c, hck⟩ : ∃ c, cs[k]? = some c := ⟨_, List.getElem?_eq_getElem h8⟩
   have hkk : K.getD k [] = [.int .i64 c.id] := by rw [← hK, List.getD_eq_getElem?_getD, List.getElem?_map, hck]; rfl
   have hg := iget_cEs hc.1 hck
   have htake : cs.take (k + 1) = cs.take k ++ [c] := by rw [List.take_add_one, hck]; rfl
   have hall := isK_cEs cs
   have htl : (cs.take k).length = k := by rw [List.length_take]; omega
   obtain ⟨L, hL⟩ : ∃ L, cs.take k = L := ⟨_, rfl⟩
   rw [hL] at htl htake ⊢
   have htk : (L.map CA.c ++ ex).take k = L.map CA.c := by rw [← htl]; exact tk_app
   have hdr : (L.map CA.c ++ ex).drop (k + 1) = ex.drop 1 := by rw [← htl]; exact dr_app
   repeat' (first | (with_reducible first | (refine wT ?_; (first | ((fail_if_success (have := nl1)); refine wN fun nl1 hnl => ?_) | ((fail_if_success (have := nl2)); refine wN fun nl2 hnl => ?_) | refine wN fun _ hnl => ?_); revert hnl; (repeat refine wS fun _ _ => ?_); intro hnl) | refine wE ?_ | (refine wK ?_ ?_ <;> intro h) | (refine wB ?_ ?_ <;> intro h <;> simp only [h])) | simp (maxSteps := 4000000) (disch := first | decide | assumption | omega | (simp only [wL]; omega)) only [go_sem, simprocAttr, Option.getD_some, FYs, hkk, hg, hall, htk, hdr, htl, hkl])
   ·have hex : ex = [] := List.eq_nil_of_length_eq_zero (by omega)
    subst hex
    refine .of (.less ?_ (σ1 := ((St.none.set m (.mp (cEs cs))).set l (shO next m dead)).set nl2 (.row 81 27 (L.map CA.c ++ [] ++ [c.c]))) (le_skip (by simp [St.set, St.none, *]))) ⟨(k + 1, nl2, []), rfl, by simp [htake], ⟨by simp only; omega, by assumption, by assumption⟩, by simp only; omega⟩
    simp (maxSteps := 4000000) (disch := first | decide | assumption | omega | (simp only [wL]; omega)) only [go_sem, simprocAttr, weak_int, weak_same]
    all_goals first | rfl | (simp; done)
   ·refine .of (.less ?_ (σ1 := ((St.none.set m (.mp (cEs cs))).set l (shO next m dead)).set nl2 (.row 81 27 (L.map CA.c ++ [c.c] ++ ex.drop 1))) (le_skip (by simp [St.set, St.none, *]))) ⟨(k + 1, nl2, ex.drop 1), rfl, by simp [htake], ⟨by simp only; omega, by assumption, by assumption⟩, by simp only; omega⟩
    simp (maxSteps := 4000000) (disch := first | decide | assumption | omega | (simp only [wL]; omega)) only [go_sem, simprocAttr, weak_int, weak_same]
    all_goals first | rfl | (simp; done)
  ·have : k = cs.length := by omega
   subst this
   rw [List.take_length]
   repeat' (first | (with_reducible first | (refine wT ?_; (first | ((fail_if_success (have := nl1)); refine wN fun nl1 hnl => ?_) | ((fail_if_success (have := nl2)); refine wN fun nl2 hnl => ?_) | refine wN fun _ hnl => ?_); revert hnl; (repeat refine wS fun _ _ => ?_); intro hnl) | refine wE ?_ | (refine wK ?_ ?_ <;> intro h) | (refine wB ?_ ?_ <;> intro h <;> simp only [h])) | simp (maxSteps := 4000000) (disch := first | decide | assumption | omega | (simp only [wL]; omega)) only [go_sem, simprocAttr, hkl])
   exact seenS_at ((set_miss _ _ _ _ q2).trans (set_miss _ _ _ _ q1)) (by rw [List.length_map])
end Go.Proofs.YtjljgahfkcdhfaaGreatDoor
end

section
namespace Go.Proofs.YtjljgahfkcdhfaaGreatDoor
set_option maxRecDepth 100000
set_option maxHeartbeats 4000000
def fnF : List (FuncId × Fact) → Know
 | [] => fun _ _ => none
 | (g', F) :: r => fun g ms => if g = g' then some F else fnF r g ms
theorem fnF_hit {g : FuncId} {F : Fact} {r : List (FuncId × Fact)} {ms : List MV} : fnF ((g, F) :: r) g ms = some F := by simp [fnF]
theorem fnF_skip {g g' : FuncId} {F F' : Fact} {r : List (FuncId × Fact)} {ms : List MV} (h : fnF r g ms = some F) (hne : (g == g') = false := by rfl) : fnF ((g', F') :: r) g ms = some F := by
 have : g ≠ g' := by simpa using hne
 simp [fnF, this, h]
theorem know_eq {P : Program} {C : Know} {g : FuncId} {ms : List MV} {σ : St} {k : MV → St → Prop} (rd : List Nat) (os : List MObj) {r : MV} (hC : C g ms = some ⟨rd, fun v => v = r, none⟩) (hos : rd.map σ = os.map some)
  (h : MCalls P g ms (St.ofList rd os) fun v σ' => v = r ∧ σ' = St.ofList rd os) (hk : R (mlet r σ k)) : R (mcallC P C g ms σ k) :=
 know_at rd os hC hos h ⟨r, rfl⟩ fun v hv => by subst hv; exact hk
theorem clonedD0_call : MCalls Tryz.prog 90 [.nils] St.none (fun r _ => r = .nils) := by
 refine (MCalls.body 8 [.tmp 2] Tryz.func90 rfl rfl rfl rfl ?_)
 repeat' (first | (with_reducible first | (refine wN fun _ hnl => ?_; revert hnl; (repeat refine wS fun _ _ => ?_); intro hnl) | refine wE ?_ | (refine wK ?_ ?_ <;> intro h) | (refine wB ?_ ?_ <;> intro h <;> simp only [h])) | simp (maxSteps := 4000000) (disch := first | decide | assumption | omega | (simp only [wL]; omega)) only [go_sem, simprocAttr, Tryz.f90])
theorem shdead0_call (next : Int) (l m : Nat) : MCalls Tryz.prog 46 [.ptr l 0 0] (St.none.set l (shO next m .nils)) (fun v σ' => v = .nils ∧ σ' = St.none.set l (shO next m .nils)) := by
 refine (MCalls.body 10 [.tmp 2] Tryz.func46 rfl rfl rfl rfl ?_)
 have h := clonedD0_call
 repeat' (first | (with_reducible first | refine up h ?_) | (with_reducible first | (refine wN fun _ hnl => ?_; revert hnl; (repeat refine wS fun _ _ => ?_); intro hnl) | refine wE ?_ | (refine wK ?_ ?_ <;> intro h) | (refine wB ?_ ?_ <;> intro h <;> simp only [h])) | simp (maxSteps := 4000000) (disch := first | decide | assumption | omega | (simp only [wL]; omega)) only [go_sem, simprocAttr, Tryz.f46])
 all_goals exact ⟨rfl, rfl⟩
abbrev bk0 (m l b : Nat) : St := ((St.none.set m (.mp [])).set l (shO 1 m .nils)).set b (bkO 0 l .nils)
abbrev bk0v : List MV := [.int .i64 0, .int .i64 1, .lst 27 [] false, .nils, .nils]
theorem bkdata0_call (m l b : Nat) (h1 : l ≠ m) (h2 : b ≠ m) (h3 : b ≠ l) : MCalls Tryz.prog 17 [.ptr b 0 0] (bk0 m l b) (fun v σ' => v = .agg bk0v ∧ σ' = bk0 m l b) := by
 refine MCalls.less (Q' := fun v σ' => v = .agg bk0v ∧ (bk0 m l b).le σ') (MCalls.body 51 [.cell 2 26] Tryz.func17 rfl rfl rfl rfl ?_) fun v σ' h => ⟨_, h.2, h.1, rfl⟩
 have d1 : MCalls Tryz.prog 44 [.ptr l 0 0] (St.ofList [l] [shO 1 m .nils]) (fun v σ' => v = .int .i64 1 ∧ σ' = St.ofList [l] [shO 1 m .nils]) := shnext_call 1 l m .nils
 have d2 : MCalls Tryz.prog 45 [.ptr l 0 0] (St.ofList [l, m] [shO 1 m .nils, .mp []]) (fun v σ' => v = .lst 27 [] false ∧ σ' = St.ofList [l, m] [shO 1 m .nils, .mp []]) := shcards_call 1 l m .nils [] h1 ⟨List.Pairwise.nil, by simp, by simp⟩
 have d3 : MCalls Tryz.prog 46 [.ptr l 0 0] (St.ofList [l] [shO 1 m .nils]) (fun v σ' => v = .nils ∧ σ' = St.ofList [l] [shO 1 m .nils]) := shdead0_call 1 l m
 have h1' := Ne.symm h1
 have h2' := Ne.symm h2
 have h3' := Ne.symm h3
 obtain ⟨C, c1, c2, c3⟩ : ∃ C : Know, (∀ ms, C 44 ms = some ⟨[l], fun v => v = .int .i64 1, none⟩) ∧ (∀ ms, C 45 ms = some ⟨[l, m], fun v => v = .lst 27 [] false, none⟩) ∧ (∀ ms, C 46 ms = some ⟨[l], fun v => v = .nils, none⟩) :=
  ⟨fnF [(44, ⟨[l], fun v => v = .int .i64 1, none⟩), (45, ⟨[l, m], fun v => v = .lst 27 [] false, none⟩), (46, ⟨[l], fun v => v = .nils, none⟩)], fun _ => fnF_hit, fun _ => fnF_skip fnF_hit, fun _ => fnF_skip (fnF_skip fnF_hit)⟩
 repeat' (first | ((with_reducible refine mdraw_know mixed ?chk C ?_); (case chk => decide +kernel)) | (with_reducible refine know_eq [l] [shO 1 m .nils] (c1 _) (by simp [St.set, *]) d1 ?_) | (with_reducible refine know_eq [l, m] [shO 1 m .nils, .mp []] (c2 _) (by simp [St.set, *]) d2 ?_) | (with_reducible refine know_eq [l] [shO 1 m .nils] (c3 _) (by simp [St.set, *]) d3 ?_) | (with_reducible first | (refine wT ?_; (first | ((fail_if_success (have := nl1)); refine wN fun nl1 hnl => ?_) | ((fail_if_success (have := nl2)); refine wN fun nl2 hnl => ?_) | refine wN fun _ hnl => ?_); revert hnl; (repeat refine wS fun _ _ => ?_); intro hnl) | refine wE ?_ | (refine wK ?_ ?_ <;> intro h) | (refine wB ?_ ?_ <;> intro h <;> simp only [h])) | simp (maxSteps := 4000000) (disch := first | decide | assumption | omega | (simp only [wL]; omega)) only [go_sem, simprocAttr, Tryz.f17])
 refine mloop_intro (α := Unit) (fun _ => ⟨51, [(34, .int .i64 0), (33, .int .i64 0), (3, .ptr nl2 0 0), (2, .ptr nl1 0 0)], []⟩)
  (fun _ => ((bk0 m l b).set nl1 (.row 26 5 [[.int .i64 0, .int .i64 0, .nils, .nils, .nils]])).set nl2 (.row 26 5 [bk0v])) (fun _ => True) (fun _ => 0) ?_ ?_
 ·refine .of (.less ?_ (St.le_refl _)) ⟨(), rfl, rfl, trivial⟩
  simp (maxSteps := 4000000) (disch := first | decide | assumption | omega | (simp only [wL]; omega)) only [go_sem, simprocAttr, weak_int, weak_same]
  all_goals first | rfl | (simp; done)
 ·rintro ⟨⟩ -
  repeat' (first | (with_reducible first | (refine wT ?_; (first | ((fail_if_success (have := nl1)); refine wN fun nl1 hnl => ?_) | ((fail_if_success (have := nl2)); refine wN fun nl2 hnl => ?_) | refine wN fun _ hnl => ?_); revert hnl; (repeat refine wS fun _ _ => ?_); intro hnl) | refine wE ?_ | (refine wK ?_ ?_ <;> intro h) | (refine wB ?_ ?_ <;> intro h <;> simp only [h])) | simp (maxSteps := 4000000) (disch := first | decide | assumption | omega | (simp only [wL]; omega)) only [go_sem, simprocAttr, Tryz.f17])
  exact le_new2 (by simp [St.set, St.none, *]) (by simp [St.set, St.none, *])
end Go.Proofs.YtjljgahfkcdhfaaGreatDoor
end

section
namespace Go.Proofs.YtjljgahfkcdhfaaGreatDoor
set_option maxRecDepth 100000
set_option maxHeartbeats 4000000
theorem i64load_run (a : Addr) (n : Int) (w : World) (hc : w.cell? a = some (.int .i64 n)) (hs : a.spot = none) : Calls Tryz.prog 48 #[.pointer (some a)] w fun e w' => e = .returned (.int .i64 n) ∧ w' = w := by
 obtain ⟨b, off, sub⟩ := a
 simp only at hs
 subst hs
 have hl := run_call_load (P := Tryz.prog) Tryz.func91 (by kernel_rfl) (by kernel_rfl) (by kernel_rfl) .i64 (by kernel_rfl) hc
 go_enter Tryz.func48, Tryz.ntmps48
 go_wp2
 go_ret
 exact ⟨rfl, rfl⟩
theorem i64store_run (a : Addr) (n x : Int) (w : World) (hc : w.cell? a = some (.int .i64 x)) (hz : w.frozen? a = false) (hs : a.spot = none) : Calls Tryz.prog 58 #[.pointer (some a), .int .i64 n] w fun e w' => e = .returned (.tuple #[]) ∧ w' = w.setCell a (.int .i64 n) := by
 obtain ⟨b, off, sub⟩ := a
 simp only at hs
 subst hs
 have hl := run_call_store (P := Tryz.prog) Tryz.func102 (by kernel_rfl) (by kernel_rfl) (by kernel_rfl) (by kernel_rfl) (k := .i64) (y := n) hc hz
 go_enter Tryz.func58, Tryz.ntmps58
 go_wp2
 go_end0
 exact ⟨rfl, rfl⟩
theorem cell_turnO {Φ : Phi} {w : World} {σ : St} (hi : Inv Φ w σ) {l : Nat} {t : TypeId} {e o : Nat} {c0 m : MV} {x : List MV} (hs : σ l = some (.row t e [x])) (hx0 : x[o]? = some c0) (hm : m.isCell = true) {v : Value} (hv : Rel Φ v m) :
  ∃ p R v0, Φ.obj l = some p ∧ p.blk = some R ∧ w.cell? ⟨R, p.bo + o, none⟩ = some v0 ∧ Rel Φ v0 c0 ∧ w.frozen? ⟨R, p.bo + o, none⟩ = false ∧
   Inv Φ (w.setCell ⟨R, p.bo + o, none⟩ v) (σ.set l (.row t e [x.set o m])) ∧ Step Φ σ w Φ (σ.set l (.row t e [x.set o m])) (w.setCell ⟨R, p.bo + o, none⟩ v) := by
 obtain ⟨p, hp, hpe, q1, q2, q3, q4⟩ := hi.own l _ hs
 have he : x.length = e := q3 0 _ rfl
 have hol : o < x.length := (List.getElem?_eq_some_iff.1 hx0).1
 simp only [List.length_cons, List.length_nil] at q1
 cases hb : p.blk with
 | none => rw [hb] at q4; simp only at q4; omega
 | some R =>
  rw [hb] at q4
  obtain ⟨c, fz, k1, k2, k3, k4⟩ := q4
  have hlt : R < w.heap.size := (Array.getElem?_eq_some_iff.1 k1).1
  obtain ⟨hc0, v0, hv0, hr0⟩ := k4 0 _ o c0 rfl hx0
  simp only [Nat.zero_mul, Nat.zero_add] at hv0
  have hbo : p.bo + o < c.size := (Array.getElem?_eq_some_iff.1 hv0).1
  refine ⟨p, R, v0, hp, hb, by simpa [World.cell?, k1] using hv0, hr0, ?_, ?_⟩
  ·obtain ⟨f1, f2⟩ := fz
   simp only [World.frozen?, k1, Bool.and_eq_false_iff, decide_eq_false_iff_not]
   simp only at k2
   rcases k2 with k2 | k2
   ·by_cases h : f1 ≤ p.bo + o
    ·right; omega
    ·left; exact h
   ·left; omega
  ·rw [setCell_wset k1]
   refine hi.turn l hs _ hp hb wset_size (fun k hk => wset_other hk) rfl rfl rfl (Nat.le_refl _) ⟨p, hp, hpe, by simpa using q1, q2, fun i y hy => ?_, ?_⟩
   ·match i with
    | 0 => simp only [List.getElem?_cons_zero, Option.some.injEq] at hy; subst hy; simpa using he
    | i + 1 => simp at hy
   ·rw [hb]
    refine ⟨_, fz, wset_same hlt, by simpa [FzOk] using k2, by simpa using k3, fun i y j m' hy hm' => ?_⟩
    match i with
    | 0 =>
     simp only [List.getElem?_cons_zero, Option.some.injEq] at hy
     subst hy
     simp only [Nat.zero_mul, Nat.zero_add]
     rw [List.getElem?_set] at hm'
     by_cases hj : o = j
     ·subst hj
      rw [if_pos rfl, if_pos hol] at hm'
      cases hm'
      exact ⟨hm, v, by simp [hbo], hv⟩
     ·rw [if_neg hj] at hm'
      have := k4 0 _ j m' rfl hm'
      simp only [Nat.zero_mul, Nat.zero_add] at this
      rwa [Array.getElem?_setIfInBounds_ne (by omega)]
    | i + 1 => simp at hy
theorem one_ptr {Φ : Phi} {vs : Array Value} {l i o : Nat} {r : List MV} (hr : Rels Φ vs (.ptr l i o :: r)) : ∃ p R, Φ.obj l = some p ∧ p.blk = some R ∧ vs.getD 0 undef = .pointer (some ⟨R, p.bo + i * p.e + o, none⟩) := (hr.2 0 _ rfl).inv_ptr
theorem i64load_call {l o e : Nat} {t : TypeId} {x : List MV} {n : Int} (hx : x[o]? = some (.int .i64 n)) : MCalls Tryz.prog 48 [.ptr l 0 o] (St.none.set l (.row t e [x])) (fun v σ' => v = .int .i64 n ∧ σ' = St.none.set l (.row t e [x])) := by
 refine ⟨⟨_, Tryz.func48, rfl, rfl⟩, fun Φ w vs hi hr => ?_⟩
 obtain ⟨p, R, v0, hp, hb, hc, hr0, hz, i1, s1⟩ := cell_turnO hi (set_hit _ _ _) hx (m := .int .i64 n) rfl (.int .i64 n)
 have e0 := hr0.inv_int
 subst e0
 obtain ⟨p', R', hp', hb', he⟩ := one_ptr hr
 rw [hp] at hp'; cases hp'
 rw [hb] at hb'; cases hb'
 have hv : vs = #[.pointer (some ⟨R, p.bo + o, none⟩)] := by
  have h1 := hr.1
  apply Array.ext
  ·simpa using h1
  ·intro i h3 h4
   have : i = 0 := by simp at h4; omega
   subst this
   simpa [Array.getD_eq_getD_getElem?, Array.getElem?_eq_getElem h3] using he
 subst hv
 refine (i64load_run ⟨R, p.bo + o, none⟩ n w hc rfl).mono ?_
 rintro e' w' ⟨rfl, rfl⟩
 exact ⟨_, _, _, Φ, rfl, .int _ _, hi, .refl _ _ _, rfl, rfl⟩
theorem i64store_call {l o e : Nat} {t : TypeId} {x : List MV} {n k : Int} (hx : x[o]? = some (.int .i64 k)) : MCalls Tryz.prog 58 [.ptr l 0 o, .int .i64 n] (St.none.set l (.row t e [x])) (fun v σ' => v = .tup [] ∧ σ' = St.none.set l (.row t e [x.set o (.int .i64 n)])) := by
 refine ⟨⟨_, Tryz.func58, rfl, rfl⟩, fun Φ w vs hi hr => ?_⟩
 obtain ⟨p, R, v0, hp, hb, hc, hr0, hz, i1, s1⟩ := cell_turnO hi (set_hit _ _ _) hx (m := .int .i64 n) rfl (.int .i64 n)
 have e0 := hr0.inv_int
 subst e0
 obtain ⟨p', R', hp', hb', he⟩ := one_ptr hr
 rw [hp] at hp'; cases hp'
 rw [hb] at hb'; cases hb'
 have he2 := (hr.2 1 _ rfl).inv_int
 have hv : vs = #[.pointer (some ⟨R, p.bo + o, none⟩), .int .i64 n] := by
  have h1 := hr.1
  apply Array.ext
  ·simpa using h1
  ·intro i h3 h4
   match i, h3 with
   | 0, h3 => simpa [Array.getD_eq_getD_getElem?, Array.getElem?_eq_getElem h3] using he
   | 1, h3 => simpa [Array.getD_eq_getD_getElem?, Array.getElem?_eq_getElem h3] using he2
   | i + 2, _ => simp at h4; omega
 subst hv
 refine (i64store_run ⟨R, p.bo + o, none⟩ n k w hc hz rfl).mono ?_
 rintro e' w' ⟨rfl, rfl⟩
 refine ⟨_, .tup [], _, Φ, rfl, .tup rfl (by simp), i1, s1, rfl, ?_⟩
 rw [set_set]
end Go.Proofs.YtjljgahfkcdhfaaGreatDoor
end
