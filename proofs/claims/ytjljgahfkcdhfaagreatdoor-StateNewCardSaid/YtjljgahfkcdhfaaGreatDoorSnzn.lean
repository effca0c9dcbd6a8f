/- Parts of the proof, joined. Each part says what it proves, and under which conditions it does: those that its theorems name. -/
import Derived.Test.YtjljgahfkcdhfaaGreatDoorSnzk
import Derived.Test.YtjljgahfkcdhfaaGreatDoorSnzm
set_option linter.unusedVariables false
set_option linter.unusedSimpArgs false
set_option maxHeartbeats 4000000
section
namespace Go.Proofs.YtjljgahfkcdhfaaGreatDoor
set_option maxRecDepth 100000
set_option maxHeartbeats 8000000
abbrev svq (q : Nat) : List MV := [.int .i64 bkZ.sq, .int .i64 bkZ.nx, .lst 27 (bkZ.cards.map CA.c) false, .lst 3 (bkZ.dead.map DE.c) false, .lst 2 (bkZ.gr.map GR.c) false, .lst 7 [] false, .vec 12 q 0 6]
theorem view_svq {σ : St} {l : List RW} {q : Nat} (h : σ q = some (.row 41 12 (l.map RW.c))) (h6 : l.length = 6) : View σ (.agg (svq q)) (.agg (saR l).c) :=
 .aggL ⟨.same _, .same _, .same _, .same _, .same _, .same _, .vecAll h (by simp [h6]), trivial⟩ rfl
theorem use_wrong {σ : St} {q : Nat} {k : MV → St → Prop} (l : List RW) {n : Int} (hn : (if rowsOk l = true then 0 else 3) = n) (h6 : l.length = 6) (hf : ∀ r, r ∈ l → r.ans.fl.length ≤ 1000000) (h : σ q = some (.row 41 12 (l.map RW.c)))
  (hk : R (mlet (.int .i64 n) σ k)) : R (mcallE Tryz.prog 6 [.agg (svq q)] σ k) := by
 subst hn
 exact use_lend [.agg (saR l).c] (stwrongR_call l (by omega) hf) (by constructor) rfl (views_one (view_svq h h6)) hk
def rowsS : List RW := rowsZ.set 5 ⟨0, 0, { re0 with sq := 1 }⟩
def rowsC (j : Nat) : List RW := rowsZ.set j ⟨0, 0, { re0 with code := 1 }⟩
theorem okZ : rowsOk rowsZ = true := by decide +kernel
theorem okS : rowsOk rowsS = false := by decide +kernel
theorem okC {j : Nat} (h : j < 6) : rowsOk (rowsC j) = false := by
 obtain rfl | rfl | rfl | rfl | rfl | rfl : j = 0 ∨ j = 1 ∨ j = 2 ∨ j = 3 ∨ j = 4 ∨ j = 5 := by omega
 all_goals decide +kernel
theorem flZ : ∀ r, r ∈ rowsZ → r.ans.fl.length ≤ 1000000 := fun r h => by
 rw [List.eq_of_mem_replicate h]; decide
theorem flset {j : Nat} {x : RW} (hx : x.ans.fl = []) : ∀ r, r ∈ rowsZ.set j x → r.ans.fl.length ≤ 1000000 := fun r h => by
 rcases List.mem_or_eq_of_mem_set h with h | rfl
 ·exact flZ r h
 ·rw [hx]; decide
theorem set_none_iff {σ : St} {l k : Nat} {o : MObj} : ((σ.set l o) k = none) = (k ≠ l ∧ σ k = none) := propext ⟨none_ne, fun h => (set_miss _ _ _ _ h.1).trans h.2⟩
def NewSt (L : List RW) : Prop := MCalls Tryz.prog 5 [] St.none (fun v σ' => ∃ q, v = .agg ((saR L).v q) ∧ σ' = St.none.set q (.row 41 12 (L.map RW.c)))
theorem awake_of {L L' : List RW} {R0 : List MV} (hn : NewSt L) (hl : L.length = 6) (hg : (L.map RW.c).getD 5 [] = R0) (hl12 : R0.length = 12) (hset : (L.map RW.c).set 5 (List.take 8 R0 ++ [.int .i64 1] ++ List.drop 9 R0) = L'.map RW.c) (hl' : L'.length = 6)
  (o : rowsOk L = true) (o' : rowsOk L' = false) (f : ∀ r, r ∈ L → r.ans.fl.length ≤ 1000000) (f' : ∀ r, r ∈ L' → r.ans.fl.length ≤ 1000000) : MCalls Tryz.prog 10 [] St.none (fun r _ => r = .bool true) := by
 refine MCalls.drops (MCalls.body 20 [.tmp 0] Tryz.func10 rfl rfl rfl rfl ?_)
 unfold NewSt at hn
 have hlen : (L.map RW.c).length = 6 := by rw [List.length_map, hl]
 repeat' (first | (refine use_new hn ?_; (intro q hq; try (simp only [set_none_iff] at hq; obtain ⟨qa, qb, -⟩ := hq; have qa' := Ne.symm qa; have qb' := Ne.symm qb))) | (with_reducible first | (refine wN fun _ hnl => ?_; revert hnl; (repeat refine wS fun _ _ => ?_); intro hnl) | refine wE ?_ | (refine wK ?_ ?_ <;> intro h) | (refine wB ?_ ?_ <;> intro h <;> simp only [h])) | simp (maxSteps := 4000000) (disch := first | decide | assumption | omega | (simp only [wL]; omega)) only [go_sem, simprocAttr, Tryz.f10, hl, hlen, hg, hset, hl12])
 refine use_wrong L (n := 0) (by rw [if_pos o]) hl f (set_hit _ _ _) ?_
 repeat' (first | (with_reducible first | (refine wN fun _ hnl => ?_; revert hnl; (repeat refine wS fun _ _ => ?_); intro hnl) | refine wE ?_ | (refine wK ?_ ?_ <;> intro h) | (refine wB ?_ ?_ <;> intro h <;> simp only [h])) | simp (maxSteps := 4000000) (disch := first | decide | assumption | omega | (simp only [wL]; omega)) only [go_sem, simprocAttr, hl, hlen, hg, hset, hl12])
 refine use_wrong L' (n := 3) (by rw [if_neg (by simp [o'])]) hl' f' (by simp [St.set, *]) ?_
 repeat' (first | (with_reducible first | (refine wN fun _ hnl => ?_; revert hnl; (repeat refine wS fun _ _ => ?_); intro hnl) | refine wE ?_ | (refine wK ?_ ?_ <;> intro h) | (refine wB ?_ ?_ <;> intro h <;> simp only [h])) | simp (maxSteps := 4000000) (disch := first | decide | assumption | omega | (simp only [wL]; omega)) only [go_sem, simprocAttr, hl, hlen, hg, hset, hl12])
 all_goals first | exact ⟨_, St.le_refl _, rfl⟩ | exact ⟨_, St.le_refl _⟩
end Go.Proofs.YtjljgahfkcdhfaaGreatDoor
end

section
namespace Go.Proofs.YtjljgahfkcdhfaaGreatDoor
set_option maxRecDepth 100000
set_option maxHeartbeats 4000000
abbrev svl (L : List RW) : List MV := [.int .i64 bkZ.sq, .int .i64 bkZ.nx, .lst 27 (bkZ.cards.map CA.c) false, .lst 3 (bkZ.dead.map DE.c) false, .lst 2 (bkZ.gr.map GR.c) false, .lst 7 [] false, .lst 12 (L.map RW.c) false]
theorem law_of {L LC : List RW} {R0 : List MV} {c j : Nat} (dev : Int) (hn : NewSt L) (hl : L.length = 6) (hc : c < 256) (hj : c % 6 = j) (hg : (L.map RW.c).getD j [] = R0) (hl12 : R0.length = 12) (hset : (L.map RW.c).set j (List.take 5 R0 ++ [.int .i64 1] ++ List.drop 6 R0) = LC.map RW.c) (hl' : LC.length = 6)
  (o : rowsOk L = true) (o' : rowsOk LC = false) (f : ∀ r, r ∈ L → r.ans.fl.length ≤ 1000000) (f' : ∀ r, r ∈ LC → r.ans.fl.length ≤ 1000000)
  (ha : MCalls Tryz.prog 10 [] St.none (fun r _ => r = .bool true)) (hrn : MCalls Tryz.prog 9 [] St.none (fun r _ => r = .agg (svl L)))
  (hrs : MCalls Tryz.prog 8 [.agg (saR L).c, .agg (svl L)] St.none (fun r _ => r = .bool true)) (hcd : MCalls Tryz.prog 7 [.agg (saR L).c, .int .i64 dev] St.none (fun r _ => r = .nils)) :
  MCalls Tryz.prog 3 [.int .i64 dev, .int .u8 (c : Int)] St.none (fun r _ => r = .bool true) := by
 refine MCalls.drops (MCalls.body 37 [.tmp 4] Tryz.func3 rfl rfl rfl rfl ?_)
 unfold NewSt at hn
 have hlen : (L.map RW.c).length = 6 := by rw [List.length_map, hl]
 have hw0 := stwrongR_call L (by omega) f
 rw [if_pos o] at hw0
 repeat' (first | (refine use_new hn ?_; intro q hq) | (with_reducible first | (refine wN fun _ hnl => ?_; revert hnl; (repeat refine wS fun _ _ => ?_); intro hnl) | refine wE ?_ | (refine wK ?_ ?_ <;> intro h) | (refine wB ?_ ?_ <;> intro h <;> simp only [h])) | simp (maxSteps := 4000000) (disch := first | decide | assumption | omega | (simp only [wL]; omega)) only [go_sem, simprocAttr, Tryz.f3, hl, hlen])
 have hlw : MCalls Tryz.prog 6 [.agg (svq q)] (St.ofList [q] [.row 41 12 (L.map RW.c)]) (fun v σ' => v = .int .i64 0 ∧ σ' = St.ofList [q] [.row 41 12 (L.map RW.c)]) :=
  MCalls.lend (q := fun v => v = .int .i64 0) hw0 (fun r h => by subst h; constructor) rfl (views_one (view_svq (set_hit _ _ _) hl))
 have hlc : MCalls Tryz.prog 7 [.agg (svq q), .int .i64 dev] (St.ofList [q] [.row 41 12 (L.map RW.c)]) (fun v σ' => v = .nils ∧ σ' = St.ofList [q] [.row 41 12 (L.map RW.c)]) :=
  MCalls.lend (q := fun v => v = .nils) hcd (fun r h => by subst h; constructor) rfl (views_two (view_svq (set_hit _ _ _) hl) (.same _))
 have hls : MCalls Tryz.prog 8 [.agg (svq q), .agg (svl L)] (St.ofList [q] [.row 41 12 (L.map RW.c)]) (fun v σ' => v = .bool true ∧ σ' = St.ofList [q] [.row 41 12 (L.map RW.c)]) :=
  MCalls.lend (q := fun v => v = .bool true) hrs (fun r h => by subst h; constructor) rfl (views_two (view_svq (set_hit _ _ _) hl) (.same _))
 obtain ⟨C, c1, c2, c3, c4⟩ : ∃ C : Know, (∀ ms, C 6 ms = some ⟨[q], fun v => v = .int .i64 0, none⟩) ∧ (∀ ms, C 7 ms = some ⟨[q], fun v => v = .nils, none⟩) ∧ (∀ ms, C 9 ms = some ⟨[], fun v => v = .agg (svl L), none⟩) ∧ (∀ ms, C 8 ms = some ⟨[q], fun v => v = .bool true, none⟩) :=
  ⟨fnF [(6, ⟨[q], fun v => v = .int .i64 0, none⟩), (7, ⟨[q], fun v => v = .nils, none⟩), (9, ⟨[], fun v => v = .agg (svl L), none⟩), (8, ⟨[q], fun v => v = .bool true, none⟩)], fun _ => fnF_hit, fun _ => fnF_skip fnF_hit, fun _ => fnF_skip (fnF_skip fnF_hit), fun _ => fnF_skip (fnF_skip (fnF_skip fnF_hit))⟩
 have hos : [q].map (fun k => (St.none.set q (.row 41 12 (L.map RW.c))) k) = [some (.row 41 12 (L.map RW.c))] := by simp [St.set]
 refine mdraw_know mixed (by decide +kernel) C ?_
 have htm : ((c : Int)).tmod 6 = (j : Int) := by
  subst hj
  rfl
 have hj6 : j < 6 := by omega
 repeat' (first | (with_reducible refine know_eq [q] [.row 41 12 (L.map RW.c)] (c1 _) (by simp [St.set, *]) hlw ?_) | (with_reducible refine know_eq [q] [.row 41 12 (L.map RW.c)] (c2 _) (by simp [St.set, *]) hlc ?_) | (with_reducible refine know_pure (c3 _) hrn ?_) | (with_reducible refine know_eq [q] [.row 41 12 (L.map RW.c)] (c4 _) (by simp [St.set, *]) hls ?_) | (with_reducible first | (refine wN fun _ hnl => ?_; revert hnl; (repeat refine wS fun _ _ => ?_); intro hnl) | refine wE ?_ | (refine wK ?_ ?_ <;> intro h) | (refine wB ?_ ?_ <;> intro h <;> simp only [h])) | simp (maxSteps := 4000000) (disch := first | decide | assumption | omega | (simp only [wL]; omega)) only [go_sem, simprocAttr, hl, hlen, htm, hg, hset, hl12])
 refine use_wrong LC (n := 3) (by rw [if_neg (by simp [o'])]) hl' f' (by simp [St.set, *]) ?_
 repeat' (first | (with_reducible first | refine up ha ?_) | (with_reducible first | (refine wN fun _ hnl => ?_; revert hnl; (repeat refine wS fun _ _ => ?_); intro hnl) | refine wE ?_ | (refine wK ?_ ?_ <;> intro h) | (refine wB ?_ ?_ <;> intro h <;> simp only [h])) | simp (maxSteps := 4000000) (disch := first | decide | assumption | omega | (simp only [wL]; omega)) only [go_sem, simprocAttr, hl, hlen])
 all_goals first | exact ⟨_, St.le_refl _, rfl⟩ | exact ⟨_, St.le_refl _⟩
theorem newZ : NewSt rowsZ := stnewZ_call
theorem setZ {L : List RW} {j : Nat} {c : List MV} (x : RW) (h : x.c = c) : (L.map RW.c).set j c = (L.set j x).map RW.c := by rw [List.map_set, h]
theorem lenZ : rowsZ.length = 6 := List.length_replicate
theorem getZ {j : Nat} (h : j < 6) : (rowsZ.map RW.c).getD j [] = rwZ.c := by
 have h' : j < rowsZ.length := by rw [lenZ]; exact h
 rw [getD_mapd rwZ h']
 congr 1
 exact List.eq_of_mem_replicate (getD_mem rwZ h')
theorem awake_call : MCalls Tryz.prog 10 [] St.none (fun r _ => r = .bool true) :=
 awake_of (L := rowsZ) (L' := rowsS) (R0 := rwZ.c) newZ lenZ (getZ (by omega)) rfl (setZ ⟨0, 0, { re0 with sq := 1 }⟩ rfl) (by rw [rowsS, List.length_set, lenZ]) okZ okS flZ (flset rfl)
theorem stateNew_call (dev : Int) {c : Nat} (hc : c < 256) : MCalls Tryz.prog 3 [.int .i64 dev, .int .u8 (c : Int)] St.none (fun r _ => r = .bool true) := by
 have hj : c % 6 < 6 := Nat.mod_lt _ (by omega)
 have hs := rsame_stZ rowsZ (by rw [lenZ]; omega) flZ
 rw [decide_eq_true rfl] at hs
 exact law_of (L := rowsZ) (LC := rowsC (c % 6)) (R0 := rwZ.c) dev newZ lenZ hc rfl (getZ hj) rfl (setZ ⟨0, 0, { re0 with code := 1 }⟩ rfl) (by rw [rowsC, List.length_set, lenZ]) okZ (okC hj) flZ (flset rfl) awake_call rnew_call hs (stcardsZ_call rowsZ dev)
end Go.Proofs.YtjljgahfkcdhfaaGreatDoor
end
