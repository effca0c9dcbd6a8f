/- Parts of the proof, joined. Each part says what it proves, and under which conditions it does: those that its theorems name. -/
import Derived.Test.YtfbodefnblpflaaGreatDoorMci
set_option linter.unusedVariables false
set_option linter.unusedSimpArgs false
set_option maxHeartbeats 4000000
namespace Go.Proofs.YtfbodefnblpflaaGreatDoor
theorem mops_last {P : Program} {ops : Array Oper} {F : Fence} (o : Oper) : ∀ (l : List Oper), (F = Fence.wide ∨ ∃ l0, F = Fence.wide.inRound l0 ∧ ∀ x, x ∈ l ++ [o] → ∀ c, x.op ≠ .defer c) → o.guard = none → ∀ {Q : MQ} {Φ0 : Phi} {σ0 : St} {w0 : World} (f : FR) (σ : St) (Φ : Phi) (w : World) (a : Act),
  mops P ops (fun f σ => sop P o f σ fun v σ' => Q .normal (mput f o.dst v) σ') l f σ → Inv Φ w σ → FRel Φ a.tmps f → DRel Φ w a.defers f.d →
  Step Φ0 σ0 w0 Φ σ w → wpListIn F 0 P ops (lift Φ0 σ0 w0 Q) (l ++ [o]) a w := by
 intro l
 induction l with
 | nil =>
  intro hF hg Q Φ0 σ0 w0 f σ Φ w a h hi hr hd hs
  have hFo : F = Fence.wide ∨ ∃ l0, F = Fence.wide.inRound l0 ∧ ∀ c, o.op ≠ .defer c := hF.imp id fun ⟨l0, e, q⟩ => ⟨l0, e, q o (by simp)⟩
  have h : sop P o f σ fun v σ' => Q .normal (mput f o.dst v) σ' := h
  simp only [List.nil_append]
  have h' : mguard ops f o (sop P o f σ fun v σ' => Q .normal (mput f o.dst v) σ') False := by unfold mguard; rw [hg]; exact h
  unfold wpListIn
  rcases mguard_sound h' hr with ⟨hw, hy⟩ | ⟨hw, hn⟩
  ·rw [if_pos hw]
   refine wpIn_of_wp hFo ?_
   exact h Φ w a _ _ hi hr (fun v mv σ' Φ' w' r1 i1 s1 hk => ⟨mput f o.dst mv, σ', Φ', by rw [put_defers', mput_d]; exact hd.step hi s1, rels_put (hr.mono s1.le) o.dst r1, i1, hs.trans s1, hk⟩)
  ·exact hn.elim
 | cons x rest ih =>
  intro hF hg Q Φ0 σ0 w0 f σ Φ w a h hi hr hd hs
  have hFr : F = Fence.wide ∨ ∃ l0, F = Fence.wide.inRound l0 ∧ ∀ y, y ∈ rest ++ [o] → ∀ c, y.op ≠ .defer c := hF.imp id fun ⟨l0, e, q⟩ => ⟨l0, e, fun y ho => q y (by simp at ho ⊢; exact .inr ho)⟩
  have hFo : F = Fence.wide ∨ ∃ l0, F = Fence.wide.inRound l0 ∧ ∀ c, x.op ≠ .defer c := hF.imp id fun ⟨l0, e, q⟩ => ⟨l0, e, q x (by simp)⟩
  have hfn : ∀ g, F.fn g := fun g => by rcases hF with rfl | ⟨l, rfl, _⟩ <;> trivial
  simp only [mops] at h
  simp only [List.cons_append]
  unfold wpListIn
  rcases mguard_sound h hr with ⟨hw, hy⟩ | ⟨hw, hn⟩
  ·rw [if_pos hw]
   refine wpIn_of_wp hFo ?_
   by_cases hdef : ∃ c, x.op = .defer c
   ·obtain ⟨c, hc⟩ := hdef
    rw [hc] at hy
    have hy : mdefer f c fun f' => mops P ops (fun f σ => sop P o f σ fun v σ' => Q .normal (mput f o.dst v) σ') rest (mput f' x.dst .junk) σ := hy
    obtain ⟨d, f', h1, h2, h3, h4⟩ := mdefer_sound (P := P) (w := w) hc hy hr hd
    unfold Oper.wp
    rw [h1]
    refine ih hFr hg _ _ Φ w _ h4 hi (rels_put (a := { a with defers := d :: a.defers }) h2 x.dst (.junk _)) ?_ hs
    rw [put_defers', mput_d]
    exact h3
   ·exact mstep_sound (fun c hc => hdef ⟨c, hc⟩) hy Φ w a _ _ hi hr (fun v mv σ' Φ' w' r1 i1 s1 hk => ih hFr hg _ _ Φ' w' (a.put x.dst v) hk i1 (rels_put (hr.mono s1.le) x.dst r1) (by rw [put_defers', mput_d]; exact hd.step hi s1) (hs.trans s1))
  ·rw [if_neg (by simp [hw])]
   exact ⟨fun f _ => hfn f, ih hFr hg _ _ Φ w (a.put x.dst undef) hn hi (rels_put hr x.dst rel_undef) (by rw [put_defers', mput_d]; exact hd) hs⟩
theorem mwp_region_last {P : Program} {id : Nat} {ops : Array Oper} {f : FR} {σ : St} {Q : MQ} (l : List Oper) (o : Oper) (he : ops.toList = l ++ [o]) (hg : o.guard = none)
  (h : mops P ops (fun f σ => sop P o f σ fun v σ' => Q .normal (mput f o.dst v) σ') l f σ) : mwp P (.region id ops false) f σ Q :=
 fun F hF Φ w a hi hr hd => wpIn_region_list (by
  rw [he]
  refine mops_last o l ?_ hg f σ Φ w a h hi hr hd (.refl _ _ _)
  have := hF.ops
  rw [he] at this
  exact this)
theorem sop_copy {P : Program} {o : Oper} {f : FR} {σ : St} {k : MV → St → Prop} {t xt el : TypeId} {x y : Operand} (ho : o.op = .call { callee := .builtin .copy, args := #[x, y], argTypes := #[t, xt] }) (ht : (td P t).k = .slice el) (hz : (td P el).ok = true)
  {l l0 n : Nat} {tt : TypeId} {xs ys : List (List MV)} (hx : mval f x = .vec (td P el).size l l0 n) (hsl : σ l = some (.row tt (td P el).size xs)) (hfit : l0 + n ≤ xs.length) (hy : msrc σ (td P el).size (mval f y) = some ys) (hyn : ys.length ≤ n) (h0 : 0 < ys.length)
  (hk : k (.int .i64 (ys.length : Int)) (σ.set l (.row tt (td P el).size (rowLaid xs l0 ys)))) : sop P o f σ k := by
 intro Φ w ac K Q' hi hr hK
 obtain ⟨arr, harr, hrel, hyl⟩ := msrc_sound (P := P) hy hi (rel_mval hr y)
 have rx := rel_mval hr x
 rw [hx] at rx
 generalize hv : ac.eval x = vx at rx
 obtain ⟨ad, cap, p, rfl, hp, hpe, hcap, hncap, hR⟩ := rx.inv_vec
 have hop : ∀ r w', (Builtin.copy_ #[t, xt] o.type #[.slice ad n cap, ac.eval y]).run P w = .ok r w' → (execOp ac.eval o).run P w = .ok (.value r) w' := fun r w' h => by
  unfold execOp
  simp only [ho, resolve, List.map_toArray, List.map_cons, List.map_nil, hv, Sem.run_bind, Sem.run_pure, Result.andThen_ok, invoke]
  show Sem.run P (do pure (Next.value (← Builtin.copy_ #[t, xt] o.type #[.slice ad n cap, ac.eval y]))) w = _
  simp only [Sem.run_bind, h, Result.andThen_ok, Sem.run_pure]
 rcases hR with ⟨R, hb, rfl⟩ | hcap0
 ·obtain ⟨p', hp', hpe', q1, q2, q3, q4⟩ := hi.own l _ hsl
  rw [hp] at hp'; cases hp'
  rw [hb] at q4
  obtain ⟨c, fz, k1, -⟩ := q4
  obtain ⟨r1, r2, i1, s1⟩ := row_laid hi hsl (i0 := l0) (ys := ys) (by omega) hyl hrel hp hb k1
  refine wp_value (hop (.int .i64 (ys.length : Int)) _ ?_) (hK _ _ _ Φ _ (.int _ _) i1 s1 hk)
  unfold Builtin.copy_
  simp only [List.getElem?_toArray, List.getElem?_cons_zero, List.getElem?_cons_succ, Sem.run_bind, run_und' (und_slice ht), Result.andThen_ok, (harr w rfl).1, run_sizeOf' hz, show Nat.min ys.length n = ys.length from Nat.min_eq_left hyn, (harr w rfl).2]
  rw [hpe, run_storeCells' (P := P) _ 0 c w k1 r1 (by simpa using r2) hrel.oneCells]
  rfl
 ·omega
theorem sop_copy0 {P : Program} {o : Oper} {f : FR} {σ : St} {k : MV → St → Prop} {t xt el : TypeId} {x y : Operand} (ho : o.op = .call { callee := .builtin .copy, args := #[x, y], argTypes := #[t, xt] }) (ht : (td P t).k = .slice el) (hz : (td P el).ok = true)
  {l l0 n : Nat} (hx : mval f x = .vec (td P el).size l l0 n) (hy : msrc σ (td P el).size (mval f y) = some [])
  (hk : k (.int .i64 0) σ) : sop P o f σ k := by
 intro Φ w ac K Q' hi hr hK
 obtain ⟨arr, harr, hrel, hyl⟩ := msrc_sound (P := P) hy hi (rel_mval hr y)
 have ha : arr = #[] := by have := hrel.1; simpa using this
 subst ha
 have rx := rel_mval hr x
 rw [hx] at rx
 generalize hv : ac.eval x = vx at rx
 obtain ⟨ad, cap, p, rfl, hp, hpe, hcap, hncap, hR⟩ := rx.inv_vec
 have hop : ∀ r w', (Builtin.copy_ #[t, xt] o.type #[.slice ad n cap, ac.eval y]).run P w = .ok r w' → (execOp ac.eval o).run P w = .ok (.value r) w' := fun r w' h => by
  unfold execOp
  simp only [ho, resolve, List.map_toArray, List.map_cons, List.map_nil, hv, Sem.run_bind, Sem.run_pure, Result.andThen_ok, invoke]
  show Sem.run P (do pure (Next.value (← Builtin.copy_ #[t, xt] o.type #[.slice ad n cap, ac.eval y]))) w = _
  simp only [Sem.run_bind, h, Result.andThen_ok, Sem.run_pure]
 refine wp_value (hop (.int .i64 0) w ?_) (hK _ _ _ Φ w (.int _ _) hi (.refl _ _ _) hk)
 have h1 := (harr w rfl).1
 have h2 := (harr w rfl).2
 simp only [List.length_nil] at h1 h2
 unfold Builtin.copy_
 simp only [List.getElem?_toArray, List.getElem?_cons_zero, List.getElem?_cons_succ, Sem.run_bind, run_und' (und_slice ht), Result.andThen_ok, h1, run_sizeOf' hz, show Nat.min 0 n = 0 from Nat.min_eq_left (Nat.zero_le _), h2]
 cases ad with
 | none => rfl
 | some a => rfl
end Go.Proofs.YtfbodefnblpflaaGreatDoor
