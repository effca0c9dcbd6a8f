/- Parts of the proof, joined. Each part says what it proves, and under which conditions it does: those that its theorems name. -/
import Derived.Test.YtjljgahfkcdhfaaGreatDoorSnn
import Derived.Shelf.SlIterI.Nil
import Derived.Shelf.SortM.Plain
import Derived.Shelf.SortM.SortNone
import Derived.Test.YtjljgahfkcdhfaaGreatDoorRows
set_option linter.unusedVariables false
set_option linter.unusedSimpArgs false
set_option maxHeartbeats 4000000
section
namespace Go.Proofs.YtjljgahfkcdhfaaGreatDoor
open Go.Shelf
def lay_keysC_ren : Go.Shelf.Ren := ⟨fun | 7 => 89 | 10 => 138 | n => n, fun | 23 => 165 | 26 => 3 | 3 => 81 | 28 => 170 | 0 => 0 | 27 => 169 | 33 => 217 | 4 => 4 | n => n, fun | n => n⟩
theorem lay_keysC : Go.Proofs.SlLaysZI.n7 Tryz.prog lay_keysC_ren := {
  mixed := by kernel_rfl
  f7 := ⟨Tryz.f89.name, by decide, Tryz.func89.trans (congrArg some (by kernel_rfl))⟩
  f10 := ⟨Tryz.f138.name, by decide, Tryz.func138.trans (congrArg some (by kernel_rfl))⟩
  t0 := Tryz.underlying0
  a0 := Tryz.isAgg0
  z0 := Tryz.sizeOf0
  v0 := Tryz.zeroValue0
  t4 := Tryz.underlying4
  a4 := Tryz.isAgg4
  z4 := Tryz.sizeOf4
  v4 := Tryz.zeroValue4
  t23 := Tryz.underlying165
  a23 := Tryz.isAgg165
  z23 := Tryz.sizeOf165
  v23 := Tryz.zeroValue165
  t26 := Tryz.underlying3
  a26 := Tryz.isAgg3
  z26 := Tryz.sizeOf3
  v26 := Tryz.zeroValue3
  t27 := Tryz.underlying169
  a27 := Tryz.isAgg169
  z27 := Tryz.sizeOf169
  v27 := Tryz.zeroValue169
  t28 := Tryz.underlying170
  a28 := Tryz.isAgg170
  z28 := Tryz.sizeOf170
  v28 := Tryz.zeroValue170
  t33 := Tryz.underlying217
  a33 := Tryz.isAgg217
  z33 := Tryz.sizeOf217
  v33 := Tryz.zeroValue217 }
def lay_sortedI_ren : Go.Shelf.Ren := ⟨fun | 6 => 88 | 8 => 136 | 9 => 137 | 11 => 168 | 13 => 170 | 12 => 169 | 23 => 196 | 24 => 197 | 14 => 187 | 15 => 188 | 16 => 189 | 17 => 190 | 18 => 191 | 19 => 192 | 20 => 193 | 21 => 194 | 22 => 195 | 25 => 218 | 26 => 219 | 27 => 220 | 28 => 221 | 29 => 222 | 30 => 162 | 31 => 230 | n => n, fun | 26 => 3 | 28 => 170 | 24 => 60 | 0 => 0 | 3 => 3 | 37 => 218 | 48 => 37 | 50 => 258 | 4 => 4 | 40 => 251 | 39 => 250 | 45 => 227 | 5 => 5 | 9 => 9 | 51 => 267 | 55 => 271 | 57 => 277 | 58 => 278 | 33 => 217 | n => n, fun | n => n⟩
theorem lay_sortedI : Go.Proofs.SlLaysZI.n6 Tryz.prog lay_sortedI_ren := {
  mixed := by kernel_rfl
  f6 := ⟨Tryz.f88.name, by decide, Tryz.func88.trans (congrArg some (by kernel_rfl))⟩
  f8 := ⟨Tryz.f136.name, by decide, Tryz.func136.trans (congrArg some (by kernel_rfl))⟩
  f11 := ⟨Tryz.f168.name, by decide, Tryz.func168.trans (congrArg some (by kernel_rfl))⟩
  t0 := Tryz.underlying0
  a0 := Tryz.isAgg0
  z0 := Tryz.sizeOf0
  v0 := Tryz.zeroValue0
  t24 := Tryz.underlying60
  a24 := Tryz.isAgg60
  z24 := Tryz.sizeOf60
  v24 := Tryz.zeroValue60
  t26 := Tryz.underlying3
  a26 := Tryz.isAgg3
  z26 := Tryz.sizeOf3
  v26 := Tryz.zeroValue3
  t28 := Tryz.underlying170
  a28 := Tryz.isAgg170
  z28 := Tryz.sizeOf170
  v28 := Tryz.zeroValue170
  i26 := by kernel_rfl }
def lay_sortI_ren : Go.Shelf.Ren := ⟨fun | 5 => 137 | 8 => 170 | 7 => 169 | 19 => 196 | 20 => 197 | 10 => 187 | 11 => 188 | 12 => 189 | 13 => 190 | 14 => 191 | 15 => 192 | 16 => 193 | 17 => 194 | 18 => 195 | 30 => 218 | 31 => 219 | 32 => 220 | 33 => 221 | 34 => 222 | 35 => 162 | 40 => 230 | n => n, fun | 23 => 60 | 25 => 3 | 3 => 3 | 32 => 218 | 22 => 60 | 0 => 0 | 44 => 37 | 46 => 258 | 4 => 4 | 36 => 251 | 35 => 250 | 41 => 227 | 5 => 5 | 9 => 9 | 53 => 267 | 57 => 271 | 63 => 277 | 64 => 278 | n => n, fun | n => n⟩
theorem lay_sortI : Go.Proofs.SlLaysM.n5 Tryz.prog lay_sortI_ren := {
  mixed := by kernel_rfl
  f5 := ⟨Tryz.f137.name, by decide, Tryz.func137.trans (congrArg some (by kernel_rfl))⟩
  f7 := ⟨Tryz.f169.name, by decide, Tryz.func169.trans (congrArg some (by kernel_rfl))⟩
  f8 := Tryz.func170.trans (congrArg some (by kernel_rfl))
  f10 := ⟨Tryz.f187.name, by decide, Tryz.func187.trans (congrArg some (by kernel_rfl))⟩
  f11 := ⟨Tryz.f188.name, by decide, Tryz.func188.trans (congrArg some (by kernel_rfl))⟩
  f12 := ⟨Tryz.f189.name, by decide, Tryz.func189.trans (congrArg some (by kernel_rfl))⟩
  f13 := ⟨Tryz.f190.name, by decide, Tryz.func190.trans (congrArg some (by kernel_rfl))⟩
  f14 := ⟨Tryz.f191.name, by decide, Tryz.func191.trans (congrArg some (by kernel_rfl))⟩
  f15 := ⟨Tryz.f192.name, by decide, Tryz.func192.trans (congrArg some (by kernel_rfl))⟩
  f16 := ⟨Tryz.f193.name, by decide, Tryz.func193.trans (congrArg some (by kernel_rfl))⟩
  f17 := ⟨Tryz.f194.name, by decide, Tryz.func194.trans (congrArg some (by kernel_rfl))⟩
  f18 := ⟨Tryz.f195.name, by decide, Tryz.func195.trans (congrArg some (by kernel_rfl))⟩
  f19 := Tryz.func196.trans (congrArg some (by kernel_rfl))
  f20 := Tryz.func197.trans (congrArg some (by kernel_rfl))
  f30 := ⟨Tryz.f218.name, by decide, Tryz.func218.trans (congrArg some (by kernel_rfl))⟩
  f31 := Tryz.func219.trans (congrArg some (by kernel_rfl))
  f32 := Tryz.func220.trans (congrArg some (by kernel_rfl))
  f33 := ⟨Tryz.f221.name, by decide, Tryz.func221.trans (congrArg some (by kernel_rfl))⟩
  f34 := ⟨Tryz.f222.name, by decide, Tryz.func222.trans (congrArg some (by kernel_rfl))⟩
  f35 := ⟨Tryz.f162.name, by decide, Tryz.func162.trans (congrArg some (by kernel_rfl))⟩
  f40 := ⟨Tryz.f230.name, by decide, Tryz.func230.trans (congrArg some (by kernel_rfl))⟩
  t0 := Tryz.underlying0
  a0 := Tryz.isAgg0
  z0 := Tryz.sizeOf0
  v0 := Tryz.zeroValue0
  t3 := Tryz.underlying3
  a3 := Tryz.isAgg3
  z3 := Tryz.sizeOf3
  v3 := Tryz.zeroValue3
  t4 := Tryz.underlying4
  a4 := Tryz.isAgg4
  z4 := Tryz.sizeOf4
  v4 := Tryz.zeroValue4
  t5 := Tryz.underlying5
  a5 := Tryz.isAgg5
  z5 := Tryz.sizeOf5
  v5 := Tryz.zeroValue5
  t9 := Tryz.underlying9
  a9 := Tryz.isAgg9
  z9 := Tryz.sizeOf9
  v9 := Tryz.zeroValue9
  t22 := Tryz.underlying60
  a22 := Tryz.isAgg60
  z22 := Tryz.sizeOf60
  v22 := Tryz.zeroValue60
  t23 := Tryz.underlying60
  a23 := Tryz.isAgg60
  z23 := Tryz.sizeOf60
  v23 := Tryz.zeroValue60
  t25 := Tryz.underlying3
  a25 := Tryz.isAgg3
  z25 := Tryz.sizeOf3
  v25 := Tryz.zeroValue3
  t32 := Tryz.underlying218
  a32 := Tryz.isAgg218
  z32 := Tryz.sizeOf218
  v32 := Tryz.zeroValue218
  t35 := Tryz.underlying250
  a35 := Tryz.isAgg250
  z35 := Tryz.sizeOf250
  v35 := Tryz.zeroValue250
  t36 := Tryz.underlying251
  a36 := Tryz.isAgg251
  z36 := Tryz.sizeOf251
  v36 := Tryz.zeroValue251
  t41 := Tryz.underlying227
  a41 := Tryz.isAgg227
  z41 := Tryz.sizeOf227
  v41 := Tryz.zeroValue227
  t44 := Tryz.underlying37
  a44 := Tryz.isAgg37
  z44 := Tryz.sizeOf37
  v44 := Tryz.zeroValue37
  t46 := Tryz.underlying258
  a46 := Tryz.isAgg258
  z46 := Tryz.sizeOf258
  v46 := Tryz.zeroValue258
  t53 := Tryz.underlying267
  a53 := Tryz.isAgg267
  z53 := Tryz.sizeOf267
  v53 := Tryz.zeroValue267
  t57 := Tryz.underlying271
  a57 := Tryz.isAgg271
  z57 := Tryz.sizeOf271
  v57 := Tryz.zeroValue271
  t63 := Tryz.underlying277
  a63 := Tryz.isAgg277
  z63 := Tryz.sizeOf277
  v63 := Tryz.zeroValue277
  t64 := Tryz.underlying278
  a64 := Tryz.isAgg278
  z64 := Tryz.sizeOf278
  v64 := Tryz.zeroValue278 }
end Go.Proofs.YtjljgahfkcdhfaaGreatDoor
end

section
namespace Go.Proofs.YtjljgahfkcdhfaaGreatDoor
open Go.MapKept Go.RowKit Go.Maps Go.Sort Go.Shelf
open Go.WideElems (Fit rd rg)
def keyI : MV → Int
 | .int _ n => n
 | _ => 0
def keysI (es : List (MV × MV)) : List Int := es.map fun p => keyI p.1
def noRead {H : Type} (_ : Value) : Option (DataW H × List MemPlace) := some (.lit (.bool true), [])
theorem owns_mp {H : Type} {P : Program} {Φ : Phi} {w : World} {l : Nat} {es : List (MV × MV)} {k : TypeId} (h : OwnOk Φ w l (.mp es)) (hk : P.underlying k = some (.int .i64))
  (he : (es.all fun p => isK .i64 p.1) = true) (hwf : ∀ n ∈ keysI es, (Lit.int .i64 n).wf = true) (hl : es.length ≤ maxLen) :
  ∃ (p : Place) (b : Nat) (D0 : DataW H), Φ.obj l = some p ∧ p.blk = some b ∧ w.ownsMap P k noRead b es.length D0 ∧ (intKeys D0).Perm (keysI es) ∧ Maps.size D0 = es.length := by
 obtain ⟨p, R, c, clock, hp, hR, hh, hs, hst, hrel⟩ := h.mapAt
 have key : ∀ (i : Nat) (e : MapEntry), c.toList[i]? = some e → Go.WideElems.rd (H := H) P k noRead e = some (Lit.int .i64 ((keysI es).getD i 0), .lit (.bool true)) := fun i e hi => by
  have hlt : i < es.length := by
   have := (List.getElem?_eq_some_iff.1 hi).1
   rw [← hs]; simpa using this
  obtain ⟨e', q1, q2, _⟩ := hrel i es[i] (List.getElem?_eq_getElem hlt)
  rw [hi] at q1; cases q1
  have hik := List.all_eq_true.1 he es[i] (List.getElem_mem hlt)
  obtain ⟨n, hn⟩ := isK_int hik
  rw [hn] at q2
  have hkn : (keysI es).getD i 0 = n := by
   simp [keysI, List.getD_eq_getElem?_getD, List.getElem?_eq_getElem hlt, hn, keyI]
  have hw := hwf n (by
   rw [keysI, List.mem_map]
   exact ⟨es[i], List.getElem_mem hlt, by rw [hn]; rfl⟩)
  rw [hkn]
  simp [Go.WideElems.rd, noRead, q2.inv_int, keyOf, mapKey, hk, hw]
 have hF : Fit (H := H) P k noRead c clock := ⟨by rw [hs]; exact hl, hst, fun x hx => by
  obtain ⟨i, hi, rfl⟩ := List.mem_iff_getElem.1 hx
  exact ⟨_, key i _ (List.getElem?_eq_getElem hi)⟩⟩
 have hmap : (c.toList.map (rg (H := H) P k noRead)).map (fun q => Go.intOf q.1) = keysI es := by
  refine List.ext_getElem? fun i => ?_
  simp only [List.map_map, List.getElem?_map]
  rcases Nat.lt_or_ge i es.length with hi | hi
  ·have hc : i < c.toList.length := by simpa [hs] using hi
   rw [List.getElem?_eq_getElem hc]
   have h1 := key i _ (List.getElem?_eq_getElem hc)
   simp only [Option.map_some, Function.comp, Go.WideElems.rg_of h1]
   have h2 : i < (keysI es).length := by simpa [keysI] using hi
   simp [Go.intOf, List.getD_eq_getElem?_getD, List.getElem?_eq_getElem h2]
  ·rw [List.getElem?_eq_none (by simpa [hs] using hi), List.getElem?_eq_none (by simpa [keysI] using hi)]
   rfl
 refine ⟨p, R, .map ((c.toList.map (rg P k noRead)).foldr DataW.insert []), hp, hR, ⟨c, clock, hh, hF, by omega, rfl⟩, ?_, ?_⟩
 ·show (((c.toList.map (rg P k noRead)).foldr DataW.insert []).map fun q => Go.intOf q.1).Perm _
  rw [← hmap]
  exact (Go.WideShapes.sorted_perm _).map _
 ·show ((c.toList.map (rg P k noRead)).foldr DataW.insert []).length = _
  rw [length_sorted]; simp [hs]
theorem Inv.shotNew {Φ : Phi} {w w' : World} {σ : St} (hi : Inv Φ w σ) (hi' : Inv Φ w' σ) (st : Step Φ σ w Φ σ w') (g : Nat) (hg : w.heap.size ≤ g) :
  Inv (Φ.shot w' (fun k => k = g)) w' σ ∧ Step Φ σ w (Φ.shot w' (fun k => k = g)) σ w' := by
 have hle := shot_le Φ w' (fun k => k = g)
 refine ⟨⟨fun l o h => (hi'.own l o h).mono hle (fun _ _ _ _ => rfl), hi'.inj, fun a v hv => ?_, fun l o p R a v hl hp hR hv => ?_, hi.fresh.1, fun q i v h => hle.snap _ _ (hi.fresh.2 q i v h)⟩,
  ⟨hle, st.os, st.tape, st.output, st.drawn, st.size, st.block, fun a v hv => ?_, st.locs, st.ownd⟩⟩
 ·rcases shot_snap hv with q | ⟨_, q⟩
  ·exact hi'.snap a v q
  ·exact q
 ·rcases shot_snap hv with q | ⟨q, _⟩
  ·exact hi'.apart l o p R a v hl hp hR q
  ·intro e
   obtain ⟨p', hp', hlt⟩ := (hi.own l o hl).place
   rw [show Φ.obj l = some p from hp] at hp'
   cases hp'
   have := hlt R hR
   have q : R = g := by rw [← e]; exact q
   omega
 ·rcases shot_snap hv with q | ⟨q, _⟩
  ·exact .inl q
  ·have q : a.block = g := q
   exact .inr (.inl (by omega))
theorem sorted_keys {P : Program} {ρ ρk : Ren} (L6 : SlLaysZI.n6 P ρ) (L10 : SlLaysZI.n10 P ρk) (hs : ∀ m, AnyZI.SortsIn P ρ Fence.wide m)
  (e9 : ∀ args w, (callFunc (ρ.f 9) args).run P w = .ok (.enter (ρ.f 9) args) w) (eg : ∀ args w, (callFunc (ρk.f 10) args).run P w = .ok (.enter (ρk.f 10) args) w) (hent : Enters P (ρ.f 6))
  {l l2 : Nat} {tm : TypeId} {es : List (MV × MV)} (hne : l ≠ l2) (he : (es.all fun p => isK .i64 p.1) = true) (hwf : ∀ n ∈ keysI es, (Lit.int .i64 n).wf = true) (hl : es.length ≤ 1000000) :
  MCalls P (ρ.f 6) [.fn (.func (ρk.f 10)) [] [.ptr l 0 0]] ((St.none.set l (.row tm 1 [[.mapv l2]])).set l2 (.mp es)) fun r σ' =>
   (∃ ns : List Int, ns.Perm (keysI es) ∧ ns.Pairwise (fun a b => a ≤ b) ∧ r = .lst 1 (ns.map fun n => [.int .i64 n]) false) ∧ σ' = (St.none.set l (.row tm 1 [[.mapv l2]])).set l2 (.mp es) := by
 obtain ⟨σ0, hσ0⟩ : ∃ σ0 : St, (St.none.set l (.row tm 1 [[.mapv l2]])).set l2 (.mp es) = σ0 := ⟨_, rfl⟩
 have h2 : σ0 l2 = some (.mp es) := by rw [← hσ0]; exact set_hit _ _ _
 have h1 : σ0 l = some (.row tm 1 [[.mapv l2]]) := by rw [← hσ0]; simp [St.set, hne]
 rw [hσ0]
 refine ⟨hent, fun Φ w vs hi hr => ?_⟩
 obtain ⟨first, cap, e0, r1, r2⟩ := (hr.2 0 _ rfl).inv_fn
 have hf0 : first = #[] := by have := r1.1; simp at this; exact this
 subst hf0
 have hcs : cap.size = 1 := r2.1
 obtain ⟨p, R, hp, hR, hc⟩ := (r2.2 0 _ rfl).inv_ptr
 have hbo : p.bo = 0 := hi.fresh.1.2 l p hp
 have hcap : cap = #[.pointer (some ⟨R, 0, none⟩)] := by
  refine Array.ext (by simpa using hcs) fun i q1 q2 => ?_
  have hi0 : i = 0 := by omega
  subst hi0
  have := hc
  rw [hbo] at this
  simp [Array.getD, q1] at this
  exact this
 have hvs : vs = #[.func (.func (ρk.f 10)) #[] #[.pointer (some ⟨R, 0, none⟩)]] := by
  have hz := hr.1
  simp at hz
  refine Array.ext (by simpa using hz) fun i q1 q2 => ?_
  have hi0 : i = 0 := by omega
  subst hi0
  have := e0
  rw [hcap] at this
  simp [Array.getD, q1] at this
  exact this
 subst hvs
 -- the map
 obtain ⟨p2, b, D0, hp2, hb2, hown, hperm, hsz⟩ := owns_mp (H := Unit) (P := P) (k := ρk.t 26) (hi.own l2 _ h2) L10.t26 he hwf (Nat.le_trans hl (by decide))
 -- the box
 obtain ⟨p', hp', hpe, hlen, hmax, hx, hmatch⟩ := hi.own l _ h1
 rw [hp] at hp'
 cases hp'
 rw [hR] at hmatch
 obtain ⟨c, fz, hheap, _, _, hcell⟩ := hmatch
 obtain ⟨_, v, hv, hrel⟩ := hcell 0 _ 0 _ rfl rfl
 obtain ⟨p3, R3, hp3, hR3, rfl⟩ := hrel.inv_mapv
 rw [hp2] at hp3
 cases hp3
 rw [hb2] at hR3
 cases hR3
 have hRlt : R < w.heap.size := by
  obtain ⟨q, _⟩ := Array.getElem?_eq_some_iff.1 hheap; exact q
 have hcl : w.cell? ⟨R, 0, none⟩ = some (.map (some b)) := by
  simp only [World.cell?, hheap]
  rw [hbo] at hv
  simpa using hv
 have hseq := AnyZI.keys_gives (H := Unit) (ρ := ρk) L10 Fence.wide 2 trivial rfl (by omega) R b es.length D0 w hRlt hcl hown
 have cS := AnyZI.sorted_in L6 Fence.wide 5 trivial trivial trivial trivial rfl (by omega) (hs _) e9 (ρk.f 10) _ trivial eg _ (Maps.size D0) (by rw [hsz]; exact Nat.le_trans hl (by decide)) (by rw [hsz]; omega) w hseq
 refine (callsIn_wide.1 cS).mono ?_
 rintro e w' ⟨v, ss, rfl, hS, hrow, hnil, hb⟩
 obtain ⟨i2, s2⟩ := hi.grow (w' := w') hb.os hb.tape hb.output (by simp [drw, DR]) hb.size hb.block
 have hpm : (ss.mergeSort (fun x y => decide (x ≤ y))).Perm (keysI es) := (List.mergeSort_perm ss _).trans (hS.trans hperm)
 have hpw : (ss.mergeSort (fun x y => decide (x ≤ y))).Pairwise (fun a b => a ≤ b) := (List.pairwise_mergeSort (le := fun x y : Int => decide (x ≤ y)) (fun a b c => by simp; omega) (fun a b => by simp; omega) ss).imp (fun h => by simpa using h)
 generalize hns : ss.mergeSort (fun x y => decide (x ≤ y)) = ns at *
 have hnl : ns.length = ss.length := by rw [← hns]; exact List.length_mergeSort ss
 rcases hrow.2 with ⟨rfl, hz⟩ | ⟨g, capn, cur, rfl, hbase, hgb, q1, q2, q3, q4⟩
 ·have hn0 : ns = [] := List.eq_nil_of_length_eq_zero (by omega)
  subst hn0
  exact ⟨_, _, σ0, Φ, rfl, .lstn 1 false, i2, s2, ⟨[], hpm, hpw, rfl⟩, rfl⟩
 ·obtain ⟨i3, s3⟩ := hi.shotNew i2 s2 g hbase
  have h0 : 0 < ss.length := by
   rcases Nat.eq_zero_or_pos ss.length with h | h
   ·have := hnil.2 (List.eq_nil_of_length_eq_zero h)
    cases this
   ·exact h
  refine ⟨_, .lst 1 (ns.map fun n => [.int .i64 n]) false, σ0, _, rfl, ?_, i3, s3, ⟨ns, hpm, hpw, rfl⟩, rfl⟩
  have hat : ∀ i, i < ns.length → w'.cell? ⟨g, i, none⟩ = some (.int .i64 (ns.getD i 0)) := fun i hi' => by
   have e1 : (cur.toList.take (ss.length * 1))[i]? = (ns.map encZ)[i]? := by rw [q4]
   rw [List.getElem?_take, if_pos (by omega), List.getElem?_map, List.getElem?_eq_getElem hi'] at e1
   simp only [World.cell?, hgb]
   simp at e1
   simp [e1, List.getD_eq_getElem?_getD, List.getElem?_eq_getElem hi', encZ]
  have hsn : ∀ i, i < ns.length → (Φ.shot w' (fun k => k = g)).snap ⟨g, i, none⟩ = some (.int .i64 (ns.getD i 0)) := fun i hi' => by
   simp only [Phi.shot]
   split
   ·rename_i u hu
    have := World.block_lt_of_cell? w _ (hi.snap _ _ hu)
    simp only at this
    omega
   ·simp [hat i hi']
  refine Rel.lst (vs := fun i _ => .int .i64 (ns.getD i 0)) (by simpa using hnl) h0 q1 q2 (fun h => by cases h) (fun i x hx => ?_) (fun i x j m hx hm => ?_) (fun i x j m hx hm => ?_)
  all_goals
   rw [List.getElem?_map, Option.map_eq_some_iff] at hx
   obtain ⟨n, hn, rfl⟩ := hx
  ·rfl
  ·have hin := (List.getElem?_eq_some_iff.1 hn).1
   have hj : j = 0 := by
    have := (List.getElem?_eq_some_iff.1 hm).1
    simpa using this
   subst hj
   simp at hm
   subst hm
   exact ⟨rfl, by simpa using hsn i hin⟩
  ·have hj : j = 0 := by
    have := (List.getElem?_eq_some_iff.1 hm).1
    simpa using this
   subst hj
   simp at hm
   subst hm
   simp [List.getD_eq_getElem?_getD, hn]
   exact .int _ _
theorem sortsI (m : Nat) : AnyZI.SortsIn Tryz.prog lay_sortedI_ren Fence.wide m :=
 ⟨fun blk off cap ss W hH hblk hsz => callsIn_wide.2 (AnyM.slices_Sort_int lay_sortI blk off cap ss W hH hblk hsz),
  fun p cap W => callsIn_wide.2 (AnyM.slices_Sort_int_none lay_sortI p cap W)⟩
theorem sortedC_call {l l2 : Nat} {es : List (MV × MV)} (hne : l ≠ l2) (he : (es.all fun p => isK .i64 p.1) = true) (hwf : ∀ n ∈ keysI es, (Lit.int .i64 n).wf = true) (hl : es.length ≤ 1000000) :
  MCalls Tryz.prog 88 [.fn (.func 138) [] [.ptr l 0 0]] ((St.none.set l (.row 165 1 [[.mapv l2]])).set l2 (.mp es)) fun r σ' =>
   (∃ ns : List Int, ns.Perm (keysI es) ∧ ns.Pairwise (fun a b => a ≤ b) ∧ r = .lst 1 (ns.map fun n => [.int .i64 n]) false) ∧ σ' = (St.none.set l (.row 165 1 [[.mapv l2]])).set l2 (.mp es) :=
 sorted_keys (ρ := lay_sortedI_ren) (ρk := lay_keysC_ren) lay_sortedI { lay_keysC with } sortsI (enters_of Tryz.func137 (by kernel_rfl) rfl) (enters_of Tryz.func138 (by kernel_rfl) rfl) ⟨_, Tryz.func88, rfl, rfl⟩ hne he hwf hl
end Go.Proofs.YtjljgahfkcdhfaaGreatDoor
end
