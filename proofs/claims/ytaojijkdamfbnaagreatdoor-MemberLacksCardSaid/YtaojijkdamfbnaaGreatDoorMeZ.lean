/- It is proved that the law MemberLacks returns true for every input, and that each argument reads behind the call as before, the listed table laid as the program's text lays it: no condition. -/
import Derived.Test.YtaojijkdamfbnaaGreatDoorMezl
import Derived.Test.YtaojijkdamfbnaaGreatDoorMezn
import Derived.Test.YtaojijkdamfbnaaGreatDoorCards
import Derived.Test.YtaojijkdamfbnaaGreatDoorTie
set_option linter.unusedVariables false
set_option linter.unusedSimpArgs false
namespace Go.Proofs.YtaojijkdamfbnaaGreatDoor
open Go.ChangeShapes Go.WideShapes Go.RowKit
set_option maxRecDepth 100000
theorem bytes_card : Tryz.prog.bytesOf 42 = 280 := by kernel_rfl
theorem memberLacks_at {a b : MV} (ha : AT Tryz.prog 10 30 a) (hb : AT Tryz.prog 10 22 b) (hz : ∀ (xs : List (List MV)) (tt : Bool), b = .lst 27 xs tt → xs.length * 280 ≤ reachBytes) : aA Tryz.prog 4 [a, b] St.none (fun r _ => r = .bool true) := by
 obtain ⟨xa, rfl⟩ := OT ha
 obtain ⟨xb, rfl⟩ := M0 hb
 have h := hz _ _ rfl
 simp only [List.length_map, reachBytes] at h
 exact qM xa xb (by omega)
theorem memberLacks_ats {P : Program} {n : Nat} {t u : TypeId} : ∀ {ms : List MV}, ATs P n [t, u] ms → ∃ a b, ms = [a, b] ∧ AT P n t a ∧ AT P n u b
 | [a, b], ⟨ha, hb, _⟩ => ⟨a, b, rfl, ha, hb⟩
theorem memberLacks_params : Tryz.f4.params.toList = [30, 22] := by kernel_rfl
theorem memberLacks_lifted (os : Os) (started : os.Started) (H : Type) (enc : TypeId × Value → H) :
  ReturnsInHanded {} Tryz.checked os 4 .any (fun w args => (Rows.memberLacksSpec.pre enc Tryz.prog Tryz.f4 Rows.memberLacksRow.domain Rows.memberLacksRow.apart w args ∧ laidMetH Tryz.prog Bp w) ∧ sizedMet enc Tryz.prog Tryz.f4 (OpenSpec.ofChange Rows.memberLacksSpec) Rows.memberLacksRow.apart w args) (Rows.memberLacksSpec.post enc Tryz.prog Tryz.f4 Rows.memberLacksRow.apart Rows.memberLacksRow.fresh Rows.memberLacksRow.handsOn Rows.memberLacksRow.again) :=
 tI (C := Tryz.checked) (fn := Tryz.f4) (n := 10) (laid := Bp) rfl (fun H ds h => match ds, h with | [_, _], _ => rfl) rfl (by kernel_rfl) (by kernel_rfl) (by decide +kernel) (by decide +kernel) Du O1 started (by kernel_rfl) Tryz.func4
  (ChangeSpec.witness_shaped (enc := enc) (C := Tryz.checked) (os := os) (X := fun w _ => laidMetH Tryz.prog Bp w) false (World.doorLaid Tryz.prog 40 os) #[.agg #[.int .i64 0, .int .i64 0, .slice none 0 0, .slice none 0 0, .slice none 0 0, .slice none 0 0, .int .u32 0, .int .i64 0], .slice none 0 0] 12 rfl (World.shaped_of_RefB (by kernel_rfl) (by kernel_rfl)) (by kernel_rfl) (by kernel_rfl) (by kernel_rfl) (IK os _)) fun ms h hz => by
   obtain ⟨a, b, rfl, ha, hb⟩ := memberLacks_ats (memberLacks_params ▸ h)
   exact memberLacks_at ha hb fun xs tt e => by
    have := hz 1 22 42 27 xs tt (by rw [memberLacks_params]; rfl) Tryz.underlying22 (by rw [e]; rfl)
    rwa [show Tryz.checked.prog.bytesOf 42 = 280 from bytes_card] at this
theorem memberLacks_joined : joinedFacts PC 4 Tryz.f4 Rows.memberLacksSpec Rows.memberLacksRow = true :=
 zL (by kernel_rfl) Lu Lx (by kernel_rfl) (by kernel_rfl) (by kernel_rfl) Je (by kernel_rfl) Jb GJ tL zN GH (by kernel_rfl) (by kernel_rfl) (by kernel_rfl) (by kernel_rfl) (by kernel_rfl) (by kernel_rfl) (by kernel_rfl) (by kernel_rfl) (by kernel_rfl) Lt (by kernel_rfl) Ja I9 Jc Lw rfl (by kernel_rfl) (by kernel_rfl) (by kernel_rfl) (by kernel_rfl)
theorem memberLacks_row : Rows.MemberLacksSaid :=
 OpenClaim.holds_of_wide 4 Tryz.f4 rfl rfl rfl rfl rfl rfl rfl ⟨rfl, rfl, rfl, rfl, rfl⟩ rfl rfl rfl rfl rfl Bu Tryz.func4 memberLacks_joined
  (of_decide_eq_true (by kernel_rfl)) (by unfold Func.isWrapper; first | (rw [if_pos (by decide +kernel)]; kernel_rfl) | (rw [if_neg (by decide +kernel)]; exact ⟨rfl, rfl⟩))
  (fun os started H enc _ => memberLacks_lifted os started H enc)
theorem memberLacks_stand : ∀ (j : Nat) t, Tryz.f4.params[j]? = some t → PC.wantsStandIn t = false := fun j t ht => by
 have hall : Tryz.f4.params.toList.all (fun t => PC.wantsStandIn t == false) = true := by kernel_rfl
 have hm : t ∈ Tryz.f4.params.toList := by
  rw [Array.mem_toList_iff]
  exact Array.mem_of_getElem? ht
 exact beq_iff_eq.1 (List.all_eq_true.1 hall t hm)
theorem memberLacks_goes : false = Rows.memberLacksRow.goesBy PC := by kernel_rfl
theorem memberLacks_text : Rows.memberLacksRow.wfByText (OpenSpec.ofChange Rows.memberLacksSpec) = true := by kernel_rfl
theorem memberLacks_holds : Rows.MemberLacksCardSaid :=
 Claim7.holds_tied_plain_at .later [] [.data] true Rows.memberLacksCard.stood.harness Rows.memberLacksCard.stood.looks
  memberLacks_row (fun _ h => by cases h) memberLacks_text (fun _ h => by cases h) memberLacks_row_tie rfl ⟨rfl, rfl⟩ Lv rfl
  (fun f fn hf hfn => by
   obtain rfl : f = 4 := Option.some.inj (Bu.symm.trans hf) |>.symm
   obtain rfl : fn = Tryz.f4 := (Option.some.inj (Tryz.func4.symm.trans hfn)).symm
   exact ⟨Jd, memberLacks_stand⟩)
  memberLacks_goes
end Go.Proofs.YtaojijkdamfbnaaGreatDoor
