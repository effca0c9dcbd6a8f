/- It is proved that the law MemberNone returns true for every input, and that each argument reads behind the call as before, the listed table laid as the program's text lays it: no condition. -/
import Derived.Test.YtaojijkdamfbnaaGreatDoorMfzn
import Derived.Test.YtaojijkdamfbnaaGreatDoorCards
import Derived.Test.YtaojijkdamfbnaaGreatDoorTie
set_option linter.unusedVariables false
set_option linter.unusedSimpArgs false
namespace Go.Proofs.YtaojijkdamfbnaaGreatDoor
open Go.ChangeShapes Go.WideShapes Go.RowKit
set_option maxRecDepth 100000
theorem bytes_card : Tryz.prog.bytesOf 42 = 280 := by kernel_rfl
theorem memberNone_at {a b : MV} (ha : AT Tryz.prog 10 30 a) (hb : AT Tryz.prog 10 22 b) (hz : ∀ (xs : List (List MV)) (tt : Bool), b = .lst 27 xs tt → xs.length * 280 ≤ reachBytes) : aA Tryz.prog 5 [a, b] St.none (fun r _ => r = .bool true) := by
 obtain ⟨xa, rfl⟩ := Oh ha
 obtain ⟨xb, rfl⟩ := Mq hb
 have h := hz _ _ rfl
 simp only [List.length_map, reachBytes] at h
 exact rP xa xb (by omega)
theorem memberNone_ats {P : Program} {n : Nat} {t u : TypeId} : ∀ {ms : List MV}, ATs P n [t, u] ms → ∃ a b, ms = [a, b] ∧ AT P n t a ∧ AT P n u b
 | [a, b], ⟨ha, hb, _⟩ => ⟨a, b, rfl, ha, hb⟩
theorem memberNone_params : Tryz.f5.params.toList = [30, 22] := by kernel_rfl
theorem memberNone_lifted (os : Os) (started : os.Started) (H : Type) (enc : TypeId × Value → H) :
  ReturnsInHanded {} Tryz.checked os 5 .any (fun w args => (Rows.memberNoneSpec.pre enc Tryz.prog Tryz.f5 Rows.memberNoneRow.domain Rows.memberNoneRow.apart w args ∧ laidMetH Tryz.prog AX w) ∧ sizedMet enc Tryz.prog Tryz.f5 (OpenSpec.ofChange Rows.memberNoneSpec) Rows.memberNoneRow.apart w args) (Rows.memberNoneSpec.post enc Tryz.prog Tryz.f5 Rows.memberNoneRow.apart Rows.memberNoneRow.fresh Rows.memberNoneRow.handsOn Rows.memberNoneRow.again) :=
 sU (C := Tryz.checked) (fn := Tryz.f5) (n := 10) (laid := AX) rfl (fun H ds h => match ds, h with | [_, _], _ => rfl) rfl (by kernel_rfl) (by kernel_rfl) (by decide +kernel) (by decide +kernel) C6 Ot started (by kernel_rfl) Tryz.func5
  (ChangeSpec.witness_shaped (enc := enc) (C := Tryz.checked) (os := os) (X := fun w _ => laidMetH Tryz.prog AX w) false (World.doorLaid Tryz.prog 40 os) #[.agg #[.int .i64 0, .int .i64 0, .slice none 0 0, .slice none 0 0, .slice none 0 0, .slice none 0 0, .int .u32 0, .int .i64 0], .slice none 0 0] 12 rfl (World.shaped_of_RefB (by kernel_rfl) (by kernel_rfl)) (by kernel_rfl) (by kernel_rfl) (by kernel_rfl) (Ij os _)) fun ms h hz => by
   obtain ⟨a, b, rfl, ha, hb⟩ := memberNone_ats (memberNone_params ▸ h)
   exact memberNone_at ha hb fun xs tt e => by
    have := hz 1 22 42 27 xs tt (by rw [memberNone_params]; rfl) Tryz.underlying22 (by rw [e]; rfl)
    rwa [show Tryz.checked.prog.bytesOf 42 = 280 from bytes_card] at this
theorem memberNone_joined : joinedFacts PC 5 Tryz.f5 Rows.memberNoneSpec Rows.memberNoneRow = true :=
 yR (by kernel_rfl) KY K3 (by kernel_rfl) (by kernel_rfl) (by kernel_rfl) IJ (by kernel_rfl) IG Gd sX yT Gc (by kernel_rfl) (by kernel_rfl) (by kernel_rfl) (by kernel_rfl) (by kernel_rfl) (by kernel_rfl) (by kernel_rfl) (by kernel_rfl) (by kernel_rfl) KX (by kernel_rfl) IF IE IH K0 rfl (by kernel_rfl) (by kernel_rfl) (by kernel_rfl) (by kernel_rfl)
theorem memberNone_row : Rows.MemberNoneSaid :=
 OpenClaim.holds_of_wide 5 Tryz.f5 rfl rfl rfl rfl rfl rfl rfl ⟨rfl, rfl, rfl, rfl, rfl⟩ rfl rfl rfl rfl rfl A5 Tryz.func5 memberNone_joined
  (of_decide_eq_true (by kernel_rfl)) (by unfold Func.isWrapper; first | (rw [if_pos (by decide +kernel)]; kernel_rfl) | (rw [if_neg (by decide +kernel)]; exact ⟨rfl, rfl⟩))
  (fun os started H enc _ => memberNone_lifted os started H enc)
theorem memberNone_stand : ∀ (j : Nat) t, Tryz.f5.params[j]? = some t → PC.wantsStandIn t = false := fun j t ht => by
 have hall : Tryz.f5.params.toList.all (fun t => PC.wantsStandIn t == false) = true := by kernel_rfl
 have hm : t ∈ Tryz.f5.params.toList := by
  rw [Array.mem_toList_iff]
  exact Array.mem_of_getElem? ht
 exact beq_iff_eq.1 (List.all_eq_true.1 hall t hm)
theorem memberNone_goes : false = Rows.memberNoneRow.goesBy PC := by kernel_rfl
theorem memberNone_text : Rows.memberNoneRow.wfByText (OpenSpec.ofChange Rows.memberNoneSpec) = true := by kernel_rfl
theorem memberNone_holds : Rows.MemberNoneCardSaid :=
 Claim7.holds_tied_plain_at .later [] [.data] true Rows.memberNoneCard.stood.harness Rows.memberNoneCard.stood.looks
  memberNone_row (fun _ h => by cases h) memberNone_text (fun _ h => by cases h) memberNone_row_tie rfl ⟨rfl, rfl⟩ KZ rfl
  (fun f fn hf hfn => by
   obtain rfl : f = 5 := Option.some.inj (A5.symm.trans hf) |>.symm
   obtain rfl : fn = Tryz.f5 := (Option.some.inj (Tryz.func5.symm.trans hfn)).symm
   exact ⟨II, memberNone_stand⟩)
  memberNone_goes
end Go.Proofs.YtaojijkdamfbnaaGreatDoor
