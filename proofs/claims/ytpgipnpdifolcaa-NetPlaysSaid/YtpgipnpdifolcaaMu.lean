/- That this translation holds sync.Mutex. -/
import Derived.Test.YtpgipnpdifolcaaRows
import Derived.Test.YtpgipnpdifolcaaMl21
import Derived.Conc.MuLib
import Derived.KernelRfl
namespace Go.Proofs.Ytpgipnpdifolcaa
abbrev mu : Go.Conc.Locks.MuLink := { lock := 18, unlock := 19, ilock := 21, iunlock := 22, lockSlow := 27, unlockSlow := 30, disable := 23, enable := 25, acquire := 26, relMerge := 28, cas32 := 24, add32 := 29, tMutex := 53, tIMutex := 51, tPMutex := 57, tPIMutex := 58, tPI32 := 60, tUP := 62, tNoCopy := 48, tU32 := 49 }
theorem muLib : Go.Conc.Locks.MuLib Try.prog mu :=
  ⟨Try.func18, Try.func19, Try.func21, Try.func22, Try.func23, Try.func25, Try.func26, Try.func28, Try.func24, Try.func29, Try.underlying51, Try.runUnderlying51, Try.sizeOf51, Try.isAgg51, Try.zeroValue51, Try.underlying53, Try.runUnderlying53, Try.sizeOf53, Try.isAgg53, Try.zeroValue53, Try.underlying57, Try.runUnderlying57, Try.sizeOf57, Try.isAgg57, Try.zeroValue57, Try.underlying58, Try.runUnderlying58, Try.sizeOf58, Try.isAgg58, Try.zeroValue58, Try.underlying60, Try.runUnderlying60, Try.sizeOf60, Try.isAgg60, Try.zeroValue60, Try.underlying62, Try.runUnderlying62, Try.sizeOf62, Try.isAgg62, Try.zeroValue62, Try.underlying48, Try.runUnderlying48, Try.sizeOf48, Try.isAgg48, Try.zeroValue48, Try.underlying21, Try.runUnderlying21, Try.sizeOf21, Try.isAgg21, Try.zeroValue21, (by kernel_rfl)⟩
theorem mu_lock {σ : St} {k : MV → St → Prop} {l : Nat} (h : R (mlockv 0 1 (E (σ l)) l σ k)) : R (mcallE Try.prog 18 [.ptr l 0 0] σ k) := go_lock muLib h
theorem mu_unlock {σ : St} {k : MV → St → Prop} {l : Nat} (h : R (mlockv 1 0 (E (σ l)) l σ k)) : R (mcallE Try.prog 19 [.ptr l 0 0] σ k) := go_unlock muLib h
theorem mu_end {σ : St} {K : St → Prop} {l : Nat} (h : R (mlockv 1 0 (E (σ l)) l σ fun _ σ1 => K σ1)) : R (MDefers Try.prog 19 [.ptr l 0 0] σ K) := go_end muLib h
end Go.Proofs.Ytpgipnpdifolcaa
