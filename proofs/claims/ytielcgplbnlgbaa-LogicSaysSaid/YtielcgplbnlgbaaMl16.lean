/- Regions whose order is drawn (2): the operations as what they read and turn. -/
import Derived.Test.YtielcgplbnlgbaaMl15
set_option linter.unusedVariables false
set_option linter.unusedSimpArgs false
namespace Go.Proofs.Ytielcgplbnlgbaa

/-- What is known of calls within a region: what of the store each reads, and what it may answer. -/
abbrev Know := FuncId → List MV → Option (List Nat × (MV → Prop))

def St.ofList : List Nat → List MObj → St
  | l :: ls, o :: os => (St.ofList ls os).set l o
  | _, _ => St.none

def gfail : GF := ([], fun _ => none)
def gpure (pv : PV) : GF := ([], fun _ => pv.map fun x => ⟨x.1, none, none, none, fun _ u => u = x.2⟩)
def galloc (C : Prop) (o : MObj) (v : Nat → MV) : GF := ([], fun _ => some ⟨C, none, none, some o, fun l u => u = v l⟩)
def srcLoc : MV → List Nat
  | .vec _ l _ _ => [l]
  | _ => []
def stOf (os : List MObj) : St := fun _ => os.head?

def gload (P : Program) (t : TypeId) : MV → GF
  | .ptr l i o => ([l], fun os => match os with
    | [.row _ _ xs] => some ⟨(td P t).ok = true ∧ i < xs.length ∧ o + (td P t).size ≤ (xs.getD i []).length ∧ 0 < (td P t).size, none, none, none, fun _ u => u = mpart (td P t) (xs.getD i []) o⟩
    | _ => none)
  | .cptr cs => gpure (some ((td P t).ok = true ∧ (td P t).size ≤ cs.length ∧ 0 < (td P t).size, mpart (td P t) cs 0))
  | _ => gfail

def gstore (P : Program) (t : TypeId) (x y : MV) : GF :=
  match x with
  | .ptr l i o => ([l], fun os => match os with
    | [.row tt e xs] => some ⟨(td P t).ok = true ∧ i < xs.length ∧ y.cells.all MV.isCell = true ∧ y.cells.length = (td P t).size ∧ o + y.cells.length ≤ (xs.getD i []).length, none, some (l, .row tt e (xs.set i (laid (xs.getD i []) o y.cells))), none, fun _ u => u = .junk⟩
    | _ => none)
  | _ => gfail

def gappend (P : Program) (t xt : TypeId) (s x : MV) : GF :=
  match (td P t).k with
  | .slice el => match s with
    | .nils => (srcLoc x, fun os => match msrc (stOf os) (td P el).size x with
      | some ys => some ⟨(td P xt).k.isSrc = true ∧ (td P el).zok = true ∧ Fits ys.length (td P el).bytes, none, none, some (.row el (td P el).size ys), fun l u => u = .vec (td P el).size l 0 ys.length⟩
      | none => none)
    | .lst e xs true => (srcLoc x, fun os => match msrc (stOf os) (td P el).size x with
      | some ys => some ⟨(td P xt).k.isSrc = true ∧ (td P el).zok = true ∧ e = (td P el).size ∧ (xs = [] ∨ 0 < ys.length) ∧ Fits (xs.length + ys.length) (td P el).bytes, none, none, some (.row el (td P el).size (xs ++ ys)), fun l u => u = .vec (td P el).size l 0 (xs.length + ys.length)⟩
      | none => none)
    | .vec e l lo n => (l :: srcLoc x, fun os => match os with
      | .row tt e' xs :: os => match msrc (stOf os) (td P el).size x with
        | some ys => some ⟨(td P xt).k.isSrc = true ∧ (td P el).zok = true ∧ e = (td P el).size ∧ e' = (td P el).size ∧ tt = el ∧ lo + n ≤ xs.length ∧ Fits (n + ys.length) (td P el).bytes, some l, none, some (.row el (td P el).size (appRow xs lo n ys)), fun l' u => u = .vec (td P el).size l' 0 (n + ys.length)⟩
        | none => none
      | _ => none)
    | _ => gfail
  | _ => gfail

def gbuildSlice (P : Program) (ρ : Operand → MV) (t : TypeId) (len : Nat) (parts : Array (Nat × Operand)) : GF :=
  match (td P t).k with
  | .slice el => galloc ((td P el).zok = true ∧ parts.toList.map (·.1) = List.range len ∧ (parts.toList.all fun p => (ρ p.2).cells.all MV.isCell && (ρ p.2).cells.length == (td P el).size) = true ∧ len * (td P el).size ≤ 16777216 ∧ len ≤ 16777216)
      (.row el (td P el).size (parts.toList.map fun p => (ρ p.2).cells)) (fun l => .vec (td P el).size l 0 len)
  | _ => gfail

def gmakeSlice (P : Program) (t : TypeId) (x y : MV) : GF :=
  match (td P t).k, x, y with
  | .slice el, .int .i64 n, .int .i64 c => galloc ((td P el).zok = true ∧ 0 ≤ n ∧ n ≤ c ∧ Fits c.toNat (td P el).bytes) (.row el (td P el).size (List.replicate n.toNat (td P el).zero)) (fun l => .vec (td P el).size l 0 n.toNat)
  | _, _, _ => gfail

def gconvert (P : Program) (s d : TypeId) (x : MV) : GF :=
  match (td P s).k, (td P d).k, x with
  | .str, .slice el, .str b => galloc ((td P el).k = .int .u8 ∧ b.size ≤ 140737488355328) (.row el 1 (b.toList.map fun c => [.int .u8 (c.toNat : Int)])) (fun l => .vec 1 l 0 b.size)
  | .slice el, .str, .str _ => gfail
  | .slice el, .str, x => (srcLoc x, fun os => match msrc (stOf os) 1 x with
    | some ys => some ⟨(td P el).k = .int .u8 ∧ ys.all isByte = true, none, none, none, fun _ u => u = .str (bytesOf ys)⟩
    | none => none)
  | _, _, x => gpure (mconv P s d x)

def gcall (P : Program) (C : Know) (g : FuncId) (ms : List MV) : GF :=
  match C g ms with
  | some (rd, q) => (rd, fun os => some ⟨MCalls P g ms (St.ofList rd os) (fun v σ' => q v ∧ σ' = St.ofList rd os), none, none, none, fun _ u => q u⟩)
  | none => gfail

def gop (P : Program) (C : Know) (f : FR) : Op → GF
  | .alloc t => galloc ((td P t).zok = true) (.row t (td P t).size [(td P t).zero]) (fun l => .ptr l 0 0)
  | .box t x => galloc ((mval f x).cells.all MV.isCell = true) (.row t (mval f x).cells.length [(mval f x).cells]) (fun l => .ptr l 0 0)
  | .load t x => gload P t (mval f x)
  | .store t x y => gstore P t (mval f x) (mval f y)
  | .buildSlice t len parts => gbuildSlice P (mval f) t len parts
  | .makeSlice t x y => gmakeSlice P t (mval f x) (mval f y)
  | .convert s d x => gconvert P s d (mval f x)
  | .call ⟨.builtin .append, args, ts⟩ => match args.toList, ts.toList with
    | [s, x], [t, xt] => gappend P t xt (mval f s) (mval f x)
    | _, _ => gfail
  | .call ⟨.builtin b, args, ts⟩ => if ts.toList.length = args.toList.length then gpure (mbuiltin P b ts.toList.toArray (args.toList.map (mval f))) else gfail
  | .call ⟨.value x, args, ts⟩ => match mval f x with
    | .fn (.func g) ms ns => gcall P C g (ms ++ args.toList.map (mval f) ++ ns)
    | _ => gfail
  | .call ⟨.invoke _ _, _, _⟩ => gfail
  | .defer _ => gfail
  | op => gpure (qop P f op)

/-! ### What the forms read and turn -/

theorem wf_pure (pv : PV) : Wf (gpure pv) ∧ NoW (gpure pv) ∧ NoUpd (gpure pv) ∧ (gpure pv).1 = [] := by
  have key : ∀ os e, (gpure pv).2 os = some e → e.upd = none ∧ e.kill = none := fun os e h => by
    simp only [gpure, Option.map_eq_some_iff] at h
    obtain ⟨x, -, rfl⟩ := h
    exact ⟨rfl, rfl⟩
  exact ⟨fun os e _ h => by simp [key os e h], fun os e _ h => key os e h, fun os e _ h => (key os e h).1, rfl⟩
theorem wf_alloc (C : Prop) (o : MObj) (v : Nat → MV) : Wf (galloc C o v) ∧ NoW (galloc C o v) ∧ NoUpd (galloc C o v) ∧ (galloc C o v).1 = [] := by
  have key : ∀ os e, (galloc C o v).2 os = some e → e.upd = none ∧ e.kill = none := fun os e h => by
    simp only [galloc, Option.some.injEq] at h
    subst h; exact ⟨rfl, rfl⟩
  exact ⟨fun os e _ h => by simp [key os e h], fun os e _ h => key os e h, fun os e _ h => (key os e h).1, rfl⟩
theorem wf_fail : Wf gfail ∧ NoW gfail ∧ NoUpd gfail ∧ gfail.1 = [] := ⟨fun os e _ h => by simp [gfail] at h, fun os e _ h => by simp [gfail] at h, fun os e _ h => by simp [gfail] at h, rfl⟩

def rd0 : Op → Bool
  | .load .. | .store .. | .convert .. | .call ⟨.builtin .append, _, _⟩ | .call ⟨.value _, _, _⟩ => false
  | _ => true
def noUpd : Op → Bool
  | .store .. => false
  | _ => true
def noW : Op → Bool
  | .store .. | .call ⟨.builtin .append, _, _⟩ => false
  | _ => true

theorem wf_load (P : Program) (t : TypeId) (x : MV) : Wf (gload P t x) ∧ NoW (gload P t x) ∧ NoUpd (gload P t x) := by
  unfold gload
  split
  · have key : ∀ (os : List MObj) (e : Eff) (l i o : Nat), (match os with
      | [.row _ _ xs] => some (⟨(td P t).ok = true ∧ i < xs.length ∧ o + (td P t).size ≤ (xs.getD i []).length ∧ 0 < (td P t).size, none, none, none, fun _ u => u = mpart (td P t) (xs.getD i []) o⟩ : Eff)
      | _ => none) = some e → e.upd = none ∧ e.kill = none := by
      intro os e l i o h
      split at h
      · cases h; exact ⟨rfl, rfl⟩
      · cases h
    exact ⟨fun os e _ h => by simp [key os e 0 _ _ h], fun os e _ h => key os e 0 _ _ h, fun os e _ h => (key os e 0 _ _ h).1⟩
  · exact ⟨(wf_pure _).1, (wf_pure _).2.1, (wf_pure _).2.2.1⟩
  · exact ⟨wf_fail.1, wf_fail.2.1, wf_fail.2.2.1⟩

theorem wf_store (P : Program) (t : TypeId) (x y : MV) : Wf (gstore P t x y) := by
  unfold gstore
  split
  · intro os e _ h
    simp only at h
    split at h
    · cases h; simp
    · cases h
  · exact wf_fail.1

theorem wf_append (P : Program) (t xt : TypeId) (s x : MV) : Wf (gappend P t xt s x) ∧ NoUpd (gappend P t xt s x) := by
  unfold gappend
  split
  · split
    · refine ⟨fun os e _ h => ?_, fun os e _ h => ?_⟩ <;>
      · simp only at h
        split at h
        · cases h; simp
        · cases h
    · refine ⟨fun os e _ h => ?_, fun os e _ h => ?_⟩ <;>
      · simp only at h
        split at h
        · cases h; simp
        · cases h
    · refine ⟨fun os e _ h => ?_, fun os e _ h => ?_⟩ <;>
      · simp only at h
        split at h
        · split at h
          · cases h; simp
          · cases h
        · cases h
    · exact ⟨wf_fail.1, wf_fail.2.2.1⟩
  · exact ⟨wf_fail.1, wf_fail.2.2.1⟩

theorem wf_convert (P : Program) (s d : TypeId) (x : MV) : Wf (gconvert P s d x) ∧ NoW (gconvert P s d x) ∧ NoUpd (gconvert P s d x) := by
  unfold gconvert
  split
  · exact ⟨(wf_alloc _ _ _).1, (wf_alloc _ _ _).2.1, (wf_alloc _ _ _).2.2.1⟩
  · exact ⟨wf_fail.1, wf_fail.2.1, wf_fail.2.2.1⟩
  · refine ⟨fun os e _ h => ?_, fun os e _ h => ?_, fun os e _ h => ?_⟩ <;>
    · simp only at h
      split at h
      · cases h; simp
      · cases h
  · exact ⟨(wf_pure _).1, (wf_pure _).2.1, (wf_pure _).2.2.1⟩

theorem wf_call (P : Program) (C : Know) (g : FuncId) (ms : List MV) : Wf (gcall P C g ms) ∧ NoW (gcall P C g ms) ∧ NoUpd (gcall P C g ms) := by
  unfold gcall
  split
  · refine ⟨fun os e _ h => ?_, fun os e _ h => ?_, fun os e _ h => ?_⟩ <;>
    · simp only [Option.some.injEq] at h
      subst h; simp
  · exact ⟨wf_fail.1, wf_fail.2.1, wf_fail.2.2.1⟩

theorem wf_buildSlice (P : Program) (ρ : Operand → MV) (t : TypeId) (len : Nat) (parts : Array (Nat × Operand)) : Wf (gbuildSlice P ρ t len parts) ∧ NoW (gbuildSlice P ρ t len parts) ∧ NoUpd (gbuildSlice P ρ t len parts) ∧ (gbuildSlice P ρ t len parts).1 = [] := by
  unfold gbuildSlice
  split
  · exact wf_alloc _ _ _
  · exact wf_fail

theorem wf_makeSlice (P : Program) (t : TypeId) (x y : MV) : Wf (gmakeSlice P t x y) ∧ NoW (gmakeSlice P t x y) ∧ NoUpd (gmakeSlice P t x y) ∧ (gmakeSlice P t x y).1 = [] := by
  unfold gmakeSlice
  split
  · exact wf_alloc _ _ _
  · exact wf_fail

theorem wf_gop (P : Program) (C : Know) (f : FR) (op : Op) : Wf (gop P C f op) ∧ (noUpd op = true → NoUpd (gop P C f op)) ∧ (noW op = true → NoW (gop P C f op)) ∧ (rd0 op = true → (gop P C f op).1 = []) := by
  cases op
  case load t x => exact ⟨(wf_load _ _ _).1, fun _ => (wf_load _ _ _).2.2, fun _ => (wf_load _ _ _).2.1, fun h => by simp [rd0] at h⟩
  case store t x y => exact ⟨wf_store _ _ _ _, fun h => by simp [noUpd] at h, fun h => by simp [noW] at h, fun h => by simp [rd0] at h⟩
  case convert s d x => exact ⟨(wf_convert _ _ _ _).1, fun _ => (wf_convert _ _ _ _).2.2, fun _ => (wf_convert _ _ _ _).2.1, fun h => by simp [rd0] at h⟩
  case alloc t => exact ⟨(wf_alloc _ _ _).1, fun _ => (wf_alloc _ _ _).2.2.1, fun _ => (wf_alloc _ _ _).2.1, fun _ => rfl⟩
  case box t x => exact ⟨(wf_alloc _ _ _).1, fun _ => (wf_alloc _ _ _).2.2.1, fun _ => (wf_alloc _ _ _).2.1, fun _ => rfl⟩
  case buildSlice t n p => exact ⟨(wf_buildSlice _ _ _ _ _).1, fun _ => (wf_buildSlice _ _ _ _ _).2.2.1, fun _ => (wf_buildSlice _ _ _ _ _).2.1, fun _ => (wf_buildSlice _ _ _ _ _).2.2.2⟩
  case makeSlice t x y => exact ⟨(wf_makeSlice _ _ _ _).1, fun _ => (wf_makeSlice _ _ _ _).2.2.1, fun _ => (wf_makeSlice _ _ _ _).2.1, fun _ => (wf_makeSlice _ _ _ _).2.2.2⟩
  case defer c => exact ⟨wf_fail.1, fun _ => wf_fail.2.2.1, fun _ => wf_fail.2.1, fun _ => rfl⟩
  case call c =>
    obtain ⟨callee, args, ts⟩ := c
    cases callee with
    | value x =>
      simp only [gop]
      split
      · exact ⟨(wf_call _ _ _ _).1, fun _ => (wf_call _ _ _ _).2.2, fun _ => (wf_call _ _ _ _).2.1, fun h => by simp [rd0] at h⟩
      · exact ⟨wf_fail.1, fun _ => wf_fail.2.2.1, fun _ => wf_fail.2.1, fun _ => rfl⟩
    | invoke r m => exact ⟨wf_fail.1, fun _ => wf_fail.2.2.1, fun _ => wf_fail.2.1, fun _ => rfl⟩
    | builtin b =>
      by_cases hb : b = .append
      · subst hb
        simp only [gop]
        split
        · exact ⟨(wf_append _ _ _ _ _).1, fun _ => (wf_append _ _ _ _ _).2, fun h => by simp [noW] at h, fun h => by simp [rd0] at h⟩
        · exact ⟨wf_fail.1, fun _ => wf_fail.2.2.1, fun _ => wf_fail.2.1, fun _ => rfl⟩
      · have : gop P C f (.call ⟨.builtin b, args, ts⟩) = if ts.toList.length = args.toList.length then gpure (mbuiltin P b ts.toList.toArray (args.toList.map (mval f))) else gfail := by
          cases b <;> first | rfl | exact absurd rfl hb
        rw [this]
        split
        · exact ⟨(wf_pure _).1, fun _ => (wf_pure _).2.2.1, fun _ => (wf_pure _).2.1, fun _ => rfl⟩
        · exact ⟨wf_fail.1, fun _ => wf_fail.2.2.1, fun _ => wf_fail.2.1, fun _ => rfl⟩
  all_goals exact ⟨(wf_pure _).1, fun _ => (wf_pure _).2.2.1, fun _ => (wf_pure _).2.1, fun _ => rfl⟩

end Go.Proofs.Ytielcgplbnlgbaa
