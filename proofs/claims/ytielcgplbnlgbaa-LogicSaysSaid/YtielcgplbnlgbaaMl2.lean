/- Types as the logic needs them, and the operations that neither read nor write memory. -/
import Derived.Test.YtielcgplbnlgbaaMl1
set_option linter.unusedVariables false
set_option linter.unusedSimpArgs false
namespace Go.Proofs.Ytielcgplbnlgbaa

inductive TK where
  | bool | int (k : IntKind) | str | ptr (e : TypeId) | slice (e : TypeId) | array (n : Nat) (e : TypeId) | struct (fs : List (Nat × TypeId)) | map (k e : TypeId) | func | iface | other
  deriving Inhabited

def TK.isAgg : TK → Bool
  | .array .. | .struct _ => true
  | _ => false

structure TD where
  ok : Bool := false
  size : Nat := 0
  bytes : Nat := 0
  zok : Bool := false
  zero : List MV := []
  k : TK := .other
  deriving Inhabited

def tkOf : TypeDesc → TK
  | .bool => .bool
  | .int k => .int k
  | .string => .str
  | .pointer e => .ptr e
  | .slice e => .slice e
  | .array n e => .array n e
  | .struct fs => .struct (fs.toList.map fun f => (f.offset, f.type))
  | .map k e => .map k e
  | .func _ _ _ => .func
  | .interface _ => .iface
  | _ => .other

def zIsAgg : Value → Bool
  | .agg _ => true
  | _ => false

/-- Is a type's zero value there, and of its shape? -/
def zOk (size : Nat) (agg : Bool) : Option Value → Bool
  | some z => z.cells.size == size && z.cells.toList.all (fun v => (ofV v).isCell) && (agg == zIsAgg z)
  | none => false

def zCells : Option Value → List MV
  | some z => z.cells.toList.map ofV
  | none => []

def tdOf (i : TypeInfo) (d : TypeDesc) : TD := { ok := true, size := i.size, bytes := i.bytes, zok := zOk i.size (tkOf d).isAgg i.zero, zero := zCells i.zero, k := tkOf d }

def td (P : Program) (t : TypeId) : TD :=
  match P.info? t with
  | none => {}
  | some i => match P.underlying t with
    | none => {}
    | some d => tdOf i d

section
variable {P : Program} {t : TypeId}

theorem td_cases (P : Program) (t : TypeId) : td P t = {} ∨ ∃ i d, P.info? t = some i ∧ P.underlying t = some d ∧ td P t = tdOf i d := by
  unfold td
  split
  · exact .inl rfl
  · split
    · exact .inl rfl
    · exact .inr ⟨_, _, by assumption, by assumption, rfl⟩

theorem td_info (h : (td P t).ok = true) : ∃ i d, P.info? t = some i ∧ P.underlying t = some d ∧ (td P t).size = i.size ∧ (td P t).bytes = i.bytes ∧ (td P t).k = tkOf d := by
  rcases td_cases P t with hn | ⟨i, d, hi, hd, he⟩
  · rw [hn] at h; cases h
  · exact ⟨i, d, hi, hd, by rw [he]; rfl, by rw [he]; rfl, by rw [he]; rfl⟩

theorem und_of {k : TK} (h : (td P t).k = k) (hne : k ≠ .other) : (td P t).ok = true := by
  rcases td_cases P t with hn | ⟨i, d, hi, hd, he⟩
  · rw [hn] at h; exact absurd h.symm hne
  · rw [he]; rfl

theorem run_sizeOf' (h : (td P t).ok = true) (w : World) : (sizeOf t).run P w = .ok (td P t).size w := by
  obtain ⟨i, d, hi, hd, hs, hb, hk⟩ := td_info h
  simp [sizeOf, typeInfo, hi, hs]

theorem run_und' {d : TypeDesc} (h : P.underlying t = some d) (w : World) : (underlying t).run P w = .ok d w := by
  simp [underlying, h]

theorem run_isAgg' (h : (td P t).ok = true) (w : World) : (isAgg t).run P w = .ok (td P t).k.isAgg w := by
  obtain ⟨i, d, hi, hd, hs, hb, hk⟩ := td_info h
  rw [hk]
  simp only [isAgg, Sem.run_bind, run_und' hd, Result.andThen_ok]
  cases d <;> rfl

theorem und_slice {e : TypeId} (h : (td P t).k = .slice e) : P.underlying t = some (.slice e) := by
  obtain ⟨i, d, hi, hd, hs, hb, hk⟩ := td_info (und_of h (by simp))
  rw [hk] at h
  cases d <;> simp [tkOf] at h
  rw [hd, h]

theorem und_array {n : Nat} {e : TypeId} (h : (td P t).k = .array n e) : P.underlying t = some (.array n e) := by
  obtain ⟨i, d, hi, hd, hs, hb, hk⟩ := td_info (und_of h (by simp))
  rw [hk] at h
  cases d <;> simp [tkOf] at h
  rw [hd, h.1, h.2]

theorem und_struct {fs : List (Nat × TypeId)} (h : (td P t).k = .struct fs) : ∃ fa : Array Field, P.underlying t = some (.struct fa) ∧ fs = fa.toList.map fun f => (f.offset, f.type) := by
  obtain ⟨i, d, hi, hd, hs, hb, hk⟩ := td_info (und_of h (by simp))
  rw [hk] at h
  cases d <;> simp [tkOf] at h
  exact ⟨_, hd, h.symm⟩

theorem und_str (h : (td P t).k = .str) : P.underlying t = some .string := by
  obtain ⟨i, d, hi, hd, hs, hb, hk⟩ := td_info (und_of h (by simp))
  rw [hk] at h
  cases d <;> simp [tkOf] at h
  exact hd

theorem und_int {k : IntKind} (h : (td P t).k = .int k) : P.underlying t = some (.int k) := by
  obtain ⟨i, d, hi, hd, hs, hb, hk⟩ := td_info (und_of h (by simp))
  rw [hk] at h
  cases d <;> simp [tkOf] at h
  rw [hd, h]

theorem und_bool (h : (td P t).k = .bool) : P.underlying t = some .bool := by
  obtain ⟨i, d, hi, hd, hs, hb, hk⟩ := td_info (und_of h (by simp))
  rw [hk] at h
  cases d <;> simp [tkOf] at h
  exact hd

theorem und_ptr {e : TypeId} (h : (td P t).k = .ptr e) : P.underlying t = some (.pointer e) := by
  obtain ⟨i, d, hi, hd, hs, hb, hk⟩ := td_info (und_of h (by simp))
  rw [hk] at h
  cases d <;> simp [tkOf] at h
  rw [hd, h]

theorem und_map {k e : TypeId} (h : (td P t).k = .map k e) : P.underlying t = some (.map k e) := by
  obtain ⟨i, d, hi, hd, hs, hb, hk⟩ := td_info (und_of h (by simp))
  rw [hk] at h
  cases d <;> simp [tkOf] at h
  rw [hd, h.1, h.2]

theorem und_iface (h : (td P t).k = .iface) : ∃ ms, P.underlying t = some (.interface ms) := by
  obtain ⟨i, d, hi, hd, hs, hb, hk⟩ := td_info (und_of h (by simp))
  rw [hk] at h
  cases d <;> simp [tkOf] at h
  exact ⟨_, hd⟩

/-- The zero value. -/
theorem run_zero' (h : (td P t).zok = true) (w : World) : ∃ z, (zeroValue t).run P w = .ok z w ∧ z.cells.toList.map ofV = (td P t).zero ∧ z.cells.size = (td P t).size ∧ (td P t).ok = true ∧
    (∀ v, v ∈ z.cells.toList → (ofV v).isCell = true) ∧ ((td P t).k.isAgg = true → ∃ cs, z = .agg cs) ∧ ((td P t).k.isAgg = false → z.cells = #[z]) := by
  rcases td_cases P t with hn | ⟨i, d, hi, hd, he⟩
  · rw [hn] at h; cases h
  · rw [he] at h ⊢
    simp only [tdOf] at h ⊢
    cases hz : i.zero with
    | none => simp [hz, zOk] at h
    | some z =>
      simp only [hz, zOk, Bool.and_eq_true, beq_iff_eq, List.all_eq_true] at h
      refine ⟨z, by simp [zeroValue, typeInfo, hi, hz], rfl, h.1.1, trivial, h.1.2, fun hk => ?_, fun hk => ?_⟩
      · rw [hk] at h
        cases z <;> simp [zIsAgg] at h ⊢
      · rw [hk] at h
        cases z <;> first | rfl | simp [zIsAgg] at h
end

theorem add_none (b off n : Nat) : (⟨b, off, none⟩ : Addr).add n = ⟨b, off + n, none⟩ := by
  unfold Addr.add; split <;> simp_all

/-! ## What a value of the model is, by what the logic says it is -/
section
variable {Φ : Phi} {v : Value}

theorem Rel.inv_bool {b : Bool} (h : Rel Φ v (.bool b)) : v = .bool b := by cases h; rfl
theorem Rel.inv_int {k : IntKind} {n : Int} (h : Rel Φ v (.int k n)) : v = .int k n := by cases h; rfl
theorem Rel.inv_str {s : ByteArray} (h : Rel Φ v (.str s)) : v = .string s := by cases h; rfl
theorem Rel.inv_nilp (h : Rel Φ v .nilp) : v = .pointer none := by cases h; rfl
theorem Rel.inv_nils (h : Rel Φ v .nils) : v = .slice none 0 0 := by cases h; rfl
theorem Rel.inv_nilm (h : Rel Φ v .nilm) : v = .map none := by cases h; rfl
theorem Rel.inv_nilfn (h : Rel Φ v .nilfn) : v = .nilFunc := by cases h; rfl
theorem Rel.inv_nili (h : Rel Φ v .nili) : v = .nilIface := by cases h; rfl
theorem Rel.inv_ptr {l i o : Nat} (h : Rel Φ v (.ptr l i o)) : ∃ p R, Φ.obj l = some p ∧ p.blk = some R ∧ v = .pointer (some ⟨R, p.bo + i * p.e + o, none⟩) := by cases h with | ptr ho hb => exact ⟨_, _, ho, hb, rfl⟩
theorem Rel.inv_cptr {cs : List MV} (h : Rel Φ v (.cptr cs)) : ∃ (b off : Nat) (vs : Nat → Value), v = .pointer (some ⟨b, off, none⟩) ∧ (∀ (j : Nat) (m : MV), cs[j]? = some m → m.isCell = true ∧ Φ.snap ⟨b, off + j, none⟩ = some (vs j)) ∧ ∀ (j : Nat) (m : MV), cs[j]? = some m → Rel Φ (vs j) m := by
  cases h with | cptr vs hc hr => exact ⟨_, _, vs, rfl, hc, hr⟩
theorem Rel.inv_tup {ms : List MV} (h : Rel Φ v (.tup ms)) : ∃ cs : Array Value, v = .tuple cs ∧ cs.size = ms.length ∧ ∀ (i : Nat) m, ms[i]? = some m → Rel Φ (cs.getD i undef) m := by
  cases h with | tup h r => exact ⟨_, rfl, h, r⟩
theorem Rel.inv_agg {ms : List MV} (h : Rel Φ v (.agg ms)) : ∃ cs : Array Value, v = .agg cs ∧ cs.size = ms.length ∧ (∀ (i : Nat) m, ms[i]? = some m → m.isCell = true) ∧ ∀ (i : Nat) m, ms[i]? = some m → Rel Φ (cs.getD i undef) m := by
  cases h with | agg h hc r => exact ⟨_, rfl, h, hc, r⟩
theorem Rel.inv_iface {t : TypeId} {m : MV} (h : Rel Φ v (.iface t m)) : ∃ x, v = .iface t x ∧ Rel Φ x m := by cases h with | iface _ h => exact ⟨_, rfl, h⟩
theorem Rel.inv_fn {f : Fn} {ms ns : List MV} (h : Rel Φ v (.fn f ms ns)) : ∃ first cap : Array Value, v = .func f first cap ∧ Rels Φ first ms ∧ Rels Φ cap ns := by
  cases h with | fn _ h1 h2 r1 r2 => exact ⟨_, _, rfl, ⟨h1, r1⟩, ⟨h2, r2⟩⟩

/-- Where the cells of an immutable list lie. -/
def CellsAt (Φ : Phi) (b off e : Nat) (xs : List (List MV)) : Prop :=
  (∀ (i : Nat) (x : List MV), xs[i]? = some x → x.length = e) ∧ ∃ vs : Nat → Nat → Value,
    ∀ (i : Nat) (x : List MV) (j : Nat) (m : MV), xs[i]? = some x → x[j]? = some m → m.isCell = true ∧ Φ.snap ⟨b, off + (i * e + j), none⟩ = some (vs i j) ∧ Rel Φ (vs i j) m

theorem Rel.inv_lst {e : Nat} {xs : List (List MV)} {t : Bool} (h : Rel Φ v (.lst e xs t)) : ∃ a cap, v = .slice a xs.length cap ∧ xs.length ≤ cap ∧ cap ≤ maxLen ∧ (t = true → cap = xs.length) ∧ (a = none → cap = 0) ∧
    (0 < xs.length → ∃ b off, a = some ⟨b, off, none⟩ ∧ CellsAt Φ b off e xs) := by
  cases h with
  | lstn => exact ⟨none, 0, rfl, Nat.le_refl _, by simp [maxLen], fun _ => rfl, fun _ => rfl, fun h => by simp at h⟩
  | lst0 a e cap t ht hm => exact ⟨some a, cap, rfl, Nat.zero_le _, hm, ht, by simp, fun h => by simp at h⟩
  | lst hl h0 hcap hm ht hx vs hc hr => exact ⟨_, _, by rw [hl], by omega, hm, fun q => by rw [ht q, hl], by simp, fun _ => ⟨_, _, rfl, hx, vs, fun i x j m a b => ⟨(hc i x j m a b).1, (hc i x j m a b).2, hr i x j m a b⟩⟩⟩

theorem Rel.mk_lst {e len cap : Nat} {xs : List (List MV)} {t : Bool} {a : Option Addr} (hl : xs.length = len) (hc : len ≤ cap) (hm : cap ≤ maxLen) (ht : t = true → cap = len) (ha : a = none → cap = 0)
    (h : 0 < len → ∃ b off, a = some ⟨b, off, none⟩ ∧ CellsAt Φ b off e xs) : Rel Φ (.slice a len cap) (.lst e xs t) := by
  rcases Nat.eq_zero_or_pos len with h0 | h0
  · subst h0
    have hx : xs = [] := List.eq_nil_of_length_eq_zero hl
    subst hx
    cases a with
    | none => rw [ha rfl]; exact .lstn e t
    | some a => exact .lst0 a e cap t ht hm
  · obtain ⟨b, off, rfl, hx, vs, hv⟩ := h h0
    exact .lst hl h0 hc hm ht hx vs (fun i x j m p q => ⟨(hv i x j m p q).1, (hv i x j m p q).2.1⟩) (fun i x j m p q => (hv i x j m p q).2.2)

theorem CellsAt.drop {b off e k : Nat} {xs : List (List MV)} (h : CellsAt Φ b off e xs) : CellsAt Φ b (off + k * e) e (xs.drop k) := by
  obtain ⟨hx, vs, hv⟩ := h
  refine ⟨fun i x q => hx (k + i) x (by simpa using q), fun i j => vs (k + i) j, fun i x j m q r => ?_⟩
  have := hv (k + i) x j m (by simpa using q) r
  refine ⟨this.1, ?_, this.2.2⟩
  rw [← this.2.1, Nat.add_mul, Nat.add_assoc off, Nat.add_assoc (k * e)]

theorem CellsAt.take {b off e k : Nat} {xs : List (List MV)} (h : CellsAt Φ b off e xs) : CellsAt Φ b off e (xs.take k) := by
  obtain ⟨hx, vs, hv⟩ := h
  have key : ∀ (i : Nat) (x : List MV), (xs.take k)[i]? = some x → xs[i]? = some x := fun i x q => by
    rw [List.getElem?_take] at q
    split at q
    · exact q
    · cases q
  exact ⟨fun i x q => hx i x (key i x q), vs, fun i x j m q r => hv i x j m (key i x q) r⟩

theorem Rel.inv_vec {e l lo n : Nat} (h : Rel Φ v (.vec e l lo n)) : ∃ a cap p, v = .slice a n cap ∧ Φ.obj l = some p ∧ p.e = e ∧ lo + cap = p.C ∧ n ≤ cap ∧
    ((∃ R, p.blk = some R ∧ a = some ⟨R, p.bo + lo * p.e, none⟩) ∨ cap = 0) := by
  cases h with
  | vec ho hb hcap hn => exact ⟨_, _, _, rfl, ho, rfl, hcap, hn, .inl ⟨_, hb, rfl⟩⟩
  | vec0 a ho hC => exact ⟨_, _, _, rfl, ho, rfl, by omega, Nat.le_refl _, .inr rfl⟩
  | vecn ho hb hC => exact ⟨_, _, _, rfl, ho, rfl, by omega, Nat.le_refl _, .inr rfl⟩

theorem Rel.inv_mapv {l : Nat} (h : Rel Φ v (.mapv l)) : ∃ p R, Φ.obj l = some p ∧ p.blk = some R ∧ v = .map (some R) := by cases h with | mapv ho hb => exact ⟨_, _, ho, hb, rfl⟩
end

end Go.Proofs.Ytielcgplbnlgbaa
