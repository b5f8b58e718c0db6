/- What each operation does. -/
import Derived.Test.YtgjgmojjeehieaaMem
set_option linter.unusedSimpArgs false
set_option linter.unusedVariables false
namespace Go.Proofs.Ytgjgmojjeehieaa
open Go.RowKit

section
variable {P : Program} {d : Option Tmp} {ty : TypeId} {pos : String} {af : Array Edge} {g : Option (Nat × Bool)} {σ : Env} {w : World} {K : Value → World → Prop}

/-- An operation that gives a value and leaves the world. -/
theorem ov_run {o : Oper} {v : Value} {w' : World} (hr : (execOp (ev σ) o).run P w = .ok (.value v) w') (h : K v w') : opV P o σ w K := by
  unfold opV; rw [hr]; exact h
theorem ov_skip {o : Oper} {w' : World} (hr : (execOp (ev σ) o).run P w = .ok .skip w') (h : K undef w') : opV P o σ w K := by
  unfold opV; rw [hr]; exact h

theorem ov_move {x : Operand} {v : Value} (hx : ev σ x = v) (h : K v w) : opV P ⟨d, .move x, ty, pos, af, g⟩ σ w K := ov_run (by simp [execOp, hx]) h
theorem ov_assign {x : Operand} {v : Value} (hx : ev σ x = v) (h : K v w) : opV P ⟨d, .assign x, ty, pos, af, g⟩ σ w K := ov_run (by simp [execOp, hx]) h
theorem ov_pick_t {c a b : Operand} {v : Value} (hc : ev σ c = .bool true) (hx : ev σ a = v) (h : K v w) : opV P ⟨d, .pick c a b, ty, pos, af, g⟩ σ w K :=
  ov_run (v := v) (w' := w) (by simp [execOp, hc, hx, asBool, go_sem]) h
theorem ov_pick_f {c a b : Operand} {v : Value} (hc : ev σ c = .bool false) (hx : ev σ b = v) (h : K v w) : opV P ⟨d, .pick c a b, ty, pos, af, g⟩ σ w K :=
  ov_run (v := v) (w' := w) (by simp [execOp, hc, hx, asBool, go_sem]) h

theorem ov_pick_and {c a : Operand} {b b' : Bool} (hc : ev σ c = .bool b) (hx : b = true → ev σ a = .bool b') (h : K (.bool (b && b')) w) : opV P ⟨d, .pick c a (.const (.bool false)), ty, pos, af, g⟩ σ w K := by
  cases b
  · exact ov_pick_f hc rfl h
  · exact ov_pick_t hc (hx rfl) (by simpa using h)
theorem ov_pick_or {c a : Operand} {b b' : Bool} (hc : ev σ c = .bool b) (hx : b = false → ev σ a = .bool b') (h : K (.bool (b || b')) w) : opV P ⟨d, .pick c (.const (.bool true)) a, ty, pos, af, g⟩ σ w K := by
  cases b
  · exact ov_pick_f hc (hx rfl) (by simpa using h)
  · exact ov_pick_t hc rfl h

theorem ov_box {x : Operand} {v : Value} {t : TypeId} (hx : ev σ x = v) (h : ∀ w1 b, New w w1 b (.cells v.cells t) → K (.pointer (some ⟨b, 0, none⟩)) w1) : opV P ⟨d, .box t x, ty, pos, af, g⟩ σ w K :=
  ov_run (v := .pointer (some ⟨w.heap.size, 0, none⟩)) (w' := { w with heap := w.heap.push (.cells v.cells t) }) (by simp [execOp, hx, Instr.box, newVar, newRow, newObj, Sem.run, go_sem]) (h _ _ (New.mk' _ _))
theorem ov_alloc {t : TypeId} {z : Value} (hz : ∀ w, (zeroValue t).run P w = .ok z w) (h : ∀ w1 b, New w w1 b (.cells z.cells t) → K (.pointer (some ⟨b, 0, none⟩)) w1) : opV P ⟨d, .alloc t, ty, pos, af, g⟩ σ w K :=
  ov_run (v := .pointer (some ⟨w.heap.size, 0, none⟩)) (w' := { w with heap := w.heap.push (.cells z.cells t) }) (by simp [execOp, Instr.alloc, newVar, newRow, newObj, Sem.run, go_sem, hz]) (h _ _ (New.mk' _ _))

theorem ov_load1 {t : TypeId} {x : Operand} {b o : Nat} {v : Value} (hA : ∀ w, (isAgg t).run P w = .ok false w) (hx : ev σ x = .pointer (some ⟨b, o, none⟩)) (hc : w.cell? ⟨b, o, none⟩ = some v) (h : K v w) :
    opV P ⟨d, .load t x, ty, pos, af, g⟩ σ w K :=
  ov_run (v := v) (w' := w) (by simp [execOp, hx, Instr.loadAt, Instr.sureAddr, loadVar, hA, load, Sem.run, hc, go_sem]) h

theorem run_loadCellsFrom (b o : Nat) : ∀ (cs : List Value) (i : Nat) (acc : Array Value), (∀ j (h : j < cs.length), w.cell? ⟨b, o + (i + j), none⟩ = some cs[j]) →
    (loadCellsFrom ⟨b, o, none⟩ i cs.length acc).run P w = .ok (acc ++ cs.toArray) w
  | [], i, acc, _ => by simp [loadCellsFrom]
  | c :: cs, i, acc, h => by
    have h0 := h 0 (by simp)
    have ih := run_loadCellsFrom b o cs (i + 1) (acc.push c) (fun j hj => by
      have := h (j + 1) (by simpa using hj)
      rw [show o + (i + (j + 1)) = o + (i + 1 + j) by omega] at this
      exact this)
    have ha : (⟨b, o, none⟩ : Addr).add i = ⟨b, o + i, none⟩ := by unfold Addr.add; split <;> simp_all
    simp only [Nat.add_zero, List.getElem_cons_zero] at h0
    simp only [List.length_cons, loadCellsFrom, load, Sem.run_bind, Sem.run, ha, h0, Result.andThen_ok, ih]
    simp

theorem ov_loadk {t : TypeId} {x : Operand} {b o k : Nat} {cs : List Value} (hA : ∀ w, (isAgg t).run P w = .ok true w) (hS : ∀ w, (sizeOf t).run P w = .ok k w) (hk : cs.length = k)
    (hx : ev σ x = .pointer (some ⟨b, o, none⟩)) (hc : CellsAt w b o cs) (h : K (.agg cs.toArray) w) : opV P ⟨d, .load t x, ty, pos, af, g⟩ σ w K := by
  subst hk
  refine ov_run (v := .agg cs.toArray) (w' := w) ?_ h
  have := run_loadCellsFrom (P := P) (w := w) b o cs 0 #[] (fun j hj => by simpa using hc j hj)
  simp [execOp, hx, Instr.loadAt, Instr.sureAddr, loadVar, hA, hS, loadCells, this, go_sem]

theorem ov_add {x y : Operand} {t t2 : TypeId} {k : IntKind} {a b r : Int} (hx : ev σ x = .int k a) (hy : ev σ y = .int k b) (hr : k.wrap (a + b) = r) (h : K (.int k r) w) : opV P ⟨d, .binOp .add t x y t2, ty, pos, af, g⟩ σ w K :=
  ov_run (v := .int k r) (w' := w) (by subst hr; simp [execOp, hx, hy, eqGuard, binOp, Op.intArith, go_sem]) h
theorem ov_sub {x y : Operand} {t t2 : TypeId} {k : IntKind} {a b r : Int} (hx : ev σ x = .int k a) (hy : ev σ y = .int k b) (hr : k.wrap (a - b) = r) (h : K (.int k r) w) : opV P ⟨d, .binOp .sub t x y t2, ty, pos, af, g⟩ σ w K :=
  ov_run (v := .int k r) (w' := w) (by subst hr; simp [execOp, hx, hy, eqGuard, binOp, Op.intArith, go_sem]) h
theorem ov_mul {x y : Operand} {t t2 : TypeId} {k : IntKind} {a b r : Int} (hx : ev σ x = .int k a) (hy : ev σ y = .int k b) (hr : k.wrap (a * b) = r) (h : K (.int k r) w) : opV P ⟨d, .binOp .mul t x y t2, ty, pos, af, g⟩ σ w K :=
  ov_run (v := .int k r) (w' := w) (by subst hr; simp [execOp, hx, hy, eqGuard, binOp, Op.intArith, go_sem]) h
theorem wrap_in {n : Int} (h : InR n) : IntKind.i64.wrap n = n := Go.IntWalk.i64_in n (by unfold InR at h; omega)

theorem wrapU_in {n : Int} (h : 0 ≤ n ∧ n < 18446744073709551616) : IntKind.u64.wrap n = n := Go.IntWalk.u64_in n (by omega)
theorem ov_cvt {x : Operand} {t t2 : TypeId} {k k2 : IntKind} {a r : Int} (hs : (P.underlying t).isSome = true) (hu : P.underlying t2 = some (.int k2)) (hx : ev σ x = .int k a) (hr : k2.wrap a = r) (h : K (.int k2 r) w) : opV P ⟨d, .convert t t2 x, ty, pos, af, g⟩ σ w K := by
  have hk : P.intKind t2 = k2 := by simp [Program.intKind, hu]
  have := run_convert_int (P := P) w t t2 k a hs (by rw [hk]; exact hu)
  rw [hk, hr] at this
  exact ov_run (v := .int k2 r) (w' := w) (by simp [execOp, hx, this, go_sem]) h
theorem ov_shr {x y : Operand} {t t2 : TypeId} {k yk : IntKind} {a b r : Int} (hx : ev σ x = .int k a) (hy : ev σ y = .int yk b) (h0 : 0 ≤ b) (h1 : b ≤ k.bits) (hr : a / 2 ^ b.toNat = r) (h : K (.int k r) w) : opV P ⟨d, .binOp .shr t x y t2, ty, pos, af, g⟩ σ w K :=
  ov_run (v := .int k r) (w' := w) (by subst hr; simp [execOp, hx, hy, eqGuard, binOp, shift_shr k yk a b h0 h1, go_sem]) h

def b2 (b : Bool) : Value := .bool b
theorem ov_lss {x y : Operand} {t t2 : TypeId} {k : IntKind} {a b : Int} (hx : ev σ x = .int k a) (hy : ev σ y = .int k b) (h : K (.bool (decide (a < b))) w) : opV P ⟨d, .binOp .lss t x y t2, ty, pos, af, g⟩ σ w K :=
  ov_run (v := .bool (decide (a < b))) (w' := w) (by simp [execOp, hx, hy, eqGuard, binOp, Op.intCmp, go_sem]) h
theorem ov_leq {x y : Operand} {t t2 : TypeId} {k : IntKind} {a b : Int} (hx : ev σ x = .int k a) (hy : ev σ y = .int k b) (h : K (.bool (decide (a ≤ b))) w) : opV P ⟨d, .binOp .leq t x y t2, ty, pos, af, g⟩ σ w K :=
  ov_run (v := .bool (decide (a ≤ b))) (w' := w) (by simp [execOp, hx, hy, eqGuard, binOp, Op.intCmp, go_sem]) h
theorem ov_gtr {x y : Operand} {t t2 : TypeId} {k : IntKind} {a b : Int} (hx : ev σ x = .int k a) (hy : ev σ y = .int k b) (h : K (.bool (decide (b < a))) w) : opV P ⟨d, .binOp .gtr t x y t2, ty, pos, af, g⟩ σ w K :=
  ov_run (v := .bool (decide (b < a))) (w' := w) (by simp [execOp, hx, hy, eqGuard, binOp, Op.intCmp, go_sem]) h
theorem ov_geq {x y : Operand} {t t2 : TypeId} {k : IntKind} {a b : Int} (hx : ev σ x = .int k a) (hy : ev σ y = .int k b) (h : K (.bool (decide (b ≤ a))) w) : opV P ⟨d, .binOp .geq t x y t2, ty, pos, af, g⟩ σ w K :=
  ov_run (v := .bool (decide (b ≤ a))) (w' := w) (by simp [execOp, hx, hy, eqGuard, binOp, Op.intCmp, go_sem]) h
theorem ov_eql {x y : Operand} {t t2 : TypeId} {k : IntKind} {a b : Int} (hx : ev σ x = .int k a) (hy : ev σ y = .int k b) (h : K (.bool (decide (a = b))) w) : opV P ⟨d, .binOp .eql t x y t2, ty, pos, af, g⟩ σ w K :=
  ov_run (v := .bool (decide (a = b))) (w' := w) (by simp [execOp, hx, hy, eqGuard, binOp, Op.intCmp, go_sem]; rfl) h
theorem ov_neq {x y : Operand} {t t2 : TypeId} {k : IntKind} {a b : Int} (hx : ev σ x = .int k a) (hy : ev σ y = .int k b) (h : K (.bool (!decide (a = b))) w) : opV P ⟨d, .binOp .neq t x y t2, ty, pos, af, g⟩ σ w K :=
  ov_run (v := .bool (!decide (a = b))) (w' := w) (by simp [execOp, hx, hy, eqGuard, binOp, Op.intCmp, go_sem]; rfl) h
theorem ov_eqlb {x y : Operand} {t t2 : TypeId} {a b : Bool} (hU : P.underlying t = some .bool) (hx : ev σ x = .bool a) (hy : ev σ y = .bool b) (h : K (.bool (a == b)) w) : opV P ⟨d, .binOp .eql t x y t2, ty, pos, af, g⟩ σ w K :=
  ov_run (v := .bool (a == b)) (w' := w) (by simp [execOp, hx, hy, eqGuard, run_eql_bool w t a b hU, go_sem]) h
theorem ov_neqb {x y : Operand} {t t2 : TypeId} {a b : Bool} (hU : P.underlying t = some .bool) (hx : ev σ x = .bool a) (hy : ev σ y = .bool b) (h : K (.bool (!(a == b))) w) : opV P ⟨d, .binOp .neq t x y t2, ty, pos, af, g⟩ σ w K :=
  ov_run (v := .bool (!(a == b))) (w' := w) (by simp [execOp, hx, hy, eqGuard, run_neq_bool w t a b hU, go_sem]) h
theorem ov_not {x : Operand} {t : TypeId} {a : Bool} (hx : ev σ x = .bool a) (h : K (.bool (!a)) w) : opV P ⟨d, .unOp .not t x, ty, pos, af, g⟩ σ w K :=
  ov_run (v := .bool (!a)) (w' := w) (by simp [execOp, hx, Op.unary, go_sem]) h
theorem ov_neg {x : Operand} {t : TypeId} {k : IntKind} {a r : Int} (hx : ev σ x = .int k a) (hr : k.wrap (0 - a) = r) (h : K (.int k r) w) : opV P ⟨d, .unOp .neg t x, ty, pos, af, g⟩ σ w K :=
  ov_run (v := .int k r) (w' := w) (by subst hr; simp [execOp, hx, Op.unary, Op.intArith, go_sem]) h
theorem ov_eqlS {x y : Operand} {t t2 : TypeId} {xs ys : Array Value} {e : Bool} (hE : ∀ w, (do eqGuard .eql t x y (.agg xs) (.agg ys); binOp .eql t (.agg xs) (.agg ys) : Sem Value).run P w = .ok (.bool e) w) (hx : ev σ x = .agg xs) (hy : ev σ y = .agg ys) (h : K (.bool e) w) : opV P ⟨d, .binOp .eql t x y t2, ty, pos, af, g⟩ σ w K := by
  have e' : execOp (ev σ) ⟨d, .binOp .eql t x y t2, ty, pos, af, g⟩ = ((do eqGuard .eql t x y (ev σ x) (ev σ y); binOp .eql t (ev σ x) (ev σ y) : Sem Value)) >>= fun v => pure (Next.value v) := rfl
  exact ov_run (v := .bool e) (w' := w) (by rw [e', hx, hy, Sem.run_bind, hE]; rfl) h
theorem ov_neqS {x y : Operand} {t t2 : TypeId} {xs ys : Array Value} {e : Bool} (hE : ∀ w, (do eqGuard .neq t x y (.agg xs) (.agg ys); binOp .neq t (.agg xs) (.agg ys) : Sem Value).run P w = .ok (.bool (!e)) w) (hx : ev σ x = .agg xs) (hy : ev σ y = .agg ys) (h : K (.bool (!e)) w) : opV P ⟨d, .binOp .neq t x y t2, ty, pos, af, g⟩ σ w K := by
  have e' : execOp (ev σ) ⟨d, .binOp .neq t x y t2, ty, pos, af, g⟩ = ((do eqGuard .neq t x y (ev σ x) (ev σ y); binOp .neq t (ev σ x) (ev σ y) : Sem Value)) >>= fun v => pure (Next.value v) := rfl
  exact ov_run (v := .bool (!e)) (w' := w) (by rw [e', hx, hy, Sem.run_bind, hE]; rfl) h

theorem ov_len {x : Operand} {t e : TypeId} {v : Value} {n : Nat} (hU : P.underlying t = some (.slice e)) (hx : ev σ x = v) (hv : IsSl v n) (h : K (.int .i64 n) w) :
    opV P ⟨d, .call ⟨.builtin .len, #[x], #[t]⟩, ty, pos, af, g⟩ σ w K := by
  obtain ⟨a, cap, rfl, _, _⟩ := hv
  exact ov_run (v := .int .i64 n) (w' := w) (by simp [hx, Builtin.len_, run_underlying hU, goInt, go_sem]) h
theorem ov_max {x y : Operand} {t t' : TypeId} {k : IntKind} {a b : Int} (hx : ev σ x = .int k a) (hy : ev σ y = .int k b) (h : K (.int k (max a b)) w) :
    opV P ⟨d, .call ⟨.builtin .max, #[x, y], #[t, t']⟩, ty, pos, af, g⟩ σ w K :=
  ov_run (v := .int k (max a b)) (w' := w) (by
    have : (if b > a then b else a) = max a b := by split <;> omega
    simp [hx, hy, Builtin.max_, Builtin.max2, go_sem, this]) h
theorem ov_min {x y : Operand} {t t' : TypeId} {k : IntKind} {a b : Int} (hx : ev σ x = .int k a) (hy : ev σ y = .int k b) (h : K (.int k (min a b)) w) :
    opV P ⟨d, .call ⟨.builtin .min, #[x, y], #[t, t']⟩, ty, pos, af, g⟩ σ w K :=
  ov_run (v := .int k (min a b)) (w' := w) (by
    have : (if b < a then b else a) = min a b := by split <;> omega
    simp [hx, hy, Builtin.min_, Builtin.min2, go_sem, this]) h

/-- A field's address: off: where the field lies. -/
theorem ov_fieldAddr {s : TypeId} {f : Nat} {x : Operand} {b o off : Nat} {fields : Array Field} {fd : Field} (hU : P.underlying s = some (.struct fields)) (hf : fields[f]? = some fd) (ho : fd.offset = off) (hz : ∀ w, ∃ k, (sizeOf fd.type).run P w = .ok (k + 1) w)
    (hx : ev σ x = .pointer (some ⟨b, o, none⟩)) (h : K (.pointer (some ⟨b, o + off, none⟩)) w) : opV P ⟨d, .fieldAddr s x f, ty, pos, af, g⟩ σ w K := by
  subst ho
  obtain ⟨k, hk⟩ := hz w
  exact ov_run (v := .pointer (some ⟨b, o + fd.offset, none⟩)) (w' := w) (by simp [execOp, hx, Instr.fieldAt, run_underlying hU, hf, Instr.sureAddr, fieldPlace, hk, go_sem]) h

theorem ov_indexAddr {t e : TypeId} {k : Nat} {x y : Operand} {v : Value} {n : Nat} {i : Int} {ki : IntKind} (hU : P.underlying t = some (.slice e)) (hS : ∀ w, (sizeOf e).run P w = .ok k w) (hx : ev σ x = v) (hv : IsSl v n) (hy : ev σ y = .int ki i)
    (hi : 0 ≤ i ∧ i < n) (h : K (.pointer (some ⟨sb v, so v + i.toNat * k, none⟩)) w) : opV P ⟨d, .indexAddr t x y, ty, pos, af, g⟩ σ w K := by
  obtain ⟨cap, he, _⟩ := hv.eq (n := n) (by omega)
  rw [he] at hx
  exact ov_run (v := .pointer (some ⟨sb v, so v + i.toNat * k, none⟩)) (w' := w) (by simp [execOp, hx, hy, Instr.indexAt, asIntOf, run_underlying hU, hi, hS, go_sem]) h
theorem ov_indexAddrN {t e : TypeId} {k : Nat} {x y : Operand} {v : Value} {n i : Nat} {ki : IntKind} (hU : P.underlying t = some (.slice e)) (hS : ∀ w, (sizeOf e).run P w = .ok k w) (hx : ev σ x = v) (hv : IsSl v n) (hy : ev σ y = .int ki (i : Int))
    (hi : i < n) (h : K (.pointer (some ⟨sb v, so v + i * k, none⟩)) w) : opV P ⟨d, .indexAddr t x y, ty, pos, af, g⟩ σ w K :=
  ov_indexAddr hU hS hx hv hy (by omega) (by simpa using h)
/-- An array's element, by a literal index. -/
theorem ov_indexAddrA {t e : TypeId} {k n i b o off : Nat} {x y : Operand} {ki : IntKind} (hU : P.underlying t = some (.array n e)) (hS : ∀ w, (sizeOf e).run P w = .ok k w) (hx : ev σ x = .pointer (some ⟨b, o, none⟩)) (hy : ev σ y = .int ki (i : Int))
    (hi : i < n) (ho : i * k = off) (h : K (.pointer (some ⟨b, o + off, none⟩)) w) : opV P ⟨d, .indexAddr t x y, ty, pos, af, g⟩ σ w K := by
  subst ho
  exact ov_run (v := .pointer (some ⟨b, o + i * k, none⟩)) (w' := w) (by simp [execOp, hx, hy, Instr.indexAt, Instr.sureAddr, asIntOf, run_underlying hU, hi, hS, go_sem]) h

/-- Block b holds other cells. -/
structure Put (w w1 : World) (b : Nat) (c : Array Value) (t : TypeId) : Prop where
  chg : Chg (fun i => i = b) w w1
  size : w1.heap.size = w.heap.size
  at_ : w1.heap[b]? = some (.cells c t)
def putAt (c : Array Value) (o : Nat) (l : List Value) : Array Value := (c.toList.take o ++ l ++ c.toList.drop (o + l.length)).toArray

theorem put_setRow {b : Nat} {c c' : Array Value} {t : TypeId} (hb : w.heap[b]? = some (.cells c t)) : Put w (w.setRow b c') b c' t :=
  ⟨⟨rfl, rfl, rfl, by simp [World.setRow], fun i _ h => setRow_other w b i c' h, SoftStep.setRow, Nat.le_refl _⟩, by simp [World.setRow], setRow_heap w b c c' t (0, 0) hb⟩

theorem ov_store {t T : TypeId} {x y : Operand} {b o : Nat} {v : Value} {c c' : Array Value} (hS : ∀ w, (sizeOf t).run P w = .ok v.cells.size w) (hx : ev σ x = .pointer (some ⟨b, o, none⟩)) (hy : ev σ y = v)
    (hb : w.heap[b]? = some (.cells c T)) (h1 : ∀ u ∈ v.cells.toList, u.oneCell' = true) (hfit : o + v.cells.toList.length ≤ c.size) (hc : putAt c o v.cells.toList = c') (h : ∀ w1, Put w w1 b c' T → K undef w1) :
    opV P ⟨d, .store t x y, ty, pos, af, g⟩ σ w K := by
  subst hc
  have hst := run_storeCells_at (P := P) b o T v.cells.toList 0 c w hb (by simpa using hfit) h1
  simp only [Nat.add_zero] at hst
  refine ov_skip (w' := w.setRow b (putAt c o v.cells.toList)) ?_ (h _ (put_setRow hb))
  have hsv : (storeVar t ⟨b, o, none⟩ v).run P w = .ok () (w.setRow b (putAt c o v.cells.toList)) := by
    unfold storeVar
    rw [Sem.run_bind, hS, Result.andThen_ok, if_neg (by simp)]
    exact hst
  have e : execOp (ev σ) ⟨d, .store t x y, ty, pos, af, g⟩ = ((Instr.sureAddr (ev σ x)) >>= fun a => storeVar t a (ev σ y)) >>= fun _ => pure Next.skip := rfl
  rw [e, hx, hy, Sem.run_bind, Sem.run_bind]
  show (((pure (⟨b, o, none⟩ : Addr) : Sem Addr).run P w).andThen fun a w => (storeVar t a v).run P w).andThen _ = _
  rw [Sem.run_pure, Result.andThen_ok, hsv]
  rfl

theorem oneCell_cells {v : Value} (h : v.oneCell' = true) : v.cells = #[v] := by cases v <;> first | rfl | cases h
/-- A store of one cell. -/
theorem ov_store1 {t T : TypeId} {x y : Operand} {b o : Nat} {v : Value} {c c' : List Value} (hS : ∀ w, (sizeOf t).run P w = .ok 1 w) (hx : ev σ x = .pointer (some ⟨b, o, none⟩)) (hy : ev σ y = v)
    (hb : w.heap[b]? = some (.cells c.toArray T)) (h1 : v.oneCell' = true) (hfit : Nat.blt o c.length = true) (hc : c.set o v = c') (h : ∀ w1, Put w w1 b c'.toArray T → K undef w1) : opV P ⟨d, .store t x y, ty, pos, af, g⟩ σ w K := by
  have hcl := oneCell_cells h1
  have hlt : o < c.length := by simpa [Nat.blt_eq] using hfit
  refine ov_store (v := v) (by intro w; rw [hS, hcl]; rfl) hx hy hb (by rw [hcl]; intro u hu; simp at hu; subst hu; exact h1) (by rw [hcl]; simp; omega) ?_ h
  subst hc
  rw [hcl, putAt]
  simp only [List.cons_append, List.nil_append, List.length_cons, List.length_nil, Nat.zero_add]
  rw [List.set_eq_take_append_cons_drop, if_pos hlt]
  simp

theorem ov_buildSlice {t e : TypeId} {n k : Nat} {parts : List (Nat × Operand)} {parts' : List (Nat × Value)} {z : Value} {c : Array Value} (hU : P.underlying t = some (.slice e)) (hS : ∀ w, (sizeOf e).run P w = .ok k w) (hZ : ∀ w, (zeroValue e).run P w = .ok z w) (hn : n * k ≤ 16777216)
    (hp : (parts.map fun p => (p.1, ev σ p.2)) = parts') (hc : Instr.fill (fun i => some (i * k, k)) ((Array.range (n * k)).map ((if n * k = 0 then #[] else z.cells)[· % (if n * k = 0 then #[] else z.cells).size]!)) parts' = some c)
    (h : ∀ w1 b, New w w1 b (.cells c e) → K (.slice (some ⟨b, 0, none⟩) n n) w1) : opV P ⟨d, .buildSlice t n parts.toArray, ty, pos, af, g⟩ σ w K := by
  have hp' : (parts.toArray.map fun (i, x) => (i, ev σ x)) = parts'.toArray := by rw [← hp]; simp
  refine ov_run (v := .slice (some ⟨w.heap.size, 0, none⟩) n n) (w' := { w with heap := w.heap.push (.cells c e) }) ?_ (h _ _ (New.mk' _ _))
  have hbs : (Instr.buildSlice t n parts'.toArray).run P w = .ok (.slice (some ⟨w.heap.size, 0, none⟩) n n) { w with heap := w.heap.push (.cells c e) } := by
    unfold Instr.buildSlice
    rw [Sem.run_bind, run_underlying hU, Result.andThen_ok]
    simp only []
    rw [Sem.run_bind, hS, Result.andThen_ok, if_neg (by omega)]
    by_cases h0 : n * k = 0
    · rw [if_pos h0, Sem.run_bind, Sem.run_pure, Result.andThen_ok]
      simp only [if_pos h0] at hc
      simp only [hc]
      rfl
    · rw [if_neg h0, Sem.run_bind, hZ, Result.andThen_ok, Sem.run_bind, Sem.run_pure, Result.andThen_ok]
      simp only [if_neg h0] at hc
      simp only [hc]
      rfl
  have e' : execOp (ev σ) ⟨d, .buildSlice t n parts.toArray, ty, pos, af, g⟩ = (Instr.buildSlice t n (parts.toArray.map fun (i, x) => (i, ev σ x))) >>= fun v => pure (Next.value v) := rfl
  rw [e', hp', Sem.run_bind, hbs]
  rfl

theorem ov_build {t : TypeId} {parts : List (Nat × Operand)} {parts' : List (Nat × Value)} {v : Value} (hp : (parts.map fun p => (p.1, ev σ p.2)) = parts') (hr : (Instr.build t parts'.toArray).run P w = .ok v w) (h : K v w) : opV P ⟨d, .build t parts.toArray, ty, pos, af, g⟩ σ w K := by
  have hp' : (parts.toArray.map fun (i, x) => (i, ev σ x)) = parts'.toArray := by rw [← hp]; simp
  have e' : execOp (ev σ) ⟨d, .build t parts.toArray, ty, pos, af, g⟩ = (Instr.build t (parts.toArray.map fun (i, x) => (i, ev σ x))) >>= fun v => pure (Next.value v) := rfl
  exact ov_run (v := v) (w' := w) (by rw [e', hp', Sem.run_bind, hr]; rfl) h

theorem ov_call {f : FuncId} {x : Operand} {as : List Operand} {ts : Array TypeId} {vals : List Value} {cap : List Value} {R : Value → World → Prop} (hf : ev σ x = .func (.func f) #[] cap.toArray) (ha : as.map (ev σ) = vals)
    (hcall : ∀ args w, (callFunc f args).run P w = .ok (.enter f args) w) (hc : Ret P f (vals ++ cap) w R) (h : ∀ v w', R v w' → K v w') :
    opV P ⟨d, .call ⟨.value x, as.toArray, ts⟩, ty, pos, af, g⟩ σ w K := by
  have hr : (execOp (ev σ) ⟨d, .call ⟨.value x, as.toArray, ts⟩, ty, pos, af, g⟩).run P w = .ok (.enter f (vals ++ cap).toArray) w := by
    simp [execOp, resolve, hf, Deferred.ofValue, invoke, hcall, ← ha, go_sem]
  unfold opV
  rw [hr]
  exact Calls.mono hc fun _ _ ⟨v, he, hR⟩ => ⟨v, he, h _ _ hR⟩

theorem fin1 {fn : Func} {t : Tmp} {R : Value → World → Prop} {v : Value} (hr : fn.results = #[.tmp t]) (hv : σ t = v) (h : R v w) : bodyQ P fn R .ret σ w :=
  ⟨v, fun tmps ht => by rw [results_tmp hr, ht, hv], h⟩
theorem fin2 {fn : Func} {t u : Tmp} {R : Value → World → Prop} {v v' : Value} (hr : fn.results = #[.tmp t, .tmp u]) (hv : σ t = v) (hv' : σ u = v') (h : R (.tuple #[v, v']) w) : bodyQ P fn R .ret σ w :=
  ⟨_, fun tmps ht => by rw [results_tmp2 hr, ht, ht, hv, hv'], h⟩
theorem fin0 {fn : Func} {R : Value → World → Prop} (hr : fn.results = #[]) (h : R (.tuple #[]) w) : bodyQ P fn R .normal σ w :=
  ⟨_, fun tmps _ => by rw [results_none hr], h⟩
theorem fin0r {fn : Func} {R : Value → World → Prop} (hr : fn.results = #[]) (h : R (.tuple #[]) w) : bodyQ P fn R .ret σ w :=
  ⟨_, fun tmps _ => by rw [results_none hr], h⟩
theorem finc {fn : Func} {a : Tmp} {t : TypeId} {R : Value → World → Prop} {b k : Nat} {cs : List Value} (hr : fn.results = #[.cell a t]) (hA : ∀ w, (isAgg t).run P w = .ok true w) (hS : ∀ w, (sizeOf t).run P w = .ok k w) (hk : cs.length = k)
    (hv : σ a = .pointer (some ⟨b, 0, none⟩)) (hc : CellsAt w b 0 cs) (h : R (.agg cs.toArray) w) : bodyQ P fn R .ret σ w := by
  subst hk
  refine ⟨_, fun tmps ht => ?_, h⟩
  have := run_loadCellsFrom (P := P) (w := w) b 0 cs 0 #[] (fun j hj => by simpa using hc j hj)
  have e : tmps[a]?.getD undef = .pointer (some ⟨b, 0, none⟩) := by rw [← hv, ← ht a]; simp
  simp [results, hr, e, asAddr, loadVar, hA, hS, loadCells, this, go_sem]
end
end Go.Proofs.Ytgjgmojjeehieaa
