/- More operations: parts of slices, slices that are made, remainders. -/
import Derived.Test.YtgjgmojjeehieaaOpens
set_option linter.unusedSimpArgs false
set_option linter.unusedVariables false
namespace Go.Proofs.Ytgjgmojjeehieaa
open Go.RowKit

/-- The part of a slice from i to j. -/
def subV (k : Nat) (v : Value) (i j : Nat) : Value := match v with
  | .slice a _ c => .slice (if c = i then a else a.map (·.add (i * k))) (j - i) (c - i)
  | v => v
theorem RdS.sub {α : Type} [Rep α] {w : World} {F : Nat → Prop} {v : Value} {l : List α} (h : RdS w F v l) {i j : Nat} (hi : i ≤ j) (hj : j ≤ l.length) : RdS w F (subV (Rep.k α) v i j) ((l.take j).drop i) := by
  have hlen : ((l.take j).drop i).length = j - i := by simp; omega
  obtain ⟨a, c, rfl, hc, ha⟩ := h.sl
  by_cases h0 : i < j
  · obtain ⟨b, o, rfl⟩ := ha (by omega)
    have hci : ¬ c = i := by omega
    have e : subV (Rep.k α) (.slice (some ⟨b, o, none⟩) l.length c) i j = .slice (some ⟨b, o + i * Rep.k α, none⟩) (j - i) (c - i) := by
      simp only [subV, if_neg hci, Option.map_some, addr_add]
    rw [e]
    refine ⟨⟨_, _, by rw [hlen], by omega, fun _ => ⟨_, _, rfl⟩⟩, fun _ => h.foot (by intro e; subst e; simp at hj; omega), Nat.le_trans (Nat.mul_le_mul_right _ (by omega)) h.small, fun x hx => ?_⟩
    obtain ⟨cs, h1, h2⟩ := h.at_ (i + x) (by omega)
    refine ⟨cs, ?_, ?_⟩
    · have e2 : o + (i + x) * Rep.k α = o + i * Rep.k α + x * Rep.k α := by rw [Nat.add_mul, Nat.add_assoc]
      simp only [sb, so] at h1 ⊢
      rw [e2] at h1
      exact h1
    · rw [List.getElem_drop, List.getElem_take]; exact h2
  · have e : (l.take j).drop i = [] := List.length_eq_zero_iff.1 (by omega)
    rw [e]
    refine ⟨⟨(if c = i then a else a.map (·.add (i * Rep.k α))), c - i, ?_, Nat.zero_le (c - i), fun h => absurd h (Nat.lt_irrefl 0)⟩, fun h => (h rfl).elim, by simp, fun x hx => absurd hx (Nat.not_lt_zero x)⟩
    simp only [subV, List.length_nil]
    rw [show j - i = 0 by omega]
theorem RdS.sub_lo {α : Type} [Rep α] {w : World} {F : Nat → Prop} {v : Value} {l : List α} (h : RdS w F v l) {i : Nat} (hi : i ≤ l.length) : RdS w F (subV (Rep.k α) v i l.length) (l.drop i) := by
  have := h.sub hi (Nat.le_refl _)
  rwa [List.take_of_length_le (Nat.le_refl _)] at this
theorem RdS.sub_hi {α : Type} [Rep α] {w : World} {F : Nat → Prop} {v : Value} {l : List α} (h : RdS w F v l) {j : Nat} (hj : j ≤ l.length) : RdS w F (subV (Rep.k α) v 0 j) (l.take j) := by
  have := h.sub (Nat.zero_le j) hj
  rwa [List.drop_zero] at this
theorem OwnS.bool {T : TypeId} {lo : Nat} {w : World} {F : Nat → Prop} {v : Value} {l : List Bool} (h : OwnS T lo w F v l) {i : Nat} (hi : i < l.length) : CellsAt w (sb v) (so v + i * 1) [.bool l[i]] := by
  obtain ⟨cs, hc, hr⟩ := h.elem hi
  cases hr
  exact hc
/-- Blocks whose elements are of one type. -/
def TB (w : World) (T : TypeId) (i : Nat) : Prop := ∃ c, w.heap[i]? = some (.cells c T)
theorem RdS.tb {w : World} {F : Nat → Prop} {b n m : Nat} {c : Array Value} {T : TypeId} {l : List Int} (h : RdS w F (.slice (some ⟨b, 0, none⟩) n m) l) (hb : w.heap[b]? = some (.cells c T)) : RdS w (TB w T) (.slice (some ⟨b, 0, none⟩) n m) l :=
  ⟨h.sl, fun _ => ⟨c, hb⟩, h.small, fun i hi => by obtain ⟨cs, h1, h2⟩ := h.at_ i hi; exact ⟨cs, h1, h2⟩⟩
theorem RdS.tb_ext {α : Type} [Rep α] {w w' : World} {T : TypeId} {v : Value} {l : List α} (h : RdS w (TB w T) v l) (hx : Ext w w') : RdS w' (TB w' T) v l :=
  h.mono fun b hb hlt => by have e := hx.block b hlt (fun h => h); obtain ⟨c, hc⟩ := hb; exact ⟨e, c, e.trans hc⟩
theorem RdS.tb_put {α : Type} [Rep α] {w w' : World} {T T' : TypeId} {b : Nat} {c : Array Value} {v : Value} {l : List α} (h : RdS w (TB w T) v l) (hx : Chg (fun i => i = b) w w') (hb : w.heap[b]? = some (.cells c T')) (hT : T' ≠ T) : RdS w' (TB w' T) v l :=
  h.mono fun i hi hlt => by
    obtain ⟨c', hc⟩ := hi
    have hne : i ≠ b := fun e => by subst e; rw [hb] at hc; cases hc; exact hT rfl
    have e := hx.block i hlt hne
    exact ⟨e, c', e.trans hc⟩
theorem OwnS.int {T : TypeId} {lo : Nat} {w : World} {F : Nat → Prop} {v : Value} {l : List Int} (h : OwnS T lo w F v l) {i : Nat} (hi : i < l.length) : CellsAt w (sb v) (so v + i * 1) [.int .i64 l[i]] ∧ InR l[i] := by
  obtain ⟨cs, hc, rfl, hr⟩ := h.elem hi
  exact ⟨hc, hr⟩
/-- What is read lies in memory that is there. -/
theorem RdS.bnd {α : Type} [Rep α] {w : World} {F : Nat → Prop} {v : Value} {l : List α} (h : RdS w F v l) : RdS w (fun b => b < w.heap.size) v l :=
  h.mono fun b _ hlt => ⟨rfl, hlt⟩

theorem flat_rep (c : List Value) (hc : 0 < c.length) : ∀ n j, j < n * c.length → (List.replicate n c).flatten[j]? = c[j % c.length]?
  | 0, j, h => by omega
  | n + 1, j, h => by
    rw [List.replicate_succ, List.flatten_cons, List.getElem?_append]
    split
    · rename_i hj; rw [Nat.mod_eq_of_lt hj]
    · rename_i hj
      rw [flat_rep c hc n (j - c.length) (by rw [Nat.add_mul] at h; omega), Nat.mod_eq_sub_mod (a := j) (by omega)]
section
variable {P : Program} {d : Option Tmp} {ty : TypeId} {pos : String} {af : Array Edge} {g : Option (Nat × Bool)} {σ : Env} {w : World} {K : Value → World → Prop}
theorem ov_sliceLo {t e : TypeId} {k : Nat} {x y : Operand} {v : Value} {n i : Nat} {ki : IntKind} (hU : P.underlying t = some (.slice e)) (hS : ∀ w, (sizeOf e).run P w = .ok k w) (hx : ev σ x = v) (hv : IsSl v n) (hy : ev σ y = .int ki (i : Int))
    (hi : i ≤ n) (h : K (subV k v i n) w) : opV P ⟨d, .slice t x (some y) none none, ty, pos, af, g⟩ σ w K := by
  obtain ⟨a, c, rfl, hc, _⟩ := hv
  refine ov_run (v := subV k (.slice a n c) i n) (w' := w) ?_ h
  have hb : ¬ n < i := by omega
  have hb' : i ≤ n := by omega
  simp [execOp, hx, hy, Instr.sliceAt, Instr.slice, Instr.sliceBounds, run_underlying hU, hb, hb', hS, subV, go_sem]
theorem ov_sliceHi {t e : TypeId} {k : Nat} {x y : Operand} {v : Value} {n j : Nat} {ki : IntKind} (hU : P.underlying t = some (.slice e)) (hS : ∀ w, (sizeOf e).run P w = .ok k w) (hx : ev σ x = v) (hv : IsSl v n) (hy : ev σ y = .int ki (j : Int))
    (hj : j ≤ n) (h : K (subV k v 0 j) w) : opV P ⟨d, .slice t x none (some y) none, ty, pos, af, g⟩ σ w K := by
  obtain ⟨a, c, rfl, hc, _⟩ := hv
  refine ov_run (v := subV k (.slice a n c) 0 j) (w' := w) ?_ h
  have hb : ¬ c < j := by omega
  have hb' : j ≤ c := by omega
  simp [execOp, hx, hy, Instr.sliceAt, Instr.slice, Instr.sliceBounds, run_underlying hU, hb, hb', hS, subV, go_sem]
theorem ov_sliceLH {t e : TypeId} {k : Nat} {x y z : Operand} {v : Value} {n i j : Nat} {ki kj : IntKind} (hU : P.underlying t = some (.slice e)) (hS : ∀ w, (sizeOf e).run P w = .ok k w) (hx : ev σ x = v) (hv : IsSl v n) (hy : ev σ y = .int ki (i : Int)) (hz : ev σ z = .int kj (j : Int))
    (hi : i ≤ j) (hj : j ≤ n) (h : K (subV k v i j) w) : opV P ⟨d, .slice t x (some y) (some z) none, ty, pos, af, g⟩ σ w K := by
  obtain ⟨a, c, rfl, hc, _⟩ := hv
  refine ov_run (v := subV k (.slice a n c) i j) (w' := w) ?_ h
  have hb : ¬ c < j := by omega
  have hb' : j ≤ c := by omega
  have hb2 : ¬ j < i := by omega
  simp [execOp, hx, hy, hz, Instr.sliceAt, Instr.slice, Instr.sliceBounds, run_underlying hU, hb, hb', hb2, hi, hS, subV, go_sem]

/-- A slice that is made, of n like elements. -/
theorem ov_makeSlice {α : Type} [Rep α] {t T : TypeId} {bytes n : Nat} {x y : Operand} {x1 : α} {ki kj : IntKind} (hU : P.underlying t = some (.slice T))
    (hz : ∃ i z, P.info? T = some i ∧ i.zero = some z ∧ i.size = Rep.k α ∧ i.bytes = bytes ∧ z.cells.size = Rep.k α ∧ ∀ w F, Rep.rd w F z.cells.toList x1)
    (hx : ev σ x = .int ki (n : Int)) (hy : ev σ y = .int kj (n : Int)) (hb0 : bytes = Rep.bytes α) (hb : n * Rep.bytes α ≤ 140737488355328)
    (h : ∀ w1 b, Ext w w1 → w.heap.size = b → b < w1.heap.size → OwnS T w.heap.size w1 (fun _ => False) (.slice (some ⟨b, 0, none⟩) n n) (List.replicate n x1) → K (.slice (some ⟨b, 0, none⟩) n n) w1) :
    opV P ⟨d, .makeSlice t x y, ty, pos, af, g⟩ σ w K := by
  obtain ⟨i, z, hi, hz, hsz, hby, hzc, hrd⟩ := hz
  have hn := small_lt (α := α) hb
  have hb1 : i.bytes * n ≤ 281474976710656 := by rw [hby, hb0, Nat.mul_comm]; omega
  have hb2 : (i.bytes : Int) * (n : Int) ≤ 281474976710656 := by rw [← Int.natCast_mul]; omega
  have hr := run_make (P := P) w t T i z hU hi hz ki kj (n : Int) (n : Int) (by omega) (Int.le_refl _) hb2 (by omega)
  simp only [Int.toNat_natCast] at hr
  have hw : Ext w (w.alloc (.cells (madeCells z.cells (n * i.size)) T)) := ⟨rfl, rfl, rfl, by simp, fun b hb _ => heap_alloc_old w _ hb, SoftStep.push (w := w) rfl, Nat.le_refl _⟩
  refine ov_run (v := .slice (some ⟨w.heap.size, 0, none⟩) n n) (w' := w.alloc (.cells (madeCells z.cells (n * i.size)) T)) ?_ (h _ _ hw rfl (by simp) ?_)
  · simp [execOp, hx, hy, hr, go_sem]
  have hEls : ∀ (w : World) n, Els w (fun _ => False) (List.replicate n z.cells.toList) (List.replicate n x1) := by
    intro w n
    induction n with
    | zero => trivial
    | succ n ih => exact ⟨hrd _ _, ih⟩
  have hlen : (List.replicate n z.cells.toList).flatten.length = n * Rep.k α := by simpa using (hEls w n).flat
  refine ⟨⟨List.replicate n z.cells.toList, hEls _ n, by simpa using hlen, .inr ⟨w.heap.size, n, madeCells z.cells (n * i.size), by simp, Nat.le_refl _, heap_alloc_new w _, by simp, by unfold maxLen; omega, ?_, ?_⟩⟩, fun _ _ h => h, fun _ h => h.elim, by simpa using hb⟩
  · simp [madeCells, hsz]
  · rw [List.length_replicate]
    have h1 : (madeCells z.cells (n * i.size)).toList.length = n * Rep.k α := by simp [madeCells, hsz]
    rw [List.take_of_length_le (by omega)]
    refine List.ext_getElem (by rw [h1, hlen]) (fun j h2 h3 => ?_)
    have hk : 0 < Rep.k α := Rep.kpos
    have hj : j < n * Rep.k α := by omega
    have hz' : z.cells.toList.length = Rep.k α := by simpa using hzc
    have e1 := flat_rep z.cells.toList (by omega) n j (by rw [hz']; exact hj)
    have e2 : j % z.cells.size < z.cells.size := Nat.mod_lt _ (by omega)
    rw [List.getElem?_eq_getElem h3, hz', ← hzc, Array.getElem?_toList, Array.getElem?_eq_getElem e2] at e1
    rw [Option.some.inj e1]
    simp [madeCells, e2]
theorem ov_rem {x y : Operand} {a b r : Int} {t t2 : TypeId} (hx : ev σ x = .int .i64 a) (hy : ev σ y = .int .i64 b) (h0 : 0 < b) (hr : a.tmod b = r) (h : K (.int .i64 r) w) : opV P ⟨d, .binOp .rem t x y t2, ty, pos, af, g⟩ σ w K := by
  subst hr
  refine ov_run (v := .int .i64 (a.tmod b)) (w' := w) ?_ h
  have hne : b ≠ 0 := by omega
  simp [execOp, hx, hy, eqGuard_rem, binOp_rem, Op.intDiv, hne, go_sem]
end
end Go.Proofs.Ytgjgmojjeehieaa
