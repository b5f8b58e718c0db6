/- Texts of this claim, part 4. -/
import Derived.Test.YtmiihhbeclhaoaaX3
import Derived.Test.YtmiihhbeclhaoaaRows
set_option linter.unusedSimpArgs false
set_option linter.unusedVariables false
set_option linter.unusedSectionVars false
section
/- The arguments opened. -/
set_option linter.unusedVariables false
set_option maxRecDepth 100000
namespace Go.Proofs.Ytmiihhbeclhaoaa
open Go.ChangeShapes Go.WideShapes Go.ChangeAt Go.RowKit

theorem opI : Opens Try.prog 3 Int := opens_int Try.underlying3
theorem opId : Opens Try.prog 33 (Int × Int) := opens_pair Try.underlying33 (by kernel_rfl) rfl rfl rfl rfl (by kernel_rfl) (by kernel_rfl) opI opI
theorem opL_Int : Opens Try.prog 34 (List Int) := opens_list Try.underlying34 opI (by kernel_rfl) (by kernel_rfl)
theorem lst_10 {α : Type} {l : List α} (h : l.length = 10) : ∃ a0 a1 a2 a3 a4 a5 a6 a7 a8 a9, l = [a0, a1, a2, a3, a4, a5, a6, a7, a8, a9] := by
  match l, h with
  | [a0, a1, a2, a3, a4, a5, a6, a7, a8, a9], _ => exact ⟨a0, a1, a2, a3, a4, a5, a6, a7, a8, a9, rfl⟩
theorem op_Ev : Opens Try.prog 36 Ev := by
  intro H enc w fuel cs x h hx
  obtain ⟨_, _, _, _, hl, _⟩ := DataW.trod_struct Try.underlying36 h
  obtain ⟨c0, c1, c2, c3, c4, c5, c6, c7, c8, c9, rfl⟩ := lst_10 (hl.trans (by kernel_rfl))
  obtain ⟨⟨m0, m1⟩, e0, r0, r1⟩ := open_field (α := Int × Int) (i := 0) Try.underlying36 h hx rfl (by kernel_rfl) opId
  obtain rfl : c0 = .int .i64 m0 := List.cons.inj e0 |>.1
  obtain rfl : c1 = .int .i64 m1 := List.cons.inj (List.cons.inj e0 |>.2) |>.1
  obtain ⟨m2, e2, r2⟩ := open_field (α := Int) (i := 1) Try.underlying36 h hx rfl (by kernel_rfl) opI
  obtain rfl : c2 = .int .i64 m2 := List.cons.inj e2 |>.1
  obtain ⟨l3, v3, e3, r3⟩ := open_field (α := List Int) (i := 2) Try.underlying36 h hx rfl (by kernel_rfl) opL_Int
  obtain rfl : c3 = v3 := List.cons.inj e3 |>.1
  obtain ⟨m4, e4, r4⟩ := open_field (α := Int) (i := 3) Try.underlying36 h hx rfl (by kernel_rfl) opI
  obtain rfl : c4 = .int .i64 m4 := List.cons.inj e4 |>.1
  obtain ⟨m5, e5, r5⟩ := open_field (α := Int) (i := 4) Try.underlying36 h hx rfl (by kernel_rfl) opI
  obtain rfl : c5 = .int .i64 m5 := List.cons.inj e5 |>.1
  obtain ⟨m6, e6, r6⟩ := open_field (α := Int) (i := 5) Try.underlying36 h hx rfl (by kernel_rfl) opI
  obtain rfl : c6 = .int .i64 m6 := List.cons.inj e6 |>.1
  obtain ⟨m7, e7, r7⟩ := open_field (α := Int) (i := 6) Try.underlying36 h hx rfl (by kernel_rfl) opI
  obtain rfl : c7 = .int .i64 m7 := List.cons.inj e7 |>.1
  obtain ⟨m8, e8, r8⟩ := open_field (α := Int) (i := 7) Try.underlying36 h hx rfl (by kernel_rfl) opI
  obtain rfl : c8 = .int .i64 m8 := List.cons.inj e8 |>.1
  obtain ⟨m9, e9, r9⟩ := open_field (α := Int) (i := 8) Try.underlying36 h hx rfl (by kernel_rfl) opI
  obtain rfl : c9 = .int .i64 m9 := List.cons.inj e9 |>.1
  exact ⟨⟨m0, m1, m2, l3, m4, m5, m6, m7, m8, m9⟩, c3, rfl, r3, ⟨r0, r1, r2, r4, r5, r6, r7, r8, r9⟩⟩
theorem open_int {H : Type} {enc : TypeId × Value → H} {W : World} {base : Nat} {v : Value} {d : DataW H} {ps : List MemPlace} (hval : Value.okWide Try.prog W .any base 3 v) (h : DataW.Trod enc Try.prog W 0 (fun _ => true) true 3 v d ps) (hx : light Try.prog 3 d) : ∃ n : Int, v = .int .i64 n ∧ InR n := by
  obtain ⟨n, rfl⟩ := okWide_int Try.underlying3 hval
  obtain ⟨fuel, hf⟩ := h
  obtain ⟨m, he, hr⟩ := opI H enc W fuel _ _ hf hx
  obtain rfl : n = m := by
    have := List.cons.inj he |>.1
    cases this; rfl
  exact ⟨n, rfl, hr⟩
theorem opL_Ev : Opens Try.prog 22 (List Ev) := opens_list Try.underlying22 op_Ev (by kernel_rfl) (by kernel_rfl)
theorem open_sl_Ev {H : Type} {enc : TypeId × Value → H} {W : World} {base : Nat} {v : Value} {d : DataW H} {ps : List MemPlace} (hval : Value.okWide Try.prog W .any base 22 v) (h : DataW.Trod enc Try.prog W 0 (fun _ => true) true 22 v d ps) (hx : light Try.prog 22 d) : ∃ l : List Ev, RdS W (inHeap W) v l := by
  obtain ⟨a, len, cap, rfl⟩ := okWide_slice Try.underlying22 hval
  obtain ⟨fuel, hf⟩ := h
  obtain ⟨l, v, he, hr⟩ := opL_Ev H enc W fuel _ _ hf hx
  obtain rfl := List.cons.inj he |>.1
  exact ⟨l, hr⟩
theorem Try.own : ownKnob Try.prog.godebug = none := by kernel_rfl
theorem Try.laidOut : laidOutB Try.prog = true := by kernel_rfl
end Go.Proofs.Ytmiihhbeclhaoaa
end

section
/- More operations: parts of slices, slices that are made, remainders. -/
set_option linter.unusedSimpArgs false
set_option linter.unusedVariables false
namespace Go.Proofs.Ytmiihhbeclhaoaa
open Go.RowKit

/-- The part of a slice from i to j. -/
def subV (k : Nat) (v : Value) (i j : Nat) : Value := match v with
  | .slice a _ c => .slice (if c = i then a else a.map (·.add (i * k))) (j - i) (c - i)
  | v => v
theorem OwnS.bool {T : TypeId} {lo : Nat} {w : World} {F : Nat → Prop} {v : Value} {l : List Bool} (h : OwnS T lo w F v l) {i : Nat} (hi : i < l.length) : CellsAt w (sb v) (so v + i * 1) [.bool l[i]] := by
  obtain ⟨cs, hc, hr⟩ := h.elem hi
  cases hr
  exact hc
theorem OwnS.int {T : TypeId} {lo : Nat} {w : World} {F : Nat → Prop} {v : Value} {l : List Int} (h : OwnS T lo w F v l) {i : Nat} (hi : i < l.length) : CellsAt w (sb v) (so v + i * 1) [.int .i64 l[i]] ∧ InR l[i] := by
  obtain ⟨cs, hc, rfl, hr⟩ := h.elem hi
  exact ⟨hc, hr⟩
theorem flat_rep (c : List Value) (hc : 0 < c.length) : ∀ n j, j < n * c.length → (List.replicate n c).flatten[j]? = c[j % c.length]?
  | 0, j, h => by omega
  | n + 1, j, h => by
    rw [List.replicate_succ, List.flatten_cons, List.getElem?_append]
    split
    · rename_i hj; rw [Nat.mod_eq_of_lt hj]
    · rename_i hj
      rw [flat_rep c hc n (j - c.length) (by rw [Nat.add_mul] at h; omega), Nat.mod_eq_sub_mod (a := j) (by omega)]
section
variable {P : Program} {d : Option Tmp} {ty : TypeId} {pos : String} {af : Array Edge} {g : Option (Nat × Bool)} {σ : Env} {w : World} {K : Value → World → Prop}
theorem ov_sliceLo {t e : TypeId} {k : Nat} {x y : Operand} {v : Value} {n i : Nat} {ki : IntKind} (hU : P.underlying t = some (.slice e)) (hS : ∀ w, (sizeOf e).run P w = .ok k w) (hx : ev σ x = v) (hv : IsSl v n) (hy : ev σ y = .int ki (i : Int))
    (hi : i ≤ n) (h : K (subV k v i n) w) : opV P ⟨d, .slice t x (some y) none none, ty, pos, af, g⟩ σ w K := by
  obtain ⟨a, c, rfl, hc, _⟩ := hv
  refine ov_run (v := subV k (.slice a n c) i n) (w' := w) ?_ h
  have hb : ¬ n < i := by omega
  have hb' : i ≤ n := by omega
  simp [execOp, hx, hy, Instr.sliceAt, Instr.slice, Instr.sliceBounds, run_underlying hU, hb, hb', hS, subV, go_sem]
/-- A slice that is made, of n like elements. -/
theorem ov_makeSlice {α : Type} [Rep α] {t T : TypeId} {bytes n : Nat} {x y : Operand} {x1 : α} {ki kj : IntKind} (hU : P.underlying t = some (.slice T))
    (hz : ∃ i z, P.info? T = some i ∧ i.zero = some z ∧ i.size = Rep.k α ∧ i.bytes = bytes ∧ z.cells.size = Rep.k α ∧ ∀ w F, Rep.rd w F z.cells.toList x1)
    (hx : ev σ x = .int ki (n : Int)) (hy : ev σ y = .int kj (n : Int)) (hb0 : bytes = Rep.bytes α) (hb : n * Rep.bytes α ≤ 140737488355328)
    (h : ∀ w1 b, Ext w w1 → w.heap.size = b → b < w1.heap.size → OwnS T w.heap.size w1 (fun _ => False) (.slice (some ⟨b, 0, none⟩) n n) (List.replicate n x1) → K (.slice (some ⟨b, 0, none⟩) n n) w1) :
    opV P ⟨d, .makeSlice t x y, ty, pos, af, g⟩ σ w K := by
  obtain ⟨i, z, hi, hz, hsz, hby, hzc, hrd⟩ := hz
  have hn := small_lt (α := α) hb
  have hb1 : i.bytes * n ≤ 281474976710656 := by rw [hby, hb0, Nat.mul_comm]; omega
  have hb2 : (i.bytes : Int) * (n : Int) ≤ 281474976710656 := by rw [← Int.natCast_mul]; omega
  have hr := run_make (P := P) w t T i z hU hi hz ki kj (n : Int) (n : Int) (by omega) (Int.le_refl _) hb2 (by omega)
  simp only [Int.toNat_natCast] at hr
  have hw : Ext w (w.alloc (.cells (madeCells z.cells (n * i.size)) T)) := ⟨rfl, rfl, rfl, by simp, fun b hb _ => heap_alloc_old w _ hb, SoftStep.push (w := w) rfl, Nat.le_refl _⟩
  refine ov_run (v := .slice (some ⟨w.heap.size, 0, none⟩) n n) (w' := w.alloc (.cells (madeCells z.cells (n * i.size)) T)) ?_ (h _ _ hw rfl (by simp) ?_)
  · simp [execOp, hx, hy, hr, go_sem]
  have hEls : ∀ (w : World) n, Els w (fun _ => False) (List.replicate n z.cells.toList) (List.replicate n x1) := by
    intro w n
    induction n with
    | zero => trivial
    | succ n ih => exact ⟨hrd _ _, ih⟩
  have hlen : (List.replicate n z.cells.toList).flatten.length = n * Rep.k α := by simpa using (hEls w n).flat
  refine ⟨⟨List.replicate n z.cells.toList, hEls _ n, by simpa using hlen, .inr ⟨w.heap.size, n, madeCells z.cells (n * i.size), by simp, Nat.le_refl _, heap_alloc_new w _, by simp, by unfold maxLen; omega, ?_, ?_⟩⟩, fun _ _ h => h, fun _ h => h.elim, by simpa using hb⟩
  · simp [madeCells, hsz]
  · rw [List.length_replicate]
    have h1 : (madeCells z.cells (n * i.size)).toList.length = n * Rep.k α := by simp [madeCells, hsz]
    rw [List.take_of_length_le (by omega)]
    refine List.ext_getElem (by rw [h1, hlen]) (fun j h2 h3 => ?_)
    have hk : 0 < Rep.k α := Rep.kpos
    have hj : j < n * Rep.k α := by omega
    have hz' : z.cells.toList.length = Rep.k α := by simpa using hzc
    have e1 := flat_rep z.cells.toList (by omega) n j (by rw [hz']; exact hj)
    have e2 : j % z.cells.size < z.cells.size := Nat.mod_lt _ (by omega)
    rw [List.getElem?_eq_getElem h3, hz', ← hzc, Array.getElem?_toList, Array.getElem?_eq_getElem e2] at e1
    rw [Option.some.inj e1]
    simp [madeCells, e2]
theorem ov_rem {x y : Operand} {a b r : Int} {t t2 : TypeId} (hx : ev σ x = .int .i64 a) (hy : ev σ y = .int .i64 b) (h0 : 0 < b) (hr : a.tmod b = r) (h : K (.int .i64 r) w) : opV P ⟨d, .binOp .rem t x y t2, ty, pos, af, g⟩ σ w K := by
  subst hr
  refine ov_run (v := .int .i64 (a.tmod b)) (w' := w) ?_ h
  have hne : b ≠ 0 := by omega
  simp [execOp, hx, hy, eqGuard_rem, binOp_rem, Op.intDiv, hne, go_sem]
end
end Go.Proofs.Ytmiihhbeclhaoaa
end
