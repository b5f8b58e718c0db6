/- Texts of this claim, part 4. -/
import Derived.Test.YtmiihhbeclhaoaaY3
import Derived.Test.YtmiihhbeclhaoaaRows
set_option linter.unusedSimpArgs false
set_option linter.unusedVariables false
set_option linter.unusedSectionVars false
section
/- The arguments opened. -/
set_option maxRecDepth 100000
namespace Go.Proofs.Ytmiihhbeclhaoaa
open Go.ChangeShapes Go.WideShapes Go.ChangeAt Go.RowKit

theorem Try.own : ownKnob Try.prog.godebug = none := by kernel_rfl
theorem Try.laidOut : laidOutB Try.prog = true := by kernel_rfl
end Go.Proofs.Ytmiihhbeclhaoaa
end

section
/- More operations: parts of slices, slices that are made, remainders. -/
namespace Go.Proofs.Ytmiihhbeclhaoaa
open Go.RowKit

def Jw (k : Nat) (v : Value) (i j : Nat) : Value := match v with
  | .slice a _ c => .slice (if c = i then a else a.map (·.add (i * k))) (j - i) (c - i)
  | v => v
theorem OwnS.bool {T : TypeId} {lo : Nat} {w : World} {F : Nat → Prop} {v : Value} {l : List Bool} (h : OwnS T lo w F v l) {i : Nat} (hi : i < l.length) : CellsAt w (sb v) (so v + i * 1) [.bool l[i]] := by
  obtain ⟨cs, hc, hr⟩ := h.elem hi
  cases hr
  exact hc
theorem OwnS.int {T : TypeId} {lo : Nat} {w : World} {F : Nat → Prop} {v : Value} {l : List Int} (h : OwnS T lo w F v l) {i : Nat} (hi : i < l.length) : CellsAt w (sb v) (so v + i * 1) [.int .i64 l[i]] ∧ InR l[i] := by
  obtain ⟨cs, hc, rfl, hr⟩ := h.elem hi
  exact ⟨hc, hr⟩
theorem YZ (c : List Value) (hc : 0 < c.length) : ∀ n j, j < n * c.length → (List.replicate n c).flatten[j]? = c[j % c.length]?
  | 0, j, h => by omega
  | n + 1, j, h => by
    rw [List.replicate_succ, List.flatten_cons, List.getElem?_append]
    split
    · rename_i hj; rw [Nat.mod_eq_of_lt hj]
    · rename_i hj
      rw [YZ c hc n (j - c.length) (by rw [Nat.add_mul] at h; omega), Nat.mod_eq_sub_mod (a := j) (by omega)]
section
variable {P : Program} {d : Option Tmp} {ty : TypeId} {pos : String} {af : Array Edge} {g : Option (Nat × Bool)} {σ : Env} {w : World} {K : Value → World → Prop}
theorem Vv {t e : TypeId} {k : Nat} {x y : Operand} {v : Value} {n i : Nat} {ki : IntKind} (hU : P.underlying t = some (.slice e)) (hS : ∀ w, (sizeOf e).run P w = .ok k w) (hx : ev σ x = v) (hv : IsSl v n) (hy : ev σ y = .int ki (i : Int))
    (hi : i ≤ n) (h : K (Jw k v i n) w) : opV P ⟨d, .slice t x (some y) none none, ty, pos, af, g⟩ σ w K := by
  obtain ⟨a, c, rfl, hc, _⟩ := hv
  refine zN (v := Jw k (.slice a n c) i n) (w' := w) ?_ h
  have hb : ¬ n < i := by omega
  have hb' : i ≤ n := by omega
  simp [execOp, hx, hy, Instr.sliceAt, Instr.slice, Instr.sliceBounds, run_underlying hU, hb, hb', hS, Jw, go_sem]
theorem ZN {α : Type} [Rep α] {t T : TypeId} {bytes n : Nat} {x y : Operand} {x1 : α} {ki kj : IntKind} (hU : P.underlying t = some (.slice T))
    (hz : ∃ i z, P.info? T = some i ∧ i.zero = some z ∧ i.size = Rep.k α ∧ i.bytes = bytes ∧ z.cells.size = Rep.k α ∧ ∀ w F, Rep.rd w F z.cells.toList x1)
    (hx : ev σ x = .int ki (n : Int)) (hy : ev σ y = .int kj (n : Int)) (hb0 : bytes = Rep.bytes α) (hb : n * Rep.bytes α ≤ 140737488355328)
    (h : ∀ w1 b, Ext w w1 → w.heap.size = b → b < w1.heap.size → OwnS T w.heap.size w1 (fun _ => False) (.slice (some ⟨b, 0, none⟩) n n) (List.replicate n x1) → K (.slice (some ⟨b, 0, none⟩) n n) w1) :
    opV P ⟨d, .makeSlice t x y, ty, pos, af, g⟩ σ w K := by
  obtain ⟨i, z, hi, hz, hsz, hby, hzc, hrd⟩ := hz
  have hn := YM (α := α) hb
  have hb1 : i.bytes * n ≤ 281474976710656 := by rw [hby, hb0, Nat.mul_comm]; omega
  have hb2 : (i.bytes : Int) * (n : Int) ≤ 281474976710656 := by rw [← Int.natCast_mul]; omega
  have hr := run_make (P := P) w t T i z hU hi hz ki kj (n : Int) (n : Int) (by omega) (Int.le_refl _) hb2 (by omega)
  simp only [Int.toNat_natCast] at hr
  have hw : Ext w (w.alloc (.cells (madeCells z.cells (n * i.size)) T)) := ⟨rfl, rfl, rfl, by simp, fun b hb _ => heap_alloc_old w _ hb, SoftStep.push (w := w) rfl, Nat.le_refl _⟩
  refine zN (v := .slice (some ⟨w.heap.size, 0, none⟩) n n) (w' := w.alloc (.cells (madeCells z.cells (n * i.size)) T)) ?_ (h _ _ hw rfl (by simp) ?_)
  · simp [execOp, hx, hy, hr, go_sem]
  have hEls : ∀ (w : World) n, Els w (fun _ => False) (List.replicate n z.cells.toList) (List.replicate n x1) := by
    intro w n
    induction n with
    | zero => trivial
    | succ n ih => exact ⟨hrd _ _, ih⟩
  have hlen : (List.replicate n z.cells.toList).flatten.length = n * Rep.k α := by simpa using (hEls w n).flat
  refine ⟨⟨List.replicate n z.cells.toList, hEls _ n, by simpa using hlen, .inr ⟨w.heap.size, n, madeCells z.cells (n * i.size), by simp, Nat.le_refl _, heap_alloc_new w _, by simp, by unfold maxLen; omega, ?_, ?_⟩⟩, fun _ _ h => h, fun _ h => h.elim, by simpa using hb⟩
  · simp [madeCells, hsz]
  · rw [List.length_replicate]
    have h1 : (madeCells z.cells (n * i.size)).toList.length = n * Rep.k α := by simp [madeCells, hsz]
    rw [List.take_of_length_le (by omega)]
    refine List.ext_getElem (by rw [h1, hlen]) (fun j h2 h3 => ?_)
    have hk : 0 < Rep.k α := Rep.kpos
    have hj : j < n * Rep.k α := by omega
    have hz' : z.cells.toList.length = Rep.k α := by simpa using hzc
    have e1 := YZ z.cells.toList (by omega) n j (by rw [hz']; exact hj)
    have e2 : j % z.cells.size < z.cells.size := Nat.mod_lt _ (by omega)
    rw [List.getElem?_eq_getElem h3, hz', ← hzc, Array.getElem?_toList, Array.getElem?_eq_getElem e2] at e1
    rw [Option.some.inj e1]
    simp [madeCells, e2]
theorem Ya {x y : Operand} {a b r : Int} {t t2 : TypeId} (hx : ev σ x = .int .i64 a) (hy : ev σ y = .int .i64 b) (h0 : 0 < b) (hr : a.tmod b = r) (h : K (.int .i64 r) w) : opV P ⟨d, .binOp .rem t x y t2, ty, pos, af, g⟩ σ w K := by
  subst hr
  refine zN (v := .int .i64 (a.tmod b)) (w' := w) ?_ h
  have hne : b ≠ 0 := by omega
  simp [execOp, hx, hy, eqGuard_rem, binOp_rem, Op.intDiv, hne, go_sem]
end
end Go.Proofs.Ytmiihhbeclhaoaa
end
