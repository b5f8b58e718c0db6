/- Steps of the proofs of this seat: part R2. -/
import Derived.Test.YtbbpmhfcgoljdaaR1
import Derived.Test.YtbbpmhfcgoljdaaJ0
set_option linter.unusedSimpArgs false
set_option linter.unusedVariables false
namespace Go.Proofs.Ytbbpmhfcgoljdaa
open Go.Proofs Go.RowKit

/-- Rows with room made at q. -/
def shl (l : List Row) (q : Nat) : List Row := l.take q ++ (l ++ [(⟨0, 0, 0⟩ : Row)]).getD q default :: l.drop q
theorem shl_len {l : List Row} {q : Nat} (h : q ≤ l.length) : (shl l q).length = l.length + 1 := by
  unfold shl; simp only [List.length_append, List.length_take, List.length_cons, List.length_drop]; omega
theorem shl_top (l : List Row) : shl l l.length = l ++ [(⟨0, 0, 0⟩ : Row)] := by
  unfold shl
  rw [List.take_length, List.drop_length, getD_at _ (by simp), List.getElem_append_right (Nat.le_refl _)]
  simp
theorem shl_step {l : List Row} {q : Nat} (h1 : 1 ≤ q) (h : q ≤ l.length) : (shl l q).set q ((shl l q).getD (q - 1) default) = shl l (q - 1) := by
  have e1 : (shl l q).getD (q - 1) default = l.getD (q - 1) default := by
    have hl := shl_len h
    rw [getD_at _ (by omega), getD_at _ (by omega)]
    unfold shl
    rw [List.getElem_append_left (by rw [List.length_take]; omega), List.getElem_take]
  rw [e1]
  have e2 : (l ++ [(⟨0, 0, 0⟩ : Row)]).getD (q - 1) default = l.getD (q - 1) default := by
    rw [getD_at _ (by rw [List.length_append]; omega), getD_at _ (by omega), List.getElem_append_left (by omega)]
  unfold shl
  rw [e2, List.set_append_right _ _ (by rw [List.length_take]; omega), List.length_take, Nat.min_eq_left h, Nat.sub_self, List.set_cons_zero]
  have e3 : l.take q = l.take (q - 1) ++ [l.getD (q - 1) default] := by
    have := List.take_succ_eq_append_getElem (l := l) (i := q - 1) (by omega)
    rw [show q - 1 + 1 = q by omega] at this
    rw [this, getD_at _ (by omega)]
  have e4 : l.drop (q - 1) = l.getD (q - 1) default :: l.drop q := by
    have := List.drop_eq_getElem_cons (l := l) (i := q - 1) (by omega)
    rw [show q - 1 + 1 = q by omega] at this
    rw [this, getD_at _ (by omega)]
  rw [e3, e4, List.append_assoc]
  rfl
/-- What the reference's Add does to the rows. -/
def AddRel (p : Prj) (l : List Row) (e : Ent) (reg : Int) (l' : List Row) : Prop :=
  ((e.void = true ∨ e.ev.typ ≠ p.ptyp ∨ e.ev.field ≠ p.pfield ∨ p.pgroup < 1 ∨ 3 < p.pgroup) ∧ l' = l) ∨
  ((e.void = false ∧ e.ev.typ = p.ptyp ∧ e.ev.field = p.pfield ∧ 1 ≤ p.pgroup ∧ p.pgroup ≤ 3) ∧ ∃ g k, grpI p e.ev reg = some g ∧ k ≤ l.length ∧ (∀ j, j < k → (l.getD j default).group < g) ∧
    ((k < l.length ∧ (l.getD k default).group = g ∧ l' = l.set k (oneR p (l.getD k default) e.ev.arg)) ∨
     ((l.length ≤ k ∨ g < (l.getD k default).group) ∧ l' = (shl l k).set k (oneR p ⟨g, 0, 0⟩ e.ev.arg))))

theorem fa60_1 {d : Option Tmp} {ty : TypeId} {pos : String} {af : Array Edge} {g : Option (Nat × Bool)} {σ : Env} {w : World} {K : Value → World → Prop} {x : Operand} {b o : Nat} (hx : ev σ x = .pointer (some ⟨b, o, none⟩)) (h : K (.pointer (some ⟨b, o + 5, none⟩)) w) : opV Try.prog ⟨d, .fieldAddr 60 x 1, ty, pos, af, g⟩ σ w K := ov_fieldAddr Try.underlying60 rfl rfl (fun w => ⟨0, Try.sizeOf28 w⟩) hx h
set_option maxHeartbeats 4000000 in
theorem C_refAdd {w : World} {a : Nat} {p : Prj} {vx : Value} {l : List Row} (ha : w.heap[a]? = some (.cells #[.int .i64 (p.ptyp), .int .i64 (p.pfield), .int .i64 (p.pgroup), .int .i64 (p.pby), .int .i64 (p.pmake), vx] 60)) (op : p.Ok) (hox : OwnS (α := Row) 31 (a + 1) w (fun _ => False) vx l) {Fe : Nat → Prop} {e : Ent} {de0 : Value} (he0 : RdS w Fe de0 e.ev.deps) (oe : e.Ok) {reg : Int} (hreg : InR reg) (hcnt : ∀ j, j < l.length → 0 ≤ (l.getD j default).count ∧ (l.getD j default).count < 4611686018427387904) (hll : l.length ≤ 100000) : Ret Try.prog 20 [.pointer (some ⟨a, 0, none⟩), .agg (e.cells de0).toArray, .int .i64 (reg)] w (fun r w' => ∃ v' l', r = .tuple #[] ∧ AddRel p l e reg l' ∧ w'.heap[a]? = some (.cells #[.int .i64 (p.ptyp), .int .i64 (p.pfield), .int .i64 (p.pgroup), .int .i64 (p.pby), .int .i64 (p.pmake), v'] 60) ∧ OwnS (α := Row) 31 (a + 1) w' (fun _ => False) v' l' ∧ Chg (fun i => i = a ∨ vx.ownBlock = some i) w w' ∧ (v'.ownBlock = vx.ownBlock ∨ ∀ g, v'.ownBlock = some g → w.heap.size ≤ g)) := by
  have he0s : e.ev.deps.length * 8 ≤ 140737488355328 := he0.small
  have hapO : vx.ownBlock ≠ some a := fun e => by have := (hox.lt a e).1; omega
  have hal := blk_lt ha
  refine Calls_of_WP (args := [.pointer (some ⟨a, 0, none⟩), .agg (e.cells de0).toArray, .int .i64 (reg)]) Try.func20 rfl rfl ?_
  refine WP_seq ?_
  refine WP_region0 (by kernel_rfl) (fun _ => ?_)
  refine st (ov_box (v := .agg (e.cells de0).toArray) rfl (fun w1 b2 hn1 => ?_))
  have hb3 : w1.heap[b2]? = some (.cells (e.cells de0).toArray 38) := hn1.at_
  have hs4 := hn1.size; have hs4e := hn1.eq
  refine st_nil ?_
  refine WP_seq ?_
  refine WP_seq ?_
  have hapE : vx.ownBlock ≠ some b2 := fun e => by have := (hox.lt _ e).2; omega
  refine WP_draw Ext (AL [fun v w => v = (.pointer (some ⟨b2, 10, none⟩) : Value), fun v w => v = (.bool (e.void) : Value), fun v w => v = (.bool (e.void) : Value), fun v w => v = (if e.void = false then (.pointer (some ⟨b2, 0, none⟩) : Value) else undef), fun v w => v = (if e.void = false then (.pointer (some ⟨b2, 4, none⟩) : Value) else undef), fun v w => v = (if e.void = false then (.int .i64 (e.ev.typ) : Value) else undef), fun v w => v = (if e.void = false then (.pointer (some ⟨a, 0, none⟩) : Value) else undef), fun v w => v = (if e.void = false then (.pointer (some ⟨a, 0, none⟩) : Value) else undef), fun v w => v = (if e.void = false then (.pointer (some ⟨a, 0, none⟩) : Value) else undef), fun v w => v = (if e.void = false then (.pointer (some ⟨a, 0, none⟩) : Value) else undef), fun v w => v = (if e.void = false then (.int .i64 (p.ptyp) : Value) else undef), fun v w => v = (if e.void = false then (.bool (!decide (e.ev.typ = p.ptyp)) : Value) else undef), fun v w => v = (.bool (e.void || (!decide (e.ev.typ = p.ptyp))) : Value), fun v w => v = (.bool (e.void || (!decide (e.ev.typ = p.ptyp))) : Value), fun v w => v = (if (e.void || (!decide (e.ev.typ = p.ptyp))) = false then (.pointer (some ⟨b2, 0, none⟩) : Value) else undef), fun v w => v = (if (e.void || (!decide (e.ev.typ = p.ptyp))) = false then (.pointer (some ⟨b2, 6, none⟩) : Value) else undef), fun v w => v = (if (e.void || (!decide (e.ev.typ = p.ptyp))) = false then (.int .i64 (e.ev.field) : Value) else undef), fun v w => v = (if (e.void || (!decide (e.ev.typ = p.ptyp))) = false then (.pointer (some ⟨a, 0, none⟩) : Value) else undef), fun v w => v = (if (e.void || (!decide (e.ev.typ = p.ptyp))) = false then (.pointer (some ⟨a, 0, none⟩) : Value) else undef), fun v w => v = (if (e.void || (!decide (e.ev.typ = p.ptyp))) = false then (.pointer (some ⟨a, 0, none⟩) : Value) else undef), fun v w => v = (if (e.void || (!decide (e.ev.typ = p.ptyp))) = false then (.pointer (some ⟨a, 1, none⟩) : Value) else undef), fun v w => v = (if (e.void || (!decide (e.ev.typ = p.ptyp))) = false then (.int .i64 (p.pfield) : Value) else undef), fun v w => v = (if (e.void || (!decide (e.ev.typ = p.ptyp))) = false then (.bool (!decide (e.ev.field = p.pfield)) : Value) else undef), fun v w => v = (.bool ((e.void || (!decide (e.ev.typ = p.ptyp))) || (!decide (e.ev.field = p.pfield))) : Value), fun v w => v = (.bool ((e.void || (!decide (e.ev.typ = p.ptyp))) || (!decide (e.ev.field = p.pfield))) : Value), fun v w => v = (if ((e.void || (!decide (e.ev.typ = p.ptyp))) || (!decide (e.ev.field = p.pfield))) = false then (.pointer (some ⟨a, 0, none⟩) : Value) else undef), fun v w => v = (if ((e.void || (!decide (e.ev.typ = p.ptyp))) || (!decide (e.ev.field = p.pfield))) = false then (.pointer (some ⟨a, 0, none⟩) : Value) else undef), fun v w => v = (if ((e.void || (!decide (e.ev.typ = p.ptyp))) || (!decide (e.ev.field = p.pfield))) = false then (.pointer (some ⟨a, 0, none⟩) : Value) else undef), fun v w => v = (if ((e.void || (!decide (e.ev.typ = p.ptyp))) || (!decide (e.ev.field = p.pfield))) = false then (.pointer (some ⟨a, 2, none⟩) : Value) else undef), fun v w => v = (if ((e.void || (!decide (e.ev.typ = p.ptyp))) || (!decide (e.ev.field = p.pfield))) = false then (.int .i64 (p.pgroup) : Value) else undef), fun v w => v = (if ((e.void || (!decide (e.ev.typ = p.ptyp))) || (!decide (e.ev.field = p.pfield))) = false then (.bool (decide (p.pgroup < 1)) : Value) else undef), fun v w => v = (.bool (((e.void || (!decide (e.ev.typ = p.ptyp))) || (!decide (e.ev.field = p.pfield))) || (decide (p.pgroup < 1))) : Value), fun v w => v = (.bool (((e.void || (!decide (e.ev.typ = p.ptyp))) || (!decide (e.ev.field = p.pfield))) || (decide (p.pgroup < 1))) : Value), fun v w => v = (if (((e.void || (!decide (e.ev.typ = p.ptyp))) || (!decide (e.ev.field = p.pfield))) || (decide (p.pgroup < 1))) = false then (.pointer (some ⟨a, 0, none⟩) : Value) else undef), fun v w => v = (if (((e.void || (!decide (e.ev.typ = p.ptyp))) || (!decide (e.ev.field = p.pfield))) || (decide (p.pgroup < 1))) = false then (.pointer (some ⟨a, 0, none⟩) : Value) else undef), fun v w => v = (if (((e.void || (!decide (e.ev.typ = p.ptyp))) || (!decide (e.ev.field = p.pfield))) || (decide (p.pgroup < 1))) = false then (.pointer (some ⟨a, 0, none⟩) : Value) else undef), fun v w => v = (if (((e.void || (!decide (e.ev.typ = p.ptyp))) || (!decide (e.ev.field = p.pfield))) || (decide (p.pgroup < 1))) = false then (.pointer (some ⟨a, 2, none⟩) : Value) else undef), fun v w => v = (if (((e.void || (!decide (e.ev.typ = p.ptyp))) || (!decide (e.ev.field = p.pfield))) || (decide (p.pgroup < 1))) = false then (.int .i64 (p.pgroup) : Value) else undef), fun v w => v = (if (((e.void || (!decide (e.ev.typ = p.ptyp))) || (!decide (e.ev.field = p.pfield))) || (decide (p.pgroup < 1))) = false then (.bool (decide (3 < p.pgroup)) : Value) else undef), fun v w => v = (.bool ((((e.void || (!decide (e.ev.typ = p.ptyp))) || (!decide (e.ev.field = p.pfield))) || (decide (p.pgroup < 1))) || (decide (3 < p.pgroup))) : Value)]) [[], [0], [0, 1], [0, 1, 2], [0, 1, 2, 3], [0, 1, 2, 3, 4], [0, 1, 2], [0, 1, 2, 6], [0, 1, 2, 6, 7], [0, 1, 2, 6, 7, 8], [0, 1, 2, 6, 7, 8, 9], [0, 1, 2, 3, 4, 5, 6, 7, 8, 9, 10], [0, 1, 2, 3, 4, 5, 6, 7, 8, 9, 10, 11], [0, 1, 2, 3, 4, 5, 6, 7, 8, 9, 10, 11, 12], [0, 1, 2, 3, 4, 5, 6, 7, 8, 9, 10, 11, 12, 13], [0, 1, 2, 3, 4, 5, 6, 7, 8, 9, 10, 11, 12, 13, 14], [0, 1, 2, 3, 4, 5, 6, 7, 8, 9, 10, 11, 12, 13, 14, 15], [0, 1, 2, 3, 4, 5, 6, 7, 8, 9, 10, 11, 12, 13], [0, 1, 2, 3, 4, 5, 6, 7, 8, 9, 10, 11, 12, 13, 17], [0, 1, 2, 3, 4, 5, 6, 7, 8, 9, 10, 11, 12, 13, 17, 18], [0, 1, 2, 3, 4, 5, 6, 7, 8, 9, 10, 11, 12, 13, 17, 18, 19], [0, 1, 2, 3, 4, 5, 6, 7, 8, 9, 10, 11, 12, 13, 17, 18, 19, 20], [0, 1, 2, 3, 4, 5, 6, 7, 8, 9, 10, 11, 12, 13, 14, 15, 16, 17, 18, 19, 20, 21], [0, 1, 2, 3, 4, 5, 6, 7, 8, 9, 10, 11, 12, 13, 14, 15, 16, 17, 18, 19, 20, 21, 22], [0, 1, 2, 3, 4, 5, 6, 7, 8, 9, 10, 11, 12, 13, 14, 15, 16, 17, 18, 19, 20, 21, 22, 23], [0, 1, 2, 3, 4, 5, 6, 7, 8, 9, 10, 11, 12, 13, 14, 15, 16, 17, 18, 19, 20, 21, 22, 23, 24], [0, 1, 2, 3, 4, 5, 6, 7, 8, 9, 10, 11, 12, 13, 14, 15, 16, 17, 18, 19, 20, 21, 22, 23, 24, 25], [0, 1, 2, 3, 4, 5, 6, 7, 8, 9, 10, 11, 12, 13, 14, 15, 16, 17, 18, 19, 20, 21, 22, 23, 24, 25, 26], [0, 1, 2, 3, 4, 5, 6, 7, 8, 9, 10, 11, 12, 13, 14, 15, 16, 17, 18, 19, 20, 21, 22, 23, 24, 25, 26, 27], [0, 1, 2, 3, 4, 5, 6, 7, 8, 9, 10, 11, 12, 13, 14, 15, 16, 17, 18, 19, 20, 21, 22, 23, 24, 25, 26, 27, 28], [0, 1, 2, 3, 4, 5, 6, 7, 8, 9, 10, 11, 12, 13, 14, 15, 16, 17, 18, 19, 20, 21, 22, 23, 24, 25, 26, 27, 28, 29], [0, 1, 2, 3, 4, 5, 6, 7, 8, 9, 10, 11, 12, 13, 14, 15, 16, 17, 18, 19, 20, 21, 22, 23, 24, 25, 26, 27, 28, 29, 30], [0, 1, 2, 3, 4, 5, 6, 7, 8, 9, 10, 11, 12, 13, 14, 15, 16, 17, 18, 19, 20, 21, 22, 23, 24, 25, 26, 27, 28, 29, 30, 31], [0, 1, 2, 3, 4, 5, 6, 7, 8, 9, 10, 11, 12, 13, 14, 15, 16, 17, 18, 19, 20, 21, 22, 23, 24, 25, 26, 27, 28, 29, 30, 31, 32], [0, 1, 2, 3, 4, 5, 6, 7, 8, 9, 10, 11, 12, 13, 14, 15, 16, 17, 18, 19, 20, 21, 22, 23, 24, 25, 26, 27, 28, 29, 30, 31, 32, 33], [0, 1, 2, 3, 4, 5, 6, 7, 8, 9, 10, 11, 12, 13, 14, 15, 16, 17, 18, 19, 20, 21, 22, 23, 24, 25, 26, 27, 28, 29, 30, 31, 32, 33, 34], [0, 1, 2, 3, 4, 5, 6, 7, 8, 9, 10, 11, 12, 13, 14, 15, 16, 17, 18, 19, 20, 21, 22, 23, 24, 25, 26, 27, 28, 29, 30, 31, 32, 33, 34, 35], [0, 1, 2, 3, 4, 5, 6, 7, 8, 9, 10, 11, 12, 13, 14, 15, 16, 17, 18, 19, 20, 21, 22, 23, 24, 25, 26, 27, 28, 29, 30, 31, 32, 33, 34, 35, 36], [0, 1, 2, 3, 4, 5, 6, 7, 8, 9, 10, 11, 12, 13, 14, 15, 16, 17, 18, 19, 20, 21, 22, 23, 24, 25, 26, 27, 28, 29, 30, 31, 32, 33, 34, 35, 36, 37], [0, 1, 2, 3, 4, 5, 6, 7, 8, 9, 10, 11, 12, 13, 14, 15, 16, 17, 18, 19, 20, 21, 22, 23, 24, 25, 26, 27, 28, 29, 30, 31, 32, 33, 34, 35, 36, 37, 38]] 40 (by kernel_rfl) (by kernel_rfl) (by kernel_rfl) (fun w => Chg.refl _ w) (fun _ _ _ h1 h2 => h1.trans h2) (stabL ⟨fun _ _ _ _ h => h, fun _ _ _ _ h => h, fun _ _ _ _ h => h, fun _ _ _ _ h => h, fun _ _ _ _ h => h, fun _ _ _ _ h => h, fun _ _ _ _ h => h, fun _ _ _ _ h => h, fun _ _ _ _ h => h, fun _ _ _ _ h => h, fun _ _ _ _ h => h, fun _ _ _ _ h => h, fun _ _ _ _ h => h, fun _ _ _ _ h => h, fun _ _ _ _ h => h, fun _ _ _ _ h => h, fun _ _ _ _ h => h, fun _ _ _ _ h => h, fun _ _ _ _ h => h, fun _ _ _ _ h => h, fun _ _ _ _ h => h, fun _ _ _ _ h => h, fun _ _ _ _ h => h, fun _ _ _ _ h => h, fun _ _ _ _ h => h, fun _ _ _ _ h => h, fun _ _ _ _ h => h, fun _ _ _ _ h => h, fun _ _ _ _ h => h, fun _ _ _ _ h => h, fun _ _ _ _ h => h, fun _ _ _ _ h => h, fun _ _ _ _ h => h, fun _ _ _ _ h => h, fun _ _ _ _ h => h, fun _ _ _ _ h => h, fun _ _ _ _ h => h, fun _ _ _ _ h => h, fun _ _ _ _ h => h, fun _ _ _ _ h => h, trivial⟩) ?_
  intro w2 qh1 qh2 qh3 qh4
  have hx5 := ext_same qh1 qh2 qh3 qh4
  refine ⟨⟨?_, ?_, ?_, ?_, ?_, ?_, ?_, ?_, ?_, ?_, ?_, ?_, ?_, ?_, ?_, ?_, ?_, ?_, ?_, ?_, ?_, ?_, ?_, ?_, ?_, ?_, ?_, ?_, ?_, ?_, ?_, ?_, ?_, ?_, ?_, ?_, ?_, ?_, ?_, ?_, trivial⟩, ?_⟩
  · intro vals w3 hR6 hA
    have hs7 := hR6.size
    refine obl rfl ?_
    exact fa38_1 rfl ⟨Chg.refl _ _, rfl⟩
  · intro vals w4 hR8 hA
    have hs9 := hR8.size
    have e0 : (vals 0) = (.pointer (some ⟨b2, 10, none⟩) : Value) := hA 0 (by decide)
    refine obl rfl ?_
    have h10 := (Chg.trans hx5 hR8).keep hb3 (fun h => h)
    exact ov_load1 (v := .bool (e.void)) Try.isAgg4 (show _ = (.pointer (some ⟨b2, 10, none⟩) : Value) from e0) (blk_cellL h10 rfl) ⟨Chg.refl _ _, rfl⟩
  · intro vals w5 hR11 hA
    have hs12 := hR11.size
    have e1 : (vals 1) = (.bool (e.void) : Value) := hA 1 (by decide)
    refine obl rfl ?_
    exact ov_move (v := .bool (e.void)) (show _ = (.bool (e.void) : Value) from e1) ⟨Chg.refl _ _, rfl⟩
  · intro vals w6 hR13 hA
    have hs14 := hR13.size
    have e2 : (vals 2) = (.bool (e.void) : Value) := hA 2 (by decide)
    refine oblc rfl rfl (show _ = (.bool (e.void) : Value) from e2) (fun hb15 => ?_) (fun hb15 => (if_neg hb15).symm)
    have hl16 : e.void = false := hb15
    exact fa38_0 rfl ⟨Chg.refl _ _, (if_pos hb15).symm⟩
  · intro vals w7 hR17 hA
    have hs18 := hR17.size
    have e2 : (vals 2) = (.bool (e.void) : Value) := hA 2 (by decide)
    have e3 : (vals 3) = (if e.void = false then (.pointer (some ⟨b2, 0, none⟩) : Value) else undef) := hA 3 (by decide)
    refine oblc rfl rfl (show _ = (.bool (e.void) : Value) from e2) (fun hb19 => ?_) (fun hb19 => (if_neg hb19).symm)
    have hl20 : e.void = false := hb19
    exact fa36_3 (show _ = (.pointer (some ⟨b2, 0, none⟩) : Value) from (Eq.trans e3 (if_pos hb19))) ⟨Chg.refl _ _, (if_pos hb19).symm⟩
  · intro vals w8 hR21 hA
    have hs22 := hR21.size
    have e2 : (vals 2) = (.bool (e.void) : Value) := hA 2 (by decide)
    have e4 : (vals 4) = (if e.void = false then (.pointer (some ⟨b2, 4, none⟩) : Value) else undef) := hA 4 (by decide)
    refine oblc rfl rfl (show _ = (.bool (e.void) : Value) from e2) (fun hb23 => ?_) (fun hb23 => (if_neg hb23).symm)
    have hl24 : e.void = false := hb23
    have h25 := (Chg.trans hx5 hR21).keep hb3 (fun h => h)
    exact ov_load1 (v := .int .i64 (e.ev.typ)) Try.isAgg3 (show _ = (.pointer (some ⟨b2, 4, none⟩) : Value) from (Eq.trans e4 (if_pos hb23))) (blk_cellL h25 rfl) ⟨Chg.refl _ _, (if_pos hb23).symm⟩
  · intro vals w9 hR26 hA
    have hs27 := hR26.size
    have e2 : (vals 2) = (.bool (e.void) : Value) := hA 2 (by decide)
    refine oblc rfl rfl (show _ = (.bool (e.void) : Value) from e2) (fun hb28 => ?_) (fun hb28 => (if_neg hb28).symm)
    have hl29 : e.void = false := hb28
    exact ov_move (v := .pointer (some ⟨a, 0, none⟩)) rfl ⟨Chg.refl _ _, (if_pos hb28).symm⟩
  · intro vals w10 hR30 hA
    have hs31 := hR30.size
    have e2 : (vals 2) = (.bool (e.void) : Value) := hA 2 (by decide)
    have e6 : (vals 6) = (if e.void = false then (.pointer (some ⟨a, 0, none⟩) : Value) else undef) := hA 6 (by decide)
    refine oblc rfl rfl (show _ = (.bool (e.void) : Value) from e2) (fun hb32 => ?_) (fun hb32 => (if_neg hb32).symm)
    have hl33 : e.void = false := hb32
    exact ov_nilCheck (b := a) (o := 0) (show _ = (.pointer (some ⟨a, 0, none⟩) : Value) from (Eq.trans e6 (if_pos hb32))) ⟨Chg.refl _ _, (if_pos hb32).symm⟩
  · intro vals w11 hR34 hA
    have hs35 := hR34.size
    have e2 : (vals 2) = (.bool (e.void) : Value) := hA 2 (by decide)
    have e7 : (vals 7) = (if e.void = false then (.pointer (some ⟨a, 0, none⟩) : Value) else undef) := hA 7 (by decide)
    refine oblc rfl rfl (show _ = (.bool (e.void) : Value) from e2) (fun hb36 => ?_) (fun hb36 => (if_neg hb36).symm)
    have hl37 : e.void = false := hb36
    exact fa60_0 (show _ = (.pointer (some ⟨a, 0, none⟩) : Value) from (Eq.trans e7 (if_pos hb36))) ⟨Chg.refl _ _, (if_pos hb36).symm⟩
  · intro vals w12 hR38 hA
    have hs39 := hR38.size
    have e2 : (vals 2) = (.bool (e.void) : Value) := hA 2 (by decide)
    have e8 : (vals 8) = (if e.void = false then (.pointer (some ⟨a, 0, none⟩) : Value) else undef) := hA 8 (by decide)
    refine oblc rfl rfl (show _ = (.bool (e.void) : Value) from e2) (fun hb40 => ?_) (fun hb40 => (if_neg hb40).symm)
    have hl41 : e.void = false := hb40
    exact fa23_0 (show _ = (.pointer (some ⟨a, 0, none⟩) : Value) from (Eq.trans e8 (if_pos hb40))) ⟨Chg.refl _ _, (if_pos hb40).symm⟩
  · intro vals w13 hR42 hA
    have hs43 := hR42.size
    have e2 : (vals 2) = (.bool (e.void) : Value) := hA 2 (by decide)
    have e9 : (vals 9) = (if e.void = false then (.pointer (some ⟨a, 0, none⟩) : Value) else undef) := hA 9 (by decide)
    refine oblc rfl rfl (show _ = (.bool (e.void) : Value) from e2) (fun hb44 => ?_) (fun hb44 => (if_neg hb44).symm)
    have hl45 : e.void = false := hb44
    have h46 := (Chg.trans (Chg.trans hn1.ext hx5) hR42).keep ha (fun h => h)
    exact ov_load1 (v := .int .i64 (p.ptyp)) Try.isAgg3 (show _ = (.pointer (some ⟨a, 0, none⟩) : Value) from (Eq.trans e9 (if_pos hb44))) (blk_cellL h46 rfl) ⟨Chg.refl _ _, (if_pos hb44).symm⟩
  · intro vals w14 hR47 hA
    have hs48 := hR47.size
    have e2 : (vals 2) = (.bool (e.void) : Value) := hA 2 (by decide)
    have e5 : (vals 5) = (if e.void = false then (.int .i64 (e.ev.typ) : Value) else undef) := hA 5 (by decide)
    have e10 : (vals 10) = (if e.void = false then (.int .i64 (p.ptyp) : Value) else undef) := hA 10 (by decide)
    refine oblc rfl rfl (show _ = (.bool (e.void) : Value) from e2) (fun hb49 => ?_) (fun hb49 => (if_neg hb49).symm)
    have hl50 : e.void = false := hb49
    exact ov_neq (k := .i64) (a := e.ev.typ) (b := p.ptyp) (show _ = (.int .i64 (e.ev.typ) : Value) from (Eq.trans e5 (if_pos hb49))) (show _ = (.int .i64 (p.ptyp) : Value) from (Eq.trans e10 (if_pos hb49))) ⟨Chg.refl _ _, (if_pos hb49).symm⟩
  · intro vals w15 hR51 hA
    have hs52 := hR51.size
    have e2 : (vals 2) = (.bool (e.void) : Value) := hA 2 (by decide)
    have e11 : (vals 11) = (if e.void = false then (.bool (!decide (e.ev.typ = p.ptyp)) : Value) else undef) := hA 11 (by decide)
    refine obl rfl ?_
    exact ov_pick_or (b := e.void) (b' := !decide (e.ev.typ = p.ptyp)) (show _ = (.bool (e.void) : Value) from e2) (fun hbp => (show _ = (.bool (!decide (e.ev.typ = p.ptyp)) : Value) from (Eq.trans e11 (if_pos hbp)))) ⟨Chg.refl _ _, rfl⟩
  · intro vals w16 hR53 hA
    have hs54 := hR53.size
    have e12 : (vals 12) = (.bool (e.void || (!decide (e.ev.typ = p.ptyp))) : Value) := hA 12 (by decide)
    refine obl rfl ?_
    exact ov_move (v := .bool (e.void || (!decide (e.ev.typ = p.ptyp)))) (show _ = (.bool (e.void || (!decide (e.ev.typ = p.ptyp))) : Value) from e12) ⟨Chg.refl _ _, rfl⟩
  · intro vals w17 hR55 hA
    have hs56 := hR55.size
    have e13 : (vals 13) = (.bool (e.void || (!decide (e.ev.typ = p.ptyp))) : Value) := hA 13 (by decide)
    refine oblc rfl rfl (show _ = (.bool (e.void || (!decide (e.ev.typ = p.ptyp))) : Value) from e13) (fun hb57 => ?_) (fun hb57 => (if_neg hb57).symm)
    have hl58 : (e.void || (!decide (e.ev.typ = p.ptyp))) = false := hb57
    simp only [Bool.and_eq_true, Bool.or_eq_true, Bool.and_eq_false_iff, Bool.or_eq_false_iff, decide_eq_true_eq, decide_eq_false_iff_not, Bool.not_eq_true', Bool.not_eq_false', Int.not_lt, Int.not_le] at hl58
    exact fa38_0 rfl ⟨Chg.refl _ _, (if_pos hb57).symm⟩
  · intro vals w18 hR59 hA
    have hs60 := hR59.size
    have e13 : (vals 13) = (.bool (e.void || (!decide (e.ev.typ = p.ptyp))) : Value) := hA 13 (by decide)
    have e14 : (vals 14) = (if (e.void || (!decide (e.ev.typ = p.ptyp))) = false then (.pointer (some ⟨b2, 0, none⟩) : Value) else undef) := hA 14 (by decide)
    refine oblc rfl rfl (show _ = (.bool (e.void || (!decide (e.ev.typ = p.ptyp))) : Value) from e13) (fun hb61 => ?_) (fun hb61 => (if_neg hb61).symm)
    have hl62 : (e.void || (!decide (e.ev.typ = p.ptyp))) = false := hb61
    simp only [Bool.and_eq_true, Bool.or_eq_true, Bool.and_eq_false_iff, Bool.or_eq_false_iff, decide_eq_true_eq, decide_eq_false_iff_not, Bool.not_eq_true', Bool.not_eq_false', Int.not_lt, Int.not_le] at hl62
    exact fa36_5 (show _ = (.pointer (some ⟨b2, 0, none⟩) : Value) from (Eq.trans e14 (if_pos hb61))) ⟨Chg.refl _ _, (if_pos hb61).symm⟩
  · intro vals w19 hR63 hA
    have hs64 := hR63.size
    have e13 : (vals 13) = (.bool (e.void || (!decide (e.ev.typ = p.ptyp))) : Value) := hA 13 (by decide)
    have e15 : (vals 15) = (if (e.void || (!decide (e.ev.typ = p.ptyp))) = false then (.pointer (some ⟨b2, 6, none⟩) : Value) else undef) := hA 15 (by decide)
    refine oblc rfl rfl (show _ = (.bool (e.void || (!decide (e.ev.typ = p.ptyp))) : Value) from e13) (fun hb65 => ?_) (fun hb65 => (if_neg hb65).symm)
    have hl66 : (e.void || (!decide (e.ev.typ = p.ptyp))) = false := hb65
    simp only [Bool.and_eq_true, Bool.or_eq_true, Bool.and_eq_false_iff, Bool.or_eq_false_iff, decide_eq_true_eq, decide_eq_false_iff_not, Bool.not_eq_true', Bool.not_eq_false', Int.not_lt, Int.not_le] at hl66
    have h67 := (Chg.trans hx5 hR63).keep hb3 (fun h => h)
    exact ov_load1 (v := .int .i64 (e.ev.field)) Try.isAgg3 (show _ = (.pointer (some ⟨b2, 6, none⟩) : Value) from (Eq.trans e15 (if_pos hb65))) (blk_cellL h67 rfl) ⟨Chg.refl _ _, (if_pos hb65).symm⟩
  · intro vals w20 hR68 hA
    have hs69 := hR68.size
    have e13 : (vals 13) = (.bool (e.void || (!decide (e.ev.typ = p.ptyp))) : Value) := hA 13 (by decide)
    refine oblc rfl rfl (show _ = (.bool (e.void || (!decide (e.ev.typ = p.ptyp))) : Value) from e13) (fun hb70 => ?_) (fun hb70 => (if_neg hb70).symm)
    have hl71 : (e.void || (!decide (e.ev.typ = p.ptyp))) = false := hb70
    simp only [Bool.and_eq_true, Bool.or_eq_true, Bool.and_eq_false_iff, Bool.or_eq_false_iff, decide_eq_true_eq, decide_eq_false_iff_not, Bool.not_eq_true', Bool.not_eq_false', Int.not_lt, Int.not_le] at hl71
    exact ov_move (v := .pointer (some ⟨a, 0, none⟩)) rfl ⟨Chg.refl _ _, (if_pos hb70).symm⟩
  · intro vals w21 hR72 hA
    have hs73 := hR72.size
    have e13 : (vals 13) = (.bool (e.void || (!decide (e.ev.typ = p.ptyp))) : Value) := hA 13 (by decide)
    have e17 : (vals 17) = (if (e.void || (!decide (e.ev.typ = p.ptyp))) = false then (.pointer (some ⟨a, 0, none⟩) : Value) else undef) := hA 17 (by decide)
    refine oblc rfl rfl (show _ = (.bool (e.void || (!decide (e.ev.typ = p.ptyp))) : Value) from e13) (fun hb74 => ?_) (fun hb74 => (if_neg hb74).symm)
    have hl75 : (e.void || (!decide (e.ev.typ = p.ptyp))) = false := hb74
    simp only [Bool.and_eq_true, Bool.or_eq_true, Bool.and_eq_false_iff, Bool.or_eq_false_iff, decide_eq_true_eq, decide_eq_false_iff_not, Bool.not_eq_true', Bool.not_eq_false', Int.not_lt, Int.not_le] at hl75
    exact ov_nilCheck (b := a) (o := 0) (show _ = (.pointer (some ⟨a, 0, none⟩) : Value) from (Eq.trans e17 (if_pos hb74))) ⟨Chg.refl _ _, (if_pos hb74).symm⟩
  · intro vals w22 hR76 hA
    have hs77 := hR76.size
    have e13 : (vals 13) = (.bool (e.void || (!decide (e.ev.typ = p.ptyp))) : Value) := hA 13 (by decide)
    have e18 : (vals 18) = (if (e.void || (!decide (e.ev.typ = p.ptyp))) = false then (.pointer (some ⟨a, 0, none⟩) : Value) else undef) := hA 18 (by decide)
    refine oblc rfl rfl (show _ = (.bool (e.void || (!decide (e.ev.typ = p.ptyp))) : Value) from e13) (fun hb78 => ?_) (fun hb78 => (if_neg hb78).symm)
    have hl79 : (e.void || (!decide (e.ev.typ = p.ptyp))) = false := hb78
    simp only [Bool.and_eq_true, Bool.or_eq_true, Bool.and_eq_false_iff, Bool.or_eq_false_iff, decide_eq_true_eq, decide_eq_false_iff_not, Bool.not_eq_true', Bool.not_eq_false', Int.not_lt, Int.not_le] at hl79
    exact fa60_0 (show _ = (.pointer (some ⟨a, 0, none⟩) : Value) from (Eq.trans e18 (if_pos hb78))) ⟨Chg.refl _ _, (if_pos hb78).symm⟩
  · intro vals w23 hR80 hA
    have hs81 := hR80.size
    have e13 : (vals 13) = (.bool (e.void || (!decide (e.ev.typ = p.ptyp))) : Value) := hA 13 (by decide)
    have e19 : (vals 19) = (if (e.void || (!decide (e.ev.typ = p.ptyp))) = false then (.pointer (some ⟨a, 0, none⟩) : Value) else undef) := hA 19 (by decide)
    refine oblc rfl rfl (show _ = (.bool (e.void || (!decide (e.ev.typ = p.ptyp))) : Value) from e13) (fun hb82 => ?_) (fun hb82 => (if_neg hb82).symm)
    have hl83 : (e.void || (!decide (e.ev.typ = p.ptyp))) = false := hb82
    simp only [Bool.and_eq_true, Bool.or_eq_true, Bool.and_eq_false_iff, Bool.or_eq_false_iff, decide_eq_true_eq, decide_eq_false_iff_not, Bool.not_eq_true', Bool.not_eq_false', Int.not_lt, Int.not_le] at hl83
    exact fa23_1 (show _ = (.pointer (some ⟨a, 0, none⟩) : Value) from (Eq.trans e19 (if_pos hb82))) ⟨Chg.refl _ _, (if_pos hb82).symm⟩
  · intro vals w24 hR84 hA
    have hs85 := hR84.size
    have e13 : (vals 13) = (.bool (e.void || (!decide (e.ev.typ = p.ptyp))) : Value) := hA 13 (by decide)
    have e20 : (vals 20) = (if (e.void || (!decide (e.ev.typ = p.ptyp))) = false then (.pointer (some ⟨a, 1, none⟩) : Value) else undef) := hA 20 (by decide)
    refine oblc rfl rfl (show _ = (.bool (e.void || (!decide (e.ev.typ = p.ptyp))) : Value) from e13) (fun hb86 => ?_) (fun hb86 => (if_neg hb86).symm)
    have hl87 : (e.void || (!decide (e.ev.typ = p.ptyp))) = false := hb86
    simp only [Bool.and_eq_true, Bool.or_eq_true, Bool.and_eq_false_iff, Bool.or_eq_false_iff, decide_eq_true_eq, decide_eq_false_iff_not, Bool.not_eq_true', Bool.not_eq_false', Int.not_lt, Int.not_le] at hl87
    have h88 := (Chg.trans (Chg.trans hn1.ext hx5) hR84).keep ha (fun h => h)
    exact ov_load1 (v := .int .i64 (p.pfield)) Try.isAgg3 (show _ = (.pointer (some ⟨a, 1, none⟩) : Value) from (Eq.trans e20 (if_pos hb86))) (blk_cellL h88 rfl) ⟨Chg.refl _ _, (if_pos hb86).symm⟩
  · intro vals w25 hR89 hA
    have hs90 := hR89.size
    have e13 : (vals 13) = (.bool (e.void || (!decide (e.ev.typ = p.ptyp))) : Value) := hA 13 (by decide)
    have e16 : (vals 16) = (if (e.void || (!decide (e.ev.typ = p.ptyp))) = false then (.int .i64 (e.ev.field) : Value) else undef) := hA 16 (by decide)
    have e21 : (vals 21) = (if (e.void || (!decide (e.ev.typ = p.ptyp))) = false then (.int .i64 (p.pfield) : Value) else undef) := hA 21 (by decide)
    refine oblc rfl rfl (show _ = (.bool (e.void || (!decide (e.ev.typ = p.ptyp))) : Value) from e13) (fun hb91 => ?_) (fun hb91 => (if_neg hb91).symm)
    have hl92 : (e.void || (!decide (e.ev.typ = p.ptyp))) = false := hb91
    simp only [Bool.and_eq_true, Bool.or_eq_true, Bool.and_eq_false_iff, Bool.or_eq_false_iff, decide_eq_true_eq, decide_eq_false_iff_not, Bool.not_eq_true', Bool.not_eq_false', Int.not_lt, Int.not_le] at hl92
    exact ov_neq (k := .i64) (a := e.ev.field) (b := p.pfield) (show _ = (.int .i64 (e.ev.field) : Value) from (Eq.trans e16 (if_pos hb91))) (show _ = (.int .i64 (p.pfield) : Value) from (Eq.trans e21 (if_pos hb91))) ⟨Chg.refl _ _, (if_pos hb91).symm⟩
  · intro vals w26 hR93 hA
    have hs94 := hR93.size
    have e13 : (vals 13) = (.bool (e.void || (!decide (e.ev.typ = p.ptyp))) : Value) := hA 13 (by decide)
    have e22 : (vals 22) = (if (e.void || (!decide (e.ev.typ = p.ptyp))) = false then (.bool (!decide (e.ev.field = p.pfield)) : Value) else undef) := hA 22 (by decide)
    refine obl rfl ?_
    exact ov_pick_or (b := e.void || (!decide (e.ev.typ = p.ptyp))) (b' := !decide (e.ev.field = p.pfield)) (show _ = (.bool (e.void || (!decide (e.ev.typ = p.ptyp))) : Value) from e13) (fun hbp => (show _ = (.bool (!decide (e.ev.field = p.pfield)) : Value) from (Eq.trans e22 (if_pos hbp)))) ⟨Chg.refl _ _, rfl⟩
  · intro vals w27 hR95 hA
    have hs96 := hR95.size
    have e23 : (vals 23) = (.bool ((e.void || (!decide (e.ev.typ = p.ptyp))) || (!decide (e.ev.field = p.pfield))) : Value) := hA 23 (by decide)
    refine obl rfl ?_
    exact ov_move (v := .bool ((e.void || (!decide (e.ev.typ = p.ptyp))) || (!decide (e.ev.field = p.pfield)))) (show _ = (.bool ((e.void || (!decide (e.ev.typ = p.ptyp))) || (!decide (e.ev.field = p.pfield))) : Value) from e23) ⟨Chg.refl _ _, rfl⟩
  · intro vals w28 hR97 hA
    have hs98 := hR97.size
    have e24 : (vals 24) = (.bool ((e.void || (!decide (e.ev.typ = p.ptyp))) || (!decide (e.ev.field = p.pfield))) : Value) := hA 24 (by decide)
    refine oblc rfl rfl (show _ = (.bool ((e.void || (!decide (e.ev.typ = p.ptyp))) || (!decide (e.ev.field = p.pfield))) : Value) from e24) (fun hb99 => ?_) (fun hb99 => (if_neg hb99).symm)
    have hl100 : ((e.void || (!decide (e.ev.typ = p.ptyp))) || (!decide (e.ev.field = p.pfield))) = false := hb99
    simp only [Bool.and_eq_true, Bool.or_eq_true, Bool.and_eq_false_iff, Bool.or_eq_false_iff, decide_eq_true_eq, decide_eq_false_iff_not, Bool.not_eq_true', Bool.not_eq_false', Int.not_lt, Int.not_le] at hl100
    exact ov_move (v := .pointer (some ⟨a, 0, none⟩)) rfl ⟨Chg.refl _ _, (if_pos hb99).symm⟩
  · intro vals w29 hR101 hA
    have hs102 := hR101.size
    have e24 : (vals 24) = (.bool ((e.void || (!decide (e.ev.typ = p.ptyp))) || (!decide (e.ev.field = p.pfield))) : Value) := hA 24 (by decide)
    have e25 : (vals 25) = (if ((e.void || (!decide (e.ev.typ = p.ptyp))) || (!decide (e.ev.field = p.pfield))) = false then (.pointer (some ⟨a, 0, none⟩) : Value) else undef) := hA 25 (by decide)
    refine oblc rfl rfl (show _ = (.bool ((e.void || (!decide (e.ev.typ = p.ptyp))) || (!decide (e.ev.field = p.pfield))) : Value) from e24) (fun hb103 => ?_) (fun hb103 => (if_neg hb103).symm)
    have hl104 : ((e.void || (!decide (e.ev.typ = p.ptyp))) || (!decide (e.ev.field = p.pfield))) = false := hb103
    simp only [Bool.and_eq_true, Bool.or_eq_true, Bool.and_eq_false_iff, Bool.or_eq_false_iff, decide_eq_true_eq, decide_eq_false_iff_not, Bool.not_eq_true', Bool.not_eq_false', Int.not_lt, Int.not_le] at hl104
    exact ov_nilCheck (b := a) (o := 0) (show _ = (.pointer (some ⟨a, 0, none⟩) : Value) from (Eq.trans e25 (if_pos hb103))) ⟨Chg.refl _ _, (if_pos hb103).symm⟩
  · intro vals w30 hR105 hA
    have hs106 := hR105.size
    have e24 : (vals 24) = (.bool ((e.void || (!decide (e.ev.typ = p.ptyp))) || (!decide (e.ev.field = p.pfield))) : Value) := hA 24 (by decide)
    have e26 : (vals 26) = (if ((e.void || (!decide (e.ev.typ = p.ptyp))) || (!decide (e.ev.field = p.pfield))) = false then (.pointer (some ⟨a, 0, none⟩) : Value) else undef) := hA 26 (by decide)
    refine oblc rfl rfl (show _ = (.bool ((e.void || (!decide (e.ev.typ = p.ptyp))) || (!decide (e.ev.field = p.pfield))) : Value) from e24) (fun hb107 => ?_) (fun hb107 => (if_neg hb107).symm)
    have hl108 : ((e.void || (!decide (e.ev.typ = p.ptyp))) || (!decide (e.ev.field = p.pfield))) = false := hb107
    simp only [Bool.and_eq_true, Bool.or_eq_true, Bool.and_eq_false_iff, Bool.or_eq_false_iff, decide_eq_true_eq, decide_eq_false_iff_not, Bool.not_eq_true', Bool.not_eq_false', Int.not_lt, Int.not_le] at hl108
    exact fa60_0 (show _ = (.pointer (some ⟨a, 0, none⟩) : Value) from (Eq.trans e26 (if_pos hb107))) ⟨Chg.refl _ _, (if_pos hb107).symm⟩
  · intro vals w31 hR109 hA
    have hs110 := hR109.size
    have e24 : (vals 24) = (.bool ((e.void || (!decide (e.ev.typ = p.ptyp))) || (!decide (e.ev.field = p.pfield))) : Value) := hA 24 (by decide)
    have e27 : (vals 27) = (if ((e.void || (!decide (e.ev.typ = p.ptyp))) || (!decide (e.ev.field = p.pfield))) = false then (.pointer (some ⟨a, 0, none⟩) : Value) else undef) := hA 27 (by decide)
    refine oblc rfl rfl (show _ = (.bool ((e.void || (!decide (e.ev.typ = p.ptyp))) || (!decide (e.ev.field = p.pfield))) : Value) from e24) (fun hb111 => ?_) (fun hb111 => (if_neg hb111).symm)
    have hl112 : ((e.void || (!decide (e.ev.typ = p.ptyp))) || (!decide (e.ev.field = p.pfield))) = false := hb111
    simp only [Bool.and_eq_true, Bool.or_eq_true, Bool.and_eq_false_iff, Bool.or_eq_false_iff, decide_eq_true_eq, decide_eq_false_iff_not, Bool.not_eq_true', Bool.not_eq_false', Int.not_lt, Int.not_le] at hl112
    exact fa23_2 (show _ = (.pointer (some ⟨a, 0, none⟩) : Value) from (Eq.trans e27 (if_pos hb111))) ⟨Chg.refl _ _, (if_pos hb111).symm⟩
  · intro vals w32 hR113 hA
    have hs114 := hR113.size
    have e24 : (vals 24) = (.bool ((e.void || (!decide (e.ev.typ = p.ptyp))) || (!decide (e.ev.field = p.pfield))) : Value) := hA 24 (by decide)
    have e28 : (vals 28) = (if ((e.void || (!decide (e.ev.typ = p.ptyp))) || (!decide (e.ev.field = p.pfield))) = false then (.pointer (some ⟨a, 2, none⟩) : Value) else undef) := hA 28 (by decide)
    refine oblc rfl rfl (show _ = (.bool ((e.void || (!decide (e.ev.typ = p.ptyp))) || (!decide (e.ev.field = p.pfield))) : Value) from e24) (fun hb115 => ?_) (fun hb115 => (if_neg hb115).symm)
    have hl116 : ((e.void || (!decide (e.ev.typ = p.ptyp))) || (!decide (e.ev.field = p.pfield))) = false := hb115
    simp only [Bool.and_eq_true, Bool.or_eq_true, Bool.and_eq_false_iff, Bool.or_eq_false_iff, decide_eq_true_eq, decide_eq_false_iff_not, Bool.not_eq_true', Bool.not_eq_false', Int.not_lt, Int.not_le] at hl116
    have h117 := (Chg.trans (Chg.trans hn1.ext hx5) hR113).keep ha (fun h => h)
    exact ov_load1 (v := .int .i64 (p.pgroup)) Try.isAgg3 (show _ = (.pointer (some ⟨a, 2, none⟩) : Value) from (Eq.trans e28 (if_pos hb115))) (blk_cellL h117 rfl) ⟨Chg.refl _ _, (if_pos hb115).symm⟩
  · intro vals w33 hR118 hA
    have hs119 := hR118.size
    have e24 : (vals 24) = (.bool ((e.void || (!decide (e.ev.typ = p.ptyp))) || (!decide (e.ev.field = p.pfield))) : Value) := hA 24 (by decide)
    have e29 : (vals 29) = (if ((e.void || (!decide (e.ev.typ = p.ptyp))) || (!decide (e.ev.field = p.pfield))) = false then (.int .i64 (p.pgroup) : Value) else undef) := hA 29 (by decide)
    refine oblc rfl rfl (show _ = (.bool ((e.void || (!decide (e.ev.typ = p.ptyp))) || (!decide (e.ev.field = p.pfield))) : Value) from e24) (fun hb120 => ?_) (fun hb120 => (if_neg hb120).symm)
    have hl121 : ((e.void || (!decide (e.ev.typ = p.ptyp))) || (!decide (e.ev.field = p.pfield))) = false := hb120
    simp only [Bool.and_eq_true, Bool.or_eq_true, Bool.and_eq_false_iff, Bool.or_eq_false_iff, decide_eq_true_eq, decide_eq_false_iff_not, Bool.not_eq_true', Bool.not_eq_false', Int.not_lt, Int.not_le] at hl121
    exact ov_lss (k := .i64) (a := p.pgroup) (b := 1) (show _ = (.int .i64 (p.pgroup) : Value) from (Eq.trans e29 (if_pos hb120))) rfl ⟨Chg.refl _ _, (if_pos hb120).symm⟩
  · intro vals w34 hR122 hA
    have hs123 := hR122.size
    have e24 : (vals 24) = (.bool ((e.void || (!decide (e.ev.typ = p.ptyp))) || (!decide (e.ev.field = p.pfield))) : Value) := hA 24 (by decide)
    have e30 : (vals 30) = (if ((e.void || (!decide (e.ev.typ = p.ptyp))) || (!decide (e.ev.field = p.pfield))) = false then (.bool (decide (p.pgroup < 1)) : Value) else undef) := hA 30 (by decide)
    refine obl rfl ?_
    exact ov_pick_or (b := (e.void || (!decide (e.ev.typ = p.ptyp))) || (!decide (e.ev.field = p.pfield))) (b' := decide (p.pgroup < 1)) (show _ = (.bool ((e.void || (!decide (e.ev.typ = p.ptyp))) || (!decide (e.ev.field = p.pfield))) : Value) from e24) (fun hbp => (show _ = (.bool (decide (p.pgroup < 1)) : Value) from (Eq.trans e30 (if_pos hbp)))) ⟨Chg.refl _ _, rfl⟩
  · intro vals w35 hR124 hA
    have hs125 := hR124.size
    have e31 : (vals 31) = (.bool (((e.void || (!decide (e.ev.typ = p.ptyp))) || (!decide (e.ev.field = p.pfield))) || (decide (p.pgroup < 1))) : Value) := hA 31 (by decide)
    refine obl rfl ?_
    exact ov_move (v := .bool (((e.void || (!decide (e.ev.typ = p.ptyp))) || (!decide (e.ev.field = p.pfield))) || (decide (p.pgroup < 1)))) (show _ = (.bool (((e.void || (!decide (e.ev.typ = p.ptyp))) || (!decide (e.ev.field = p.pfield))) || (decide (p.pgroup < 1))) : Value) from e31) ⟨Chg.refl _ _, rfl⟩
  · intro vals w36 hR126 hA
    have hs127 := hR126.size
    have e32 : (vals 32) = (.bool (((e.void || (!decide (e.ev.typ = p.ptyp))) || (!decide (e.ev.field = p.pfield))) || (decide (p.pgroup < 1))) : Value) := hA 32 (by decide)
    refine oblc rfl rfl (show _ = (.bool (((e.void || (!decide (e.ev.typ = p.ptyp))) || (!decide (e.ev.field = p.pfield))) || (decide (p.pgroup < 1))) : Value) from e32) (fun hb128 => ?_) (fun hb128 => (if_neg hb128).symm)
    have hl129 : (((e.void || (!decide (e.ev.typ = p.ptyp))) || (!decide (e.ev.field = p.pfield))) || (decide (p.pgroup < 1))) = false := hb128
    simp only [Bool.and_eq_true, Bool.or_eq_true, Bool.and_eq_false_iff, Bool.or_eq_false_iff, decide_eq_true_eq, decide_eq_false_iff_not, Bool.not_eq_true', Bool.not_eq_false', Int.not_lt, Int.not_le] at hl129
    exact ov_move (v := .pointer (some ⟨a, 0, none⟩)) rfl ⟨Chg.refl _ _, (if_pos hb128).symm⟩
  · intro vals w37 hR130 hA
    have hs131 := hR130.size
    have e32 : (vals 32) = (.bool (((e.void || (!decide (e.ev.typ = p.ptyp))) || (!decide (e.ev.field = p.pfield))) || (decide (p.pgroup < 1))) : Value) := hA 32 (by decide)
    have e33 : (vals 33) = (if (((e.void || (!decide (e.ev.typ = p.ptyp))) || (!decide (e.ev.field = p.pfield))) || (decide (p.pgroup < 1))) = false then (.pointer (some ⟨a, 0, none⟩) : Value) else undef) := hA 33 (by decide)
    refine oblc rfl rfl (show _ = (.bool (((e.void || (!decide (e.ev.typ = p.ptyp))) || (!decide (e.ev.field = p.pfield))) || (decide (p.pgroup < 1))) : Value) from e32) (fun hb132 => ?_) (fun hb132 => (if_neg hb132).symm)
    have hl133 : (((e.void || (!decide (e.ev.typ = p.ptyp))) || (!decide (e.ev.field = p.pfield))) || (decide (p.pgroup < 1))) = false := hb132
    simp only [Bool.and_eq_true, Bool.or_eq_true, Bool.and_eq_false_iff, Bool.or_eq_false_iff, decide_eq_true_eq, decide_eq_false_iff_not, Bool.not_eq_true', Bool.not_eq_false', Int.not_lt, Int.not_le] at hl133
    exact ov_nilCheck (b := a) (o := 0) (show _ = (.pointer (some ⟨a, 0, none⟩) : Value) from (Eq.trans e33 (if_pos hb132))) ⟨Chg.refl _ _, (if_pos hb132).symm⟩
  · intro vals w38 hR134 hA
    have hs135 := hR134.size
    have e32 : (vals 32) = (.bool (((e.void || (!decide (e.ev.typ = p.ptyp))) || (!decide (e.ev.field = p.pfield))) || (decide (p.pgroup < 1))) : Value) := hA 32 (by decide)
    have e34 : (vals 34) = (if (((e.void || (!decide (e.ev.typ = p.ptyp))) || (!decide (e.ev.field = p.pfield))) || (decide (p.pgroup < 1))) = false then (.pointer (some ⟨a, 0, none⟩) : Value) else undef) := hA 34 (by decide)
    refine oblc rfl rfl (show _ = (.bool (((e.void || (!decide (e.ev.typ = p.ptyp))) || (!decide (e.ev.field = p.pfield))) || (decide (p.pgroup < 1))) : Value) from e32) (fun hb136 => ?_) (fun hb136 => (if_neg hb136).symm)
    have hl137 : (((e.void || (!decide (e.ev.typ = p.ptyp))) || (!decide (e.ev.field = p.pfield))) || (decide (p.pgroup < 1))) = false := hb136
    simp only [Bool.and_eq_true, Bool.or_eq_true, Bool.and_eq_false_iff, Bool.or_eq_false_iff, decide_eq_true_eq, decide_eq_false_iff_not, Bool.not_eq_true', Bool.not_eq_false', Int.not_lt, Int.not_le] at hl137
    exact fa60_0 (show _ = (.pointer (some ⟨a, 0, none⟩) : Value) from (Eq.trans e34 (if_pos hb136))) ⟨Chg.refl _ _, (if_pos hb136).symm⟩
  · intro vals w39 hR138 hA
    have hs139 := hR138.size
    have e32 : (vals 32) = (.bool (((e.void || (!decide (e.ev.typ = p.ptyp))) || (!decide (e.ev.field = p.pfield))) || (decide (p.pgroup < 1))) : Value) := hA 32 (by decide)
    have e35 : (vals 35) = (if (((e.void || (!decide (e.ev.typ = p.ptyp))) || (!decide (e.ev.field = p.pfield))) || (decide (p.pgroup < 1))) = false then (.pointer (some ⟨a, 0, none⟩) : Value) else undef) := hA 35 (by decide)
    refine oblc rfl rfl (show _ = (.bool (((e.void || (!decide (e.ev.typ = p.ptyp))) || (!decide (e.ev.field = p.pfield))) || (decide (p.pgroup < 1))) : Value) from e32) (fun hb140 => ?_) (fun hb140 => (if_neg hb140).symm)
    have hl141 : (((e.void || (!decide (e.ev.typ = p.ptyp))) || (!decide (e.ev.field = p.pfield))) || (decide (p.pgroup < 1))) = false := hb140
    simp only [Bool.and_eq_true, Bool.or_eq_true, Bool.and_eq_false_iff, Bool.or_eq_false_iff, decide_eq_true_eq, decide_eq_false_iff_not, Bool.not_eq_true', Bool.not_eq_false', Int.not_lt, Int.not_le] at hl141
    exact fa23_2 (show _ = (.pointer (some ⟨a, 0, none⟩) : Value) from (Eq.trans e35 (if_pos hb140))) ⟨Chg.refl _ _, (if_pos hb140).symm⟩
  · intro vals w40 hR142 hA
    have hs143 := hR142.size
    have e32 : (vals 32) = (.bool (((e.void || (!decide (e.ev.typ = p.ptyp))) || (!decide (e.ev.field = p.pfield))) || (decide (p.pgroup < 1))) : Value) := hA 32 (by decide)
    have e36 : (vals 36) = (if (((e.void || (!decide (e.ev.typ = p.ptyp))) || (!decide (e.ev.field = p.pfield))) || (decide (p.pgroup < 1))) = false then (.pointer (some ⟨a, 2, none⟩) : Value) else undef) := hA 36 (by decide)
    refine oblc rfl rfl (show _ = (.bool (((e.void || (!decide (e.ev.typ = p.ptyp))) || (!decide (e.ev.field = p.pfield))) || (decide (p.pgroup < 1))) : Value) from e32) (fun hb144 => ?_) (fun hb144 => (if_neg hb144).symm)
    have hl145 : (((e.void || (!decide (e.ev.typ = p.ptyp))) || (!decide (e.ev.field = p.pfield))) || (decide (p.pgroup < 1))) = false := hb144
    simp only [Bool.and_eq_true, Bool.or_eq_true, Bool.and_eq_false_iff, Bool.or_eq_false_iff, decide_eq_true_eq, decide_eq_false_iff_not, Bool.not_eq_true', Bool.not_eq_false', Int.not_lt, Int.not_le] at hl145
    have h146 := (Chg.trans (Chg.trans hn1.ext hx5) hR142).keep ha (fun h => h)
    exact ov_load1 (v := .int .i64 (p.pgroup)) Try.isAgg3 (show _ = (.pointer (some ⟨a, 2, none⟩) : Value) from (Eq.trans e36 (if_pos hb144))) (blk_cellL h146 rfl) ⟨Chg.refl _ _, (if_pos hb144).symm⟩
  · intro vals w41 hR147 hA
    have hs148 := hR147.size
    have e32 : (vals 32) = (.bool (((e.void || (!decide (e.ev.typ = p.ptyp))) || (!decide (e.ev.field = p.pfield))) || (decide (p.pgroup < 1))) : Value) := hA 32 (by decide)
    have e37 : (vals 37) = (if (((e.void || (!decide (e.ev.typ = p.ptyp))) || (!decide (e.ev.field = p.pfield))) || (decide (p.pgroup < 1))) = false then (.int .i64 (p.pgroup) : Value) else undef) := hA 37 (by decide)
    refine oblc rfl rfl (show _ = (.bool (((e.void || (!decide (e.ev.typ = p.ptyp))) || (!decide (e.ev.field = p.pfield))) || (decide (p.pgroup < 1))) : Value) from e32) (fun hb149 => ?_) (fun hb149 => (if_neg hb149).symm)
    have hl150 : (((e.void || (!decide (e.ev.typ = p.ptyp))) || (!decide (e.ev.field = p.pfield))) || (decide (p.pgroup < 1))) = false := hb149
    simp only [Bool.and_eq_true, Bool.or_eq_true, Bool.and_eq_false_iff, Bool.or_eq_false_iff, decide_eq_true_eq, decide_eq_false_iff_not, Bool.not_eq_true', Bool.not_eq_false', Int.not_lt, Int.not_le] at hl150
    exact ov_gtr (k := .i64) (a := p.pgroup) (b := 3) (show _ = (.int .i64 (p.pgroup) : Value) from (Eq.trans e37 (if_pos hb149))) rfl ⟨Chg.refl _ _, (if_pos hb149).symm⟩
  · intro vals w42 hR151 hA
    have hs152 := hR151.size
    have e32 : (vals 32) = (.bool (((e.void || (!decide (e.ev.typ = p.ptyp))) || (!decide (e.ev.field = p.pfield))) || (decide (p.pgroup < 1))) : Value) := hA 32 (by decide)
    have e38 : (vals 38) = (if (((e.void || (!decide (e.ev.typ = p.ptyp))) || (!decide (e.ev.field = p.pfield))) || (decide (p.pgroup < 1))) = false then (.bool (decide (3 < p.pgroup)) : Value) else undef) := hA 38 (by decide)
    refine obl rfl ?_
    exact ov_pick_or (b := ((e.void || (!decide (e.ev.typ = p.ptyp))) || (!decide (e.ev.field = p.pfield))) || (decide (p.pgroup < 1))) (b' := decide (3 < p.pgroup)) (show _ = (.bool (((e.void || (!decide (e.ev.typ = p.ptyp))) || (!decide (e.ev.field = p.pfield))) || (decide (p.pgroup < 1))) : Value) from e32) (fun hbp => (show _ = (.bool (decide (3 < p.pgroup)) : Value) from (Eq.trans e38 (if_pos hbp)))) ⟨Chg.refl _ _, rfl⟩
  intro vals w43 hR153 hA
  have hs154 := hR153.size
  have hs155 := hx5.size
  have e39 : (vals 39) = (.bool ((((e.void || (!decide (e.ev.typ = p.ptyp))) || (!decide (e.ev.field = p.pfield))) || (decide (p.pgroup < 1))) || (decide (3 < p.pgroup))) : Value) := hA 39 (by decide)
  refine st_env (kv := [(0, .pointer (some ⟨a, 0, none⟩)), (1, .agg (e.cells de0).toArray), (2, .int .i64 (reg)), (4, .pointer (some ⟨b2, 0, none⟩)), (48, .bool ((((e.void || (!decide (e.ev.typ = p.ptyp))) || (!decide (e.ev.field = p.pfield))) || (decide (p.pgroup < 1))) || (decide (3 < p.pgroup))))]) ⟨rfl, rfl, rfl, rfl, (by exact e39), trivial⟩ (fun ρ43 => ?_)
  clear e39
  clear hA qh1 qh2 qh3 qh4
  refine st_nil ?_
  cases hc156 : (((e.void || (!decide (e.ev.typ = p.ptyp))) || (!decide (e.ev.field = p.pfield))) || (decide (p.pgroup < 1))) || (decide (3 < p.pgroup))
  · skip
    simp only [Bool.and_eq_true, Bool.or_eq_true, Bool.and_eq_false_iff, Bool.or_eq_false_iff, decide_eq_true_eq, decide_eq_false_iff_not, Bool.not_eq_true', Bool.not_eq_false', Int.not_lt, Int.not_le] at hc156
    refine WP_cond_f rfl ?_
    refine WP_skip ?_
    refine WP_seq ?_
    refine WP_region0 (by kernel_rfl) (fun _ => ?_)
    refine st (ov_move (v := .int .i64 (reg)) rfl ?_)
    refine st (ov_assign (v := .int .i64 (reg)) rfl ?_)
    refine st_nil ?_
    refine WP_seq ?_
    refine WP_seq ?_
    refine WP_region0 (by kernel_rfl) (fun _ => ?_)
    refine st (ov_move (v := .pointer (some ⟨a, 0, none⟩)) rfl ?_)
    refine st (ov_nilCheck (b := a) (o := 0) rfl ?_)
    refine st (fa60_0 rfl ?_)
    refine st (fa23_2 rfl ?_)
    have h157 := (Chg.trans (Chg.trans hn1.ext hx5) hR153).keep ha (fun h => h)
    refine st (ov_load1 (v := .int .i64 (p.pgroup)) Try.isAgg3 rfl (blk_cellL h157 rfl) ?_)
    refine st (ov_eql (k := .i64) (a := p.pgroup) (b := 1) rfl rfl ?_)
    refine st_nil ?_
    refine WP_join (fun σ wq => ∃ (g1 : Int) (ρ : Env), σ = setAll ρ [(0, .pointer (some ⟨a, 0, none⟩)), (1, .agg (e.cells de0).toArray), (2, .int .i64 (reg)), (4, .pointer (some ⟨b2, 0, none⟩)), (6, .int .i64 (g1))] ∧ w43 = wq ∧ g1 = if p.pgroup = 1 then e.ev.agg else reg) ?_ ?_
    · cases hc158 : decide (p.pgroup = 1)
      · skip
        have hc158 := of_decide_eq_false hc158
        refine WP_cond_f rfl ?_
        refine WP_skip ?_
        exact ⟨rfl, _, _, setAll_self ⟨(show _ = (.pointer (some ⟨a, 0, none⟩) : Value) from rfl), (show _ = (.agg (e.cells de0).toArray : Value) from rfl), (show _ = (.int .i64 (reg) : Value) from rfl), (show _ = (.pointer (some ⟨b2, 0, none⟩) : Value) from rfl), (show _ = (.int .i64 (reg) : Value) from rfl), trivial⟩, rfl, (if_neg hc158).symm⟩
      · skip
        have hc158 := of_decide_eq_true hc158
        refine WP_cond_t rfl ?_
        refine WP_region0 (by kernel_rfl) (fun _ => ?_)
        refine st (fa38_0 rfl ?_)
        refine st (fa36_4 rfl ?_)
        have h159 := (Chg.trans hx5 hR153).keep hb3 (fun h => h)
        refine st (ov_load1 (v := .int .i64 (e.ev.agg)) Try.isAgg3 rfl (blk_cellL h159 rfl) ?_)
        refine st (ov_assign (v := .int .i64 (e.ev.agg)) rfl ?_)
        refine st_nil ?_
        exact ⟨rfl, _, _, setAll_self ⟨(show _ = (.pointer (some ⟨a, 0, none⟩) : Value) from rfl), (show _ = (.agg (e.cells de0).toArray : Value) from rfl), (show _ = (.int .i64 (reg) : Value) from rfl), (show _ = (.pointer (some ⟨b2, 0, none⟩) : Value) from rfl), (show _ = (.int .i64 (e.ev.agg) : Value) from rfl), trivial⟩, rfl, (if_pos hc158).symm⟩
    rintro _ _ ⟨g1, ρj1, rfl, rfl, hj160⟩
    have hj160r : InR g1 := by rw [hj160]; split; exact oe.ev.agg; exact hreg
    refine WP_seq ?_
    refine WP_seq ?_
    refine WP_region0 (by kernel_rfl) (fun _ => ?_)
    refine st (ov_move (v := .pointer (some ⟨a, 0, none⟩)) rfl ?_)
    refine st (ov_nilCheck (b := a) (o := 0) rfl ?_)
    refine st (fa60_0 rfl ?_)
    refine st (fa23_2 rfl ?_)
    refine st (ov_load1 (v := .int .i64 (p.pgroup)) Try.isAgg3 rfl (blk_cellL h157 rfl) ?_)
    refine st (ov_eql (k := .i64) (a := p.pgroup) (b := 2) rfl rfl ?_)
    refine st_nil ?_
    refine WP_join (fun σ wq => ∃ (g2 : Int) (ρ : Env), σ = setAll ρ [(0, .pointer (some ⟨a, 0, none⟩)), (1, .agg (e.cells de0).toArray), (2, .int .i64 (reg)), (4, .pointer (some ⟨b2, 0, none⟩)), (6, .int .i64 (g2))] ∧ w43 = wq ∧ g2 = if p.pgroup = 2 then e.ev.arg else g1) ?_ ?_
    · cases hc161 : decide (p.pgroup = 2)
      · skip
        have hc161 := of_decide_eq_false hc161
        refine WP_cond_f rfl ?_
        refine WP_skip ?_
        exact ⟨rfl, _, _, setAll_self ⟨(show _ = (.pointer (some ⟨a, 0, none⟩) : Value) from rfl), (show _ = (.agg (e.cells de0).toArray : Value) from rfl), (show _ = (.int .i64 (reg) : Value) from rfl), (show _ = (.pointer (some ⟨b2, 0, none⟩) : Value) from rfl), (show _ = (.int .i64 (g1) : Value) from rfl), trivial⟩, rfl, (if_neg hc161).symm⟩
      · skip
        have hc161 := of_decide_eq_true hc161
        refine WP_cond_t rfl ?_
        refine WP_region0 (by kernel_rfl) (fun _ => ?_)
        refine st (fa38_0 rfl ?_)
        refine st (fa36_7 rfl ?_)
        have h162 := (Chg.trans hx5 hR153).keep hb3 (fun h => h)
        refine st (ov_load1 (v := .int .i64 (e.ev.arg)) Try.isAgg3 rfl (blk_cellL h162 rfl) ?_)
        refine st (ov_assign (v := .int .i64 (e.ev.arg)) rfl ?_)
        refine st_nil ?_
        exact ⟨rfl, _, _, setAll_self ⟨(show _ = (.pointer (some ⟨a, 0, none⟩) : Value) from rfl), (show _ = (.agg (e.cells de0).toArray : Value) from rfl), (show _ = (.int .i64 (reg) : Value) from rfl), (show _ = (.pointer (some ⟨b2, 0, none⟩) : Value) from rfl), (show _ = (.int .i64 (e.ev.arg) : Value) from rfl), trivial⟩, rfl, (if_pos hc161).symm⟩
    rintro _ _ ⟨g2, ρj2, rfl, rfl, hj163⟩
    have hj163r : InR g2 := by rw [hj163]; split; exact oe.ev.arg; exact hj160r
    refine WP_seq ?_
    refine WP_region0 (by kernel_rfl) (fun _ => ?_)
    refine st (ov_assign (v := .int .i64 (0)) rfl ?_)
    refine st_nil ?_
    refine WP_seq ?_
    refine WP_block ?_
    refine WP_loop (fun mq σ wq => ∃ (k : Nat) (ρ : Env), mq = l.length - k ∧ σ = setAll ρ [(0, .pointer (some ⟨a, 0, none⟩)), (4, .pointer (some ⟨b2, 0, none⟩)), (6, .int .i64 (g2)), (7, .int .i64 ((k : Nat) : Int))] ∧ (Ext w43 wq) ∧ (k ≤ l.length) ∧ (∀ j, j < k → (l.getD j default).group < g2)) ⟨0, _, rfl, setAll_self ⟨rfl, rfl, rfl, rfl, trivial⟩, (Chg.refl _ _), Nat.zero_le _, (fun j h => absurd h (Nat.not_lt_zero j))⟩ ?_
    rintro m167 σ168 w44 ⟨k, ρ44, rfl, rfl, hx164, hk165, hlt⟩
    have hx164s := hx164.size
    refine WP_seq ?_
    refine WP_seq ?_
    refine WP_region (by kernel_rfl) ?_
    refine st (ov_move (v := .int .i64 ((k : Nat) : Int)) rfl ?_)
    refine st (ov_move (v := .pointer (some ⟨a, 0, none⟩)) rfl ?_)
    refine st (ov_nilCheck (b := a) (o := 0) rfl ?_)
    refine st (fa60_1 rfl ?_)
    have h169 := hx164.keep h157 (fun h => h)
    refine st (ov_load1 (v := vx) Try.isAgg28 rfl (blk_cellL h169 rfl) ?_)
    refine st (ov_len (n := l.length) Try.underlying28 rfl hox.isSl ?_)
    refine st (ov_lss (k := .i64) (a := ((k : Nat) : Int)) (b := ((l.length : Nat) : Int)) rfl rfl ?_)
    refine st (ov_move (v := .bool (decide (((k : Nat) : Int) < ((l.length : Nat) : Int)))) rfl ?_)
    refine stc (V := .pointer (some ⟨a, 0, none⟩)) rfl rfl (fun hb170 => ?_) ?_
    · have hl171 : (decide (((k : Nat) : Int) < ((l.length : Nat) : Int))) = true := hb170
      have hl171 := of_decide_eq_true hl171
      exact ov_move (v := .pointer (some ⟨a, 0, none⟩)) rfl ⟨rfl, rfl⟩
    refine stc (V := .pointer (some ⟨a, 0, none⟩)) rfl rfl (fun hb172 => ?_) ?_
    · have hl173 : (decide (((k : Nat) : Int) < ((l.length : Nat) : Int))) = true := hb172
      have hl173 := of_decide_eq_true hl173
      exact ov_nilCheck (b := a) (o := 0) (show _ = (.pointer (some ⟨a, 0, none⟩) : Value) from (if_pos hb172)) ⟨rfl, rfl⟩
    refine stc (V := .pointer (some ⟨a, 5, none⟩)) rfl rfl (fun hb174 => ?_) ?_
    · have hl175 : (decide (((k : Nat) : Int) < ((l.length : Nat) : Int))) = true := hb174
      have hl175 := of_decide_eq_true hl175
      exact fa60_1 (show _ = (.pointer (some ⟨a, 0, none⟩) : Value) from (if_pos hb174)) ⟨rfl, rfl⟩
    refine stc (V := vx) rfl rfl (fun hb176 => ?_) ?_
    · have hl177 : (decide (((k : Nat) : Int) < ((l.length : Nat) : Int))) = true := hb176
      have hl177 := of_decide_eq_true hl177
      exact ov_load1 (v := vx) Try.isAgg28 (show _ = (.pointer (some ⟨a, 5, none⟩) : Value) from (if_pos hb176)) (blk_cellL h169 rfl) ⟨rfl, rfl⟩
    refine stc (V := .int .i64 ((k : Nat) : Int)) rfl rfl (fun hb178 => ?_) ?_
    · have hl179 : (decide (((k : Nat) : Int) < ((l.length : Nat) : Int))) = true := hb178
      have hl179 := of_decide_eq_true hl179
      exact ov_move (v := .int .i64 ((k : Nat) : Int)) rfl ⟨rfl, rfl⟩
    refine stc (V := .pointer (some ⟨sb vx, so vx + k * 3, none⟩)) rfl rfl (fun hb180 => ?_) ?_
    · have hl181 : (decide (((k : Nat) : Int) < ((l.length : Nat) : Int))) = true := hb180
      have hl181 := of_decide_eq_true hl181
      have hi182 : k < l.length := by omega
      have h184 := hox.ext (Chg.trans (Chg.trans (Chg.trans hn1.ext hx5) hR153) hx164)
      have hi183 : k < l.length := by omega
      obtain ⟨hc183, hok183⟩ := h184.row hi183
      rw [← getD_at default hi183] at hc183 hok183
      exact ov_indexAddrN (k := 3) (i := k) Try.underlying28 Try.sizeOf31 (show _ = (vx : Value) from (if_pos hb180)) hox.isSl (show _ = (.int .i64 ((k : Nat) : Int) : Value) from (if_pos hb180)) hi182 ⟨rfl, rfl⟩
    refine stc (V := .pointer (some ⟨sb vx, so vx + k * 3, none⟩)) rfl rfl (fun hb185 => ?_) ?_
    · have hl186 : (decide (((k : Nat) : Int) < ((l.length : Nat) : Int))) = true := hb185
      have hl186 := of_decide_eq_true hl186
      exact fa31_0 (show _ = (.pointer (some ⟨sb vx, so vx + k * 3, none⟩) : Value) from (if_pos hb185)) ⟨rfl, rfl⟩
    refine stc (V := .int .i64 ((l.getD k default).group)) rfl rfl (fun hb187 => ?_) ?_
    · have hl188 : (decide (((k : Nat) : Int) < ((l.length : Nat) : Int))) = true := hb187
      have hl188 := of_decide_eq_true hl188
      have h190 := hox.ext (Chg.trans (Chg.trans (Chg.trans hn1.ext hx5) hR153) hx164)
      have hi189 : k < l.length := by omega
      obtain ⟨hc189, hok189⟩ := h190.row hi189
      rw [← getD_at default hi189] at hc189 hok189
      exact ov_load1 (v := .int .i64 ((l.getD k default).group)) Try.isAgg3 (show _ = (.pointer (some ⟨sb vx, so vx + k * 3, none⟩) : Value) from (if_pos hb187)) (hc189.get (j := 0) rfl) ⟨rfl, rfl⟩
    refine stc (V := .int .i64 (g2)) rfl rfl (fun hb191 => ?_) ?_
    · have hl192 : (decide (((k : Nat) : Int) < ((l.length : Nat) : Int))) = true := hb191
      have hl192 := of_decide_eq_true hl192
      exact ov_move (v := .int .i64 (g2)) rfl ⟨rfl, rfl⟩
    refine stc (V := .bool (decide (((l.getD k default).group) < g2))) rfl rfl (fun hb193 => ?_) ?_
    · have hl194 : (decide (((k : Nat) : Int) < ((l.length : Nat) : Int))) = true := hb193
      have hl194 := of_decide_eq_true hl194
      exact ov_lss (k := .i64) (a := (l.getD k default).group) (b := g2) (show _ = (.int .i64 ((l.getD k default).group) : Value) from (if_pos hb193)) (show _ = (.int .i64 (g2) : Value) from (if_pos hb193)) ⟨rfl, rfl⟩
    refine st (ov_pick_and (b := decide (((k : Nat) : Int) < ((l.length : Nat) : Int))) (b' := decide (((l.getD k default).group) < g2)) rfl (fun hbp => (show _ = (.bool (decide (((l.getD k default).group) < g2)) : Value) from (if_pos hbp))) ?_)
    refine st_nil ?_
    cases hc195 : (decide (((k : Nat) : Int) < ((l.length : Nat) : Int))) && (decide (((l.getD k default).group) < g2))
    · skip
      simp only [Bool.and_eq_true, Bool.or_eq_true, Bool.and_eq_false_iff, Bool.or_eq_false_iff, decide_eq_true_eq, decide_eq_false_iff_not, Bool.not_eq_true', Bool.not_eq_false', Int.not_lt, Int.not_le] at hc195
      refine WP_cond_f rfl ?_
      refine WP_exit ?_
      refine blk_exit ?_
      refine WP_seq ?_
      refine WP_seq ?_
      refine WP_region (by kernel_rfl) ?_
      refine st (ov_move (v := .int .i64 ((k : Nat) : Int)) rfl ?_)
      refine st (ov_move (v := .pointer (some ⟨a, 0, none⟩)) rfl ?_)
      refine st (ov_nilCheck (b := a) (o := 0) rfl ?_)
      refine st (fa60_1 rfl ?_)
      refine st (ov_load1 (v := vx) Try.isAgg28 rfl (blk_cellL h169 rfl) ?_)
      refine st (ov_len (n := l.length) Try.underlying28 rfl hox.isSl ?_)
      refine st (ov_lss (k := .i64) (a := ((k : Nat) : Int)) (b := ((l.length : Nat) : Int)) rfl rfl ?_)
      refine st (ov_move (v := .bool (decide (((k : Nat) : Int) < ((l.length : Nat) : Int)))) rfl ?_)
      refine stc (V := .pointer (some ⟨a, 0, none⟩)) rfl rfl (fun hb196 => ?_) ?_
      · have hl197 : (decide (((k : Nat) : Int) < ((l.length : Nat) : Int))) = true := hb196
        have hl197 := of_decide_eq_true hl197
        exact ov_move (v := .pointer (some ⟨a, 0, none⟩)) rfl ⟨rfl, rfl⟩
      refine stc (V := .pointer (some ⟨a, 0, none⟩)) rfl rfl (fun hb198 => ?_) ?_
      · have hl199 : (decide (((k : Nat) : Int) < ((l.length : Nat) : Int))) = true := hb198
        have hl199 := of_decide_eq_true hl199
        exact ov_nilCheck (b := a) (o := 0) (show _ = (.pointer (some ⟨a, 0, none⟩) : Value) from (if_pos hb198)) ⟨rfl, rfl⟩
      refine stc (V := .pointer (some ⟨a, 5, none⟩)) rfl rfl (fun hb200 => ?_) ?_
      · have hl201 : (decide (((k : Nat) : Int) < ((l.length : Nat) : Int))) = true := hb200
        have hl201 := of_decide_eq_true hl201
        exact fa60_1 (show _ = (.pointer (some ⟨a, 0, none⟩) : Value) from (if_pos hb200)) ⟨rfl, rfl⟩
      refine stc (V := vx) rfl rfl (fun hb202 => ?_) ?_
      · have hl203 : (decide (((k : Nat) : Int) < ((l.length : Nat) : Int))) = true := hb202
        have hl203 := of_decide_eq_true hl203
        exact ov_load1 (v := vx) Try.isAgg28 (show _ = (.pointer (some ⟨a, 5, none⟩) : Value) from (if_pos hb202)) (blk_cellL h169 rfl) ⟨rfl, rfl⟩
      refine stc (V := .int .i64 ((k : Nat) : Int)) rfl rfl (fun hb204 => ?_) ?_
      · have hl205 : (decide (((k : Nat) : Int) < ((l.length : Nat) : Int))) = true := hb204
        have hl205 := of_decide_eq_true hl205
        exact ov_move (v := .int .i64 ((k : Nat) : Int)) rfl ⟨rfl, rfl⟩
      refine stc (V := .pointer (some ⟨sb vx, so vx + k * 3, none⟩)) rfl rfl (fun hb206 => ?_) ?_
      · have hl207 : (decide (((k : Nat) : Int) < ((l.length : Nat) : Int))) = true := hb206
        have hl207 := of_decide_eq_true hl207
        have hi208 : k < l.length := by omega
        exact ov_indexAddrN (k := 3) (i := k) Try.underlying28 Try.sizeOf31 (show _ = (vx : Value) from (if_pos hb206)) hox.isSl (show _ = (.int .i64 ((k : Nat) : Int) : Value) from (if_pos hb206)) hi208 ⟨rfl, rfl⟩
      refine stc (V := .pointer (some ⟨sb vx, so vx + k * 3, none⟩)) rfl rfl (fun hb209 => ?_) ?_
      · have hl210 : (decide (((k : Nat) : Int) < ((l.length : Nat) : Int))) = true := hb209
        have hl210 := of_decide_eq_true hl210
        exact fa31_0 (show _ = (.pointer (some ⟨sb vx, so vx + k * 3, none⟩) : Value) from (if_pos hb209)) ⟨rfl, rfl⟩
      refine stc (V := .int .i64 ((l.getD k default).group)) rfl rfl (fun hb211 => ?_) ?_
      · have hl212 : (decide (((k : Nat) : Int) < ((l.length : Nat) : Int))) = true := hb211
        have hl212 := of_decide_eq_true hl212
        have h214 := hox.ext (Chg.trans (Chg.trans (Chg.trans hn1.ext hx5) hR153) hx164)
        have hi213 : k < l.length := by omega
        obtain ⟨hc213, hok213⟩ := h214.row hi213
        rw [← getD_at default hi213] at hc213 hok213
        exact ov_load1 (v := .int .i64 ((l.getD k default).group)) Try.isAgg3 (show _ = (.pointer (some ⟨sb vx, so vx + k * 3, none⟩) : Value) from (if_pos hb211)) (hc213.get (j := 0) rfl) ⟨rfl, rfl⟩
      refine stc (V := .int .i64 (g2)) rfl rfl (fun hb215 => ?_) ?_
      · have hl216 : (decide (((k : Nat) : Int) < ((l.length : Nat) : Int))) = true := hb215
        have hl216 := of_decide_eq_true hl216
        exact ov_move (v := .int .i64 (g2)) rfl ⟨rfl, rfl⟩
      refine stc (V := .bool (decide (((l.getD k default).group) = g2))) rfl rfl (fun hb217 => ?_) ?_
      · have hl218 : (decide (((k : Nat) : Int) < ((l.length : Nat) : Int))) = true := hb217
        have hl218 := of_decide_eq_true hl218
        exact ov_eql (k := .i64) (a := (l.getD k default).group) (b := g2) (show _ = (.int .i64 ((l.getD k default).group) : Value) from (if_pos hb217)) (show _ = (.int .i64 (g2) : Value) from (if_pos hb217)) ⟨rfl, rfl⟩
      refine st (ov_pick_and (b := decide (((k : Nat) : Int) < ((l.length : Nat) : Int))) (b' := decide (((l.getD k default).group) = g2)) rfl (fun hbp => (show _ = (.bool (decide (((l.getD k default).group) = g2)) : Value) from (if_pos hbp))) ?_)
      refine st_nil ?_
      cases hc219 : (decide (((k : Nat) : Int) < ((l.length : Nat) : Int))) && (decide (((l.getD k default).group) = g2))
      · skip
        simp only [Bool.and_eq_true, Bool.or_eq_true, Bool.and_eq_false_iff, Bool.or_eq_false_iff, decide_eq_true_eq, decide_eq_false_iff_not, Bool.not_eq_true', Bool.not_eq_false', Int.not_lt, Int.not_le] at hc219
        refine WP_cond_f rfl ?_
        refine WP_skip ?_
        refine WP_seq ?_
        refine WP_region0 (by kernel_rfl) (fun _ => ?_)
        refine st (ov_move (v := .pointer (some ⟨a, 0, none⟩)) rfl ?_)
        refine st (ov_move (v := .pointer (some ⟨a, 0, none⟩)) rfl ?_)
        refine st (ov_nilCheck (b := a) (o := 0) rfl ?_)
        refine st (fa60_1 rfl ?_)
        refine st (ov_load1 (v := vx) Try.isAgg28 rfl (blk_cellL h169 rfl) ?_)
        have ok220 : Row.Ok (⟨0, 0, 0⟩ : Row) := ⟨(show InR (0) from (by omega)), (show InR (0) from (by omega)), (show InR (0) from (by omega))⟩
        refine st (ov_build (parts' := []) (v := .agg ((⟨0, 0, 0⟩ : Row).cells).toArray) rfl (by simp [Instr.build, Instr.fill, Prj.cells, Ent.cells, Ev.cells, Row.cells, go_sem]) ?_)
        refine st (ov_buildSlice (k := 3) (parts' := [(0, .agg ((⟨0, 0, 0⟩ : Row).cells).toArray)]) (c := ((⟨0, 0, 0⟩ : Row).cells).toArray) Try.underlying28 Try.sizeOf31 Try.zeroValue31 (by decide) rfl (by kernel_rfl) (fun w45 b222 hn221 => ?_))
        have hb223 : w45.heap[b222]? = some (.cells ((⟨0, 0, 0⟩ : Row).cells).toArray 31) := hn221.at_
        have hs224 := hn221.size; have hs224e := hn221.eq
        have h225 := hox.ext (Chg.trans (Chg.trans (Chg.trans (Chg.trans hn1.ext hx5) hR153) hx164) hn221.ext)
        have h226 := hn221.ext.keep h169 (fun h => h)
        have h227 := (Chg.trans (Chg.trans (Chg.trans hx5 hR153) hx164) hn221.ext).keep hb3 (fun h => h)
        refine st (ov_append1B (bytes := 24) (x1 := (⟨0, 0, 0⟩ : Row)) (F' := fun _ => False) (G := fun _ => False) elem28 rfl h225 rfl hb223 (show Rep.rd _ _ _ _ from ⟨rfl, in0, in0, in0⟩) (fun _ h => h) (fun _ _ h => h) h225.apart h225.bound (by omega) (by omega) rfl (fun vy w46 hoy hchy hby => ?_))
        have hys := hchy.size
        have hoA := hchy.keep h226 hapO
        have hoE := hchy.keep h227 hapE
        have hapO2 : vy.ownBlock ≠ some a := fun e => by have := (hoy.lt a e).1; omega
        have hapE2 : vy.ownBlock ≠ some b2 := fun e => by rcases hby with h | h; exact hapE (h ▸ e); have := h _ e; omega
        have hbyw : vy.ownBlock = vx.ownBlock ∨ ∀ g, vy.ownBlock = some g → w.heap.size ≤ g := hby.imp id (fun h g hg => Nat.le_trans (by omega) (h g hg))
        have hC1 : Chg (fun i => i = a ∨ vx.ownBlock = some i) w w46 := Chg.trans (Chg.ext _ (Chg.trans (Chg.trans (Chg.trans (Chg.trans hn1.ext hx5) hR153) hx164) hn221.ext)) (hchy.weak (fun i _ h => .inr h))
        refine st (ov_nilCheck (b := a) (o := 0) rfl ?_)
        refine st (fa60_1 rfl ?_)
        refine stn (ov_store1 (v := vy) (c := [.int .i64 (p.ptyp), .int .i64 (p.pfield), .int .i64 (p.pgroup), .int .i64 (p.pby), .int .i64 (p.pmake), vx]) (c' := [.int .i64 (p.ptyp), .int .i64 (p.pfield), .int .i64 (p.pgroup), .int .i64 (p.pby), .int .i64 (p.pmake), vy]) Try.sizeOf28 rfl rfl hoA hoy.isSl.one rfl rfl (fun w47 hp228 => ?_))
        have hs229 := hp228.size
        refine st_nil ?_
        have hoy2 := OwnS.chg hoy hp228.chg (fun b h e => by have e : b = a := e; subst e; exact hapO2 h) (fun _ h => h.elim)
        have hoE2 := Chg.keep hp228.chg hoE (fun e => by have e : b2 = a := e; omega)
        have hC2 : Chg (fun i => i = a ∨ vx.ownBlock = some i) w w47 := Chg.trans hC1 (Chg.weak hp228.chg (fun i _ h => .inl h))
        rw [← shl_top] at hoy2
        have hsl := shl_len (Nat.le_refl l.length)
        refine WP_seq ?_
        refine WP_seq ?_
        refine WP_region0 (by kernel_rfl) (fun _ => ?_)
        refine st (ov_move (v := .pointer (some ⟨a, 0, none⟩)) rfl ?_)
        refine st (ov_nilCheck (b := a) (o := 0) rfl ?_)
        refine st (fa60_1 rfl ?_)
        refine st (ov_load1 (v := vy) Try.isAgg28 rfl (blk_cellL hp228.at_ rfl) ?_)
        refine st (ov_len (n := (shl l l.length).length) Try.underlying28 rfl hoy2.isSl ?_)
        have hr230 : InR ((((shl l l.length).length) - 1 : Nat) : Int) := by omega
        refine st (ov_sub (r := ((((shl l l.length).length) - 1 : Nat) : Int)) (k := .i64) (a := (((shl l l.length).length : Nat) : Int)) (b := 1) rfl rfl (by rw [show ((((shl l l.length).length : Nat) : Int) - 1 : Int) = ((((shl l l.length).length) - 1 : Nat) : Int) by omega]; exact wrap_in hr230) ?_)
        refine st (ov_assign (v := .int .i64 ((((shl l l.length).length) - 1 : Nat) : Int)) rfl ?_)
        refine st_nil ?_
        refine WP_block ?_
        have hN8 : ((shl l l.length).length) - 1 = l.length := by first | omega | (simp only [List.length_append, List.length_cons, List.length_nil]; omega)
        refine WP_loop (fun mq σ wq => ∃ (q : Nat) (ρ : Env), mq = q - k ∧ σ = setAll ρ [(0, .pointer (some ⟨a, 0, none⟩)), (4, .pointer (some ⟨b2, 0, none⟩)), (6, .int .i64 (g2)), (7, .int .i64 ((k : Nat) : Int)), (8, .int .i64 ((q : Nat) : Int))] ∧ (Chg (fun i => i = a ∨ vx.ownBlock = some i) w wq) ∧ (k ≤ q ∧ q ≤ l.length) ∧ (wq.heap[a]? = some (.cells #[.int .i64 (p.ptyp), .int .i64 (p.pfield), .int .i64 (p.pgroup), .int .i64 (p.pby), .int .i64 (p.pmake), vy] 60)) ∧ (wq.heap[b2]? = some (.cells (e.cells de0).toArray 38)) ∧ (OwnS (α := Row) 31 (a + 1) wq (fun _ => False) vy (shl l q))) ⟨(((shl l l.length).length) - 1), _, rfl, setAll_self ⟨rfl, rfl, rfl, rfl, rfl, trivial⟩, hC2, ⟨by omega, by omega⟩, hp228.at_, hoE2, (by rw [hN8]; exact hoy2)⟩ ?_
        rintro m231 σ232 w48 ⟨q, ρ48, rfl, rfl, hC3, hq3, hA3, hE3, ho3⟩
        have hC3s := hC3.size; have hsl3 := shl_len hq3.2
        refine WP_seq ?_
        refine WP_seq ?_
        refine WP_region0 (by kernel_rfl) (fun _ => ?_)
        refine st (ov_move (v := .int .i64 ((q : Nat) : Int)) rfl ?_)
        refine st (ov_move (v := .int .i64 ((k : Nat) : Int)) rfl ?_)
        refine st (ov_gtr (k := .i64) (a := ((q : Nat) : Int)) (b := ((k : Nat) : Int)) rfl rfl ?_)
        refine st_nil ?_
        cases hc233 : decide (((k : Nat) : Int) < ((q : Nat) : Int))
        · skip
          have hc233 := of_decide_eq_false hc233
          refine WP_cond_f rfl ?_
          refine WP_exit ?_
          refine blk_exit ?_
          refine WP_draw2 (WL [fun wq => Ext w48 wq, fun wq => OwnS 31 (a + 1) wq (fun _ => False) vy ((shl l q).set k (oneR p (⟨g2, 0, 0⟩ : Row) e.ev.arg)) ∧ Chg (fun i => vy.ownBlock = some i) w48 wq]) (AV [fun v => v = (.pointer (some ⟨a, 0, none⟩) : Value), fun v => v = (.pointer (some ⟨a, 0, none⟩) : Value), fun v => v = (.pointer (some ⟨a, 5, none⟩) : Value), fun v => v = (vy : Value), fun v => v = (.int .i64 ((k : Nat) : Int) : Value), fun v => v = (.pointer (some ⟨a, 0, none⟩) : Value), fun v => v = (.int .i64 (g2) : Value), fun v => v = (.agg ((⟨g2, 0, 0⟩ : Row).cells).toArray : Value), fun v => v = (.pointer (some ⟨b2, 0, none⟩) : Value), fun v => v = (.pointer (some ⟨b2, 8, none⟩) : Value), fun v => v = (.int .i64 (e.ev.arg) : Value), fun v => v = (.agg ((oneR p (⟨g2, 0, 0⟩ : Row) e.ev.arg).cells).toArray : Value), fun v => v = (.pointer (some ⟨sb vy, so vy + k * 3, none⟩) : Value), fun v => True]) [[], [0], [0, 1], [0, 1, 2], [], [], [], [6], [], [8], [8, 9], [5, 6, 7, 8, 9, 10], [0, 1, 2, 3, 4, 5, 6, 7, 8, 9, 10, 11], [0, 1, 2, 3, 4, 5, 6, 7, 8, 9, 10, 11, 12]] [13] [some (0, 0), some (0, 0), some (0, 0), some (0, 0), some (0, 0), some (0, 0), some (0, 0), some (0, 0), some (0, 0), some (0, 0), some (0, 0), some (0, 0), some (0, 0), some (0, 1)] (by kernel_rfl) (by kernel_rfl) (by kernel_rfl) rfl (by kernel_rfl) (by kernel_rfl) (fun _ h1 h2 h3 h4 => ext_same h1 h2 h3 h4) ⟨?_, ?_, ?_, ?_, ?_, ?_, ?_, ?_, ?_, ?_, ?_, ?_, ?_, ?_, trivial⟩ ?_
          · intro vals w49 hW234 hA
            have hW234 : Ext w48 w49 := hW234
            have hs235 := hW234.size
            refine obl rfl ?_
            exact ov_move (v := .pointer (some ⟨a, 0, none⟩)) rfl ⟨hW234, rfl⟩
          · intro vals w50 hW236 hA
            have hW236 : Ext w48 w50 := hW236
            have hs237 := hW236.size
            have e0 : (vals 0) = (.pointer (some ⟨a, 0, none⟩) : Value) := hA 0 (by decide)
            refine obl rfl ?_
            exact ov_nilCheck (b := a) (o := 0) (show _ = (.pointer (some ⟨a, 0, none⟩) : Value) from e0) ⟨hW236, rfl⟩
          · intro vals w51 hW238 hA
            have hW238 : Ext w48 w51 := hW238
            have hs239 := hW238.size
            have e1 : (vals 1) = (.pointer (some ⟨a, 0, none⟩) : Value) := hA 1 (by decide)
            refine obl rfl ?_
            exact fa60_1 (show _ = (.pointer (some ⟨a, 0, none⟩) : Value) from e1) ⟨hW238, rfl⟩
          · intro vals w52 hW240 hA
            have hW240 : Ext w48 w52 := hW240
            have hs241 := hW240.size
            have e2 : (vals 2) = (.pointer (some ⟨a, 5, none⟩) : Value) := hA 2 (by decide)
            refine obl rfl ?_
            have h242 := hW240.keep hA3 (fun h => h)
            exact ov_load1 (v := vy) Try.isAgg28 (show _ = (.pointer (some ⟨a, 5, none⟩) : Value) from e2) (blk_cellL h242 rfl) ⟨hW240, rfl⟩
          · intro vals w53 hW243 hA
            have hW243 : Ext w48 w53 := hW243
            have hs244 := hW243.size
            refine obl rfl ?_
            exact ov_move (v := .int .i64 ((k : Nat) : Int)) rfl ⟨hW243, rfl⟩
          · intro vals w54 hW245 hA
            have hW245 : Ext w48 w54 := hW245
            have hs246 := hW245.size
            refine obl rfl ?_
            exact ov_move (v := .pointer (some ⟨a, 0, none⟩)) rfl ⟨hW245, rfl⟩
          · intro vals w55 hW247 hA
            have hW247 : Ext w48 w55 := hW247
            have hs248 := hW247.size
            refine obl rfl ?_
            exact ov_move (v := .int .i64 (g2)) rfl ⟨hW247, rfl⟩
          · intro vals w56 hW249 hA
            have hW249 : Ext w48 w56 := hW249
            have hs250 := hW249.size
            have e6 : (vals 6) = (.int .i64 (g2) : Value) := hA 6 (by decide)
            refine obl rfl ?_
            have ok251 : Row.Ok (⟨g2, 0, 0⟩ : Row) := ⟨(show InR (g2) from hj163r), (show InR (0) from (by omega)), (show InR (0) from (by omega))⟩
            exact ov_build (parts' := [(0, .int .i64 (g2))]) (v := .agg ((⟨g2, 0, 0⟩ : Row).cells).toArray) (mapP ⟨rfl, (show _ = (.int .i64 (g2) : Value) from e6), trivial⟩) (by simp [Instr.build, Instr.fill, Prj.cells, Ent.cells, Ev.cells, Row.cells, go_sem]) ⟨hW249, rfl⟩
          · intro vals w57 hW252 hA
            have hW252 : Ext w48 w57 := hW252
            have hs253 := hW252.size
            refine obl rfl ?_
            exact fa38_0 rfl ⟨hW252, rfl⟩
          · intro vals w58 hW254 hA
            have hW254 : Ext w48 w58 := hW254
            have hs255 := hW254.size
            have e8 : (vals 8) = (.pointer (some ⟨b2, 0, none⟩) : Value) := hA 8 (by decide)
            refine obl rfl ?_
            exact fa36_7 (show _ = (.pointer (some ⟨b2, 0, none⟩) : Value) from e8) ⟨hW254, rfl⟩
          · intro vals w59 hW256 hA
            have hW256 : Ext w48 w59 := hW256
            have hs257 := hW256.size
            have e9 : (vals 9) = (.pointer (some ⟨b2, 8, none⟩) : Value) := hA 9 (by decide)
            refine obl rfl ?_
            have h258 := hW256.keep hE3 (fun h => h)
            exact ov_load1 (v := .int .i64 (e.ev.arg)) Try.isAgg3 (show _ = (.pointer (some ⟨b2, 8, none⟩) : Value) from e9) (blk_cellL h258 rfl) ⟨hW256, rfl⟩
          · intro vals w60 hW259 hA
            have hW259 : Ext w48 w60 := hW259
            have hs260 := hW259.size
            have e5 : (vals 5) = (.pointer (some ⟨a, 0, none⟩) : Value) := hA 5 (by decide)
            have e7 : (vals 7) = (.agg ((⟨g2, 0, 0⟩ : Row).cells).toArray : Value) := hA 7 (by decide)
            have e10 : (vals 10) = (.int .i64 (e.ev.arg) : Value) := hA 10 (by decide)
            refine obl rfl ?_
            have h261 := hW259.keep hA3 (fun h => h)
            exact ov_call (f := 29) (vals := [.pointer (some ⟨a, 0, none⟩), .agg ((⟨g2, 0, 0⟩ : Row).cells).toArray, .int .i64 (e.ev.arg)]) (cap := []) (show _ = (.func (.func 29) #[] #[] : Value) from rfl) (mapL ⟨(show _ = (.pointer (some ⟨a, 0, none⟩) : Value) from e5), (show _ = (.agg ((⟨g2, 0, 0⟩ : Row).cells).toArray : Value) from e7), (show _ = (.int .i64 (e.ev.arg) : Value) from e10), trivial⟩) Try.call29 (C_one h261 op (⟨hj163r, in0, in0⟩ : Row.Ok _) oe.ev.arg (by first | exact hcnt _ (by omega) | exact (by decide : (0 : Int) ≤ 0 ∧ (0 : Int) < 4611686018427387904))) (fun _ _ h => ⟨Chg.trans hW259 h.2, h.1⟩)
          · intro vals w61 hW262 hA
            have hW262 : Ext w48 w61 := hW262
            have hs263 := hW262.size
            have e3 : (vals 3) = (vy : Value) := hA 3 (by decide)
            have e4 : (vals 4) = (.int .i64 ((k : Nat) : Int) : Value) := hA 4 (by decide)
            refine obl rfl ?_
            have hi264 : k < (shl l q).length := by omega
            have hi265 : k < (shl l q).length := by omega
            obtain ⟨hc265, hok265⟩ := ho3.row hi265
            rw [← getD_at default hi265] at hc265 hok265
            exact ov_indexAddrN (k := 3) (i := k) Try.underlying28 Try.sizeOf31 (show _ = (vy : Value) from e3) ho3.isSl (show _ = (.int .i64 ((k : Nat) : Int) : Value) from e4) hi264 ⟨hW262, rfl⟩
          · intro vals w62 hW266 hA
            have hW266 : Ext w48 w62 := hW266
            have hs267 := hW266.size
            have e11 : (vals 11) = (.agg ((oneR p (⟨g2, 0, 0⟩ : Row) e.ev.arg).cells).toArray : Value) := hA 11 (by decide)
            have e12 : (vals 12) = (.pointer (some ⟨sb vy, so vy + k * 3, none⟩) : Value) := hA 12 (by decide)
            refine obl rfl ?_
            have h268 := ho3.ext hW266
            exact ov_storeOwn (i := k) (u := .agg ((oneR p (⟨g2, 0, 0⟩ : Row) e.ev.arg).cells).toArray) Try.sizeOf31 h268 (by first | omega | (simp only [List.length_set]; omega)) (show _ = (.pointer (some ⟨sb vy, so vy + k * 3, none⟩) : Value) from e12) (show _ = (.agg ((oneR p (⟨g2, 0, 0⟩ : Row) e.ev.arg).cells).toArray : Value) from e11) rfl (show Rep.rd _ _ _ (oneR p (⟨g2, 0, 0⟩ : Row) e.ev.arg) from ⟨rfl, (oneR_ok (⟨hj163r, in0, in0⟩ : Row.Ok _) oe.ev.arg (by first | exact hcnt _ (by omega) | exact (by decide : (0 : Int) ≤ 0 ∧ (0 : Int) < 4611686018427387904)))⟩) (fun _ ho hch => ⟨⟨ho, (Chg.trans (Chg.ext _ hW266) hch)⟩, trivial⟩)
          intro vals w63 hW269 hA
          have hW269 : OwnS 31 (a + 1) w63 (fun _ => False) vy ((shl l q).set k (oneR p (⟨g2, 0, 0⟩ : Row) e.ev.arg)) ∧ Chg (fun i => vy.ownBlock = some i) w48 w63 := hW269
          have hs270 := hW269.2.size
          refine st_env (kv := [(0, .pointer (some ⟨a, 0, none⟩)), (4, .pointer (some ⟨b2, 0, none⟩)), (6, .int .i64 (g2)), (7, .int .i64 ((k : Nat) : Int)), (8, .int .i64 ((q : Nat) : Int)), (142, .int .i64 ((q : Nat) : Int)), (143, .int .i64 ((k : Nat) : Int)), (144, .bool false)]) ⟨rfl, rfl, rfl, rfl, rfl, rfl, rfl, rfl, trivial⟩ (fun ρ63 => ?_)
          clear hA 
          have h271 := hW269.2.keep hA3 (hapO2)
          have h272 := hW269.2.keep hE3 (hapE2)
          refine st_nil ?_
          refine fin0 Try.results20 ?_
          obtain ⟨⟨⟨⟨hv1, hv2⟩, hv3⟩, hv4⟩, hv5⟩ := hc156
          have hg : grpI p e.ev reg = some g2 := by
            rw [hj163, hj160]
            unfold grpI
            (repeat' split) <;> first | rfl | (congr 1; omega)
          have hqk : q = k := by omega
          subst hqk
          exact ⟨_, _, rfl, .inr ⟨⟨hv1, hv2, hv3, hv4, hv5⟩, g2, q, hg, by omega, hlt, .inr ⟨(by first | omega | (rcases hc219 with h | h; exact .inl (by omega); have := hc195; first | omega | skip)), rfl⟩⟩, h271, hW269.1, Chg.new hC3 hW269.2 (fun i hi hO => by rcases hbyw with h | h; exact .inr (h ▸ hO); exact absurd (h i hO) (by omega)), hbyw⟩
        · skip
          have hc233 := of_decide_eq_true hc233
          refine WP_cond_t rfl ?_
          refine WP_skip ?_
          refine WP_seq ?_
          refine WP_block ?_
          refine WP_draw2 (WL [fun wq => Ext w48 wq, fun wq => OwnS 31 (a + 1) wq (fun _ => False) vy ((shl l q).set q ((shl l q).getD (q - 1) default)) ∧ Chg (fun i => vy.ownBlock = some i) w48 wq]) (AV [fun v => v = (.pointer (some ⟨a, 0, none⟩) : Value), fun v => v = (.pointer (some ⟨a, 0, none⟩) : Value), fun v => v = (.pointer (some ⟨a, 5, none⟩) : Value), fun v => v = (vy : Value), fun v => v = (.int .i64 ((q : Nat) : Int) : Value), fun v => v = (.pointer (some ⟨a, 0, none⟩) : Value), fun v => v = (.pointer (some ⟨a, 0, none⟩) : Value), fun v => v = (.pointer (some ⟨a, 5, none⟩) : Value), fun v => v = (vy : Value), fun v => v = (.int .i64 ((q : Nat) : Int) : Value), fun v => v = (.int .i64 ((q - 1 : Nat) : Int) : Value), fun v => v = (.pointer (some ⟨sb vy, so vy + (q - 1) * 3, none⟩) : Value), fun v => v = (.agg (((shl l q).getD (q - 1) default).cells).toArray : Value), fun v => v = (.pointer (some ⟨sb vy, so vy + q * 3, none⟩) : Value), fun v => True]) [[], [0], [0, 1], [0, 1, 2], [], [], [5], [5, 6], [5, 6, 7], [], [9], [5, 6, 7, 8, 9, 10], [5, 6, 7, 8, 9, 10, 11], [0, 1, 2, 3, 4, 5, 6, 7, 8, 9, 10, 11, 12], [0, 1, 2, 3, 4, 5, 6, 7, 8, 9, 10, 11, 12, 13]] [14] [some (0, 0), some (0, 0), some (0, 0), some (0, 0), some (0, 0), some (0, 0), some (0, 0), some (0, 0), some (0, 0), some (0, 0), some (0, 0), some (0, 0), some (0, 0), some (0, 0), some (0, 1)] (by kernel_rfl) (by kernel_rfl) (by kernel_rfl) rfl (by kernel_rfl) (by kernel_rfl) (fun _ h1 h2 h3 h4 => ext_same h1 h2 h3 h4) ⟨?_, ?_, ?_, ?_, ?_, ?_, ?_, ?_, ?_, ?_, ?_, ?_, ?_, ?_, ?_, trivial⟩ ?_
          · intro vals w64 hW273 hA
            have hW273 : Ext w48 w64 := hW273
            have hs274 := hW273.size
            refine obl rfl ?_
            exact ov_move (v := .pointer (some ⟨a, 0, none⟩)) rfl ⟨hW273, rfl⟩
          · intro vals w65 hW275 hA
            have hW275 : Ext w48 w65 := hW275
            have hs276 := hW275.size
            have e0 : (vals 0) = (.pointer (some ⟨a, 0, none⟩) : Value) := hA 0 (by decide)
            refine obl rfl ?_
            exact ov_nilCheck (b := a) (o := 0) (show _ = (.pointer (some ⟨a, 0, none⟩) : Value) from e0) ⟨hW275, rfl⟩
          · intro vals w66 hW277 hA
            have hW277 : Ext w48 w66 := hW277
            have hs278 := hW277.size
            have e1 : (vals 1) = (.pointer (some ⟨a, 0, none⟩) : Value) := hA 1 (by decide)
            refine obl rfl ?_
            exact fa60_1 (show _ = (.pointer (some ⟨a, 0, none⟩) : Value) from e1) ⟨hW277, rfl⟩
          · intro vals w67 hW279 hA
            have hW279 : Ext w48 w67 := hW279
            have hs280 := hW279.size
            have e2 : (vals 2) = (.pointer (some ⟨a, 5, none⟩) : Value) := hA 2 (by decide)
            refine obl rfl ?_
            have h281 := hW279.keep hA3 (fun h => h)
            exact ov_load1 (v := vy) Try.isAgg28 (show _ = (.pointer (some ⟨a, 5, none⟩) : Value) from e2) (blk_cellL h281 rfl) ⟨hW279, rfl⟩
          · intro vals w68 hW282 hA
            have hW282 : Ext w48 w68 := hW282
            have hs283 := hW282.size
            refine obl rfl ?_
            exact ov_move (v := .int .i64 ((q : Nat) : Int)) rfl ⟨hW282, rfl⟩
          · intro vals w69 hW284 hA
            have hW284 : Ext w48 w69 := hW284
            have hs285 := hW284.size
            refine obl rfl ?_
            exact ov_move (v := .pointer (some ⟨a, 0, none⟩)) rfl ⟨hW284, rfl⟩
          · intro vals w70 hW286 hA
            have hW286 : Ext w48 w70 := hW286
            have hs287 := hW286.size
            have e5 : (vals 5) = (.pointer (some ⟨a, 0, none⟩) : Value) := hA 5 (by decide)
            refine obl rfl ?_
            exact ov_nilCheck (b := a) (o := 0) (show _ = (.pointer (some ⟨a, 0, none⟩) : Value) from e5) ⟨hW286, rfl⟩
          · intro vals w71 hW288 hA
            have hW288 : Ext w48 w71 := hW288
            have hs289 := hW288.size
            have e6 : (vals 6) = (.pointer (some ⟨a, 0, none⟩) : Value) := hA 6 (by decide)
            refine obl rfl ?_
            exact fa60_1 (show _ = (.pointer (some ⟨a, 0, none⟩) : Value) from e6) ⟨hW288, rfl⟩
          · intro vals w72 hW290 hA
            have hW290 : Ext w48 w72 := hW290
            have hs291 := hW290.size
            have e7 : (vals 7) = (.pointer (some ⟨a, 5, none⟩) : Value) := hA 7 (by decide)
            refine obl rfl ?_
            have h292 := hW290.keep hA3 (fun h => h)
            exact ov_load1 (v := vy) Try.isAgg28 (show _ = (.pointer (some ⟨a, 5, none⟩) : Value) from e7) (blk_cellL h292 rfl) ⟨hW290, rfl⟩
          · intro vals w73 hW293 hA
            have hW293 : Ext w48 w73 := hW293
            have hs294 := hW293.size
            refine obl rfl ?_
            exact ov_move (v := .int .i64 ((q : Nat) : Int)) rfl ⟨hW293, rfl⟩
          · intro vals w74 hW295 hA
            have hW295 : Ext w48 w74 := hW295
            have hs296 := hW295.size
            have e9 : (vals 9) = (.int .i64 ((q : Nat) : Int) : Value) := hA 9 (by decide)
            refine obl rfl ?_
            have hr297 : InR ((q - 1 : Nat) : Int) := by omega
            exact ov_sub (r := ((q - 1 : Nat) : Int)) (k := .i64) (a := ((q : Nat) : Int)) (b := 1) (show _ = (.int .i64 ((q : Nat) : Int) : Value) from e9) rfl (by rw [show (((q : Nat) : Int) - 1 : Int) = ((q - 1 : Nat) : Int) by omega]; exact wrap_in hr297) ⟨hW295, rfl⟩
          · intro vals w75 hW298 hA
            have hW298 : Ext w48 w75 := hW298
            have hs299 := hW298.size
            have e8 : (vals 8) = (vy : Value) := hA 8 (by decide)
            have e10 : (vals 10) = (.int .i64 ((q - 1 : Nat) : Int) : Value) := hA 10 (by decide)
            refine obl rfl ?_
            have hi300 : q - 1 < (shl l q).length := by omega
            have hi301 : q - 1 < (shl l q).length := by omega
            obtain ⟨hc301, hok301⟩ := ho3.row hi301
            rw [← getD_at default hi301] at hc301 hok301
            exact ov_indexAddrN (k := 3) (i := q - 1) Try.underlying28 Try.sizeOf31 (show _ = (vy : Value) from e8) ho3.isSl (show _ = (.int .i64 ((q - 1 : Nat) : Int) : Value) from e10) hi300 ⟨hW298, rfl⟩
          · intro vals w76 hW302 hA
            have hW302 : Ext w48 w76 := hW302
            have hs303 := hW302.size
            have e11 : (vals 11) = (.pointer (some ⟨sb vy, so vy + (q - 1) * 3, none⟩) : Value) := hA 11 (by decide)
            refine obl rfl ?_
            have hi304 : q - 1 < (shl l q).length := by omega
            obtain ⟨hc304, hok304⟩ := ho3.row hi304
            rw [← getD_at default hi304] at hc304 hok304
            have h305 := hc304.mono (fun hb => hW302.block _ hb (fun h => h))
            exact ov_loadk (k := 3) Try.isAgg31 Try.sizeOf31 rfl (show _ = (.pointer (some ⟨sb vy, so vy + (q - 1) * 3, none⟩) : Value) from e11) h305 ⟨hW302, rfl⟩
          · intro vals w77 hW306 hA
            have hW306 : Ext w48 w77 := hW306
            have hs307 := hW306.size
            have e3 : (vals 3) = (vy : Value) := hA 3 (by decide)
            have e4 : (vals 4) = (.int .i64 ((q : Nat) : Int) : Value) := hA 4 (by decide)
            refine obl rfl ?_
            have hi308 : q < (shl l q).length := by omega
            have hi309 : q < (shl l q).length := by omega
            obtain ⟨hc309, hok309⟩ := ho3.row hi309
            rw [← getD_at default hi309] at hc309 hok309
            exact ov_indexAddrN (k := 3) (i := q) Try.underlying28 Try.sizeOf31 (show _ = (vy : Value) from e3) ho3.isSl (show _ = (.int .i64 ((q : Nat) : Int) : Value) from e4) hi308 ⟨hW306, rfl⟩
          · intro vals w78 hW310 hA
            have hW310 : Ext w48 w78 := hW310
            have hs311 := hW310.size
            have e12 : (vals 12) = (.agg (((shl l q).getD (q - 1) default).cells).toArray : Value) := hA 12 (by decide)
            have e13 : (vals 13) = (.pointer (some ⟨sb vy, so vy + q * 3, none⟩) : Value) := hA 13 (by decide)
            refine obl rfl ?_
            have hi312 : q - 1 < (shl l q).length := by omega
            obtain ⟨hc312, hok312⟩ := ho3.row hi312
            rw [← getD_at default hi312] at hc312 hok312
            have h313 := ho3.ext hW310
            exact ov_storeOwn (i := q) (u := .agg (((shl l q).getD (q - 1) default).cells).toArray) Try.sizeOf31 h313 (by first | omega | (simp only [List.length_set]; omega)) (show _ = (.pointer (some ⟨sb vy, so vy + q * 3, none⟩) : Value) from e13) (show _ = (.agg (((shl l q).getD (q - 1) default).cells).toArray : Value) from e12) rfl (show Rep.rd _ _ _ ((shl l q).getD (q - 1) default) from ⟨rfl, hok312⟩) (fun _ ho hch => ⟨⟨ho, (Chg.trans (Chg.ext _ hW310) hch)⟩, trivial⟩)
          intro vals w79 hW314 hA
          have hW314 : OwnS 31 (a + 1) w79 (fun _ => False) vy ((shl l q).set q ((shl l q).getD (q - 1) default)) ∧ Chg (fun i => vy.ownBlock = some i) w48 w79 := hW314
          have hs315 := hW314.2.size
          refine st_env (kv := [(0, .pointer (some ⟨a, 0, none⟩)), (4, .pointer (some ⟨b2, 0, none⟩)), (6, .int .i64 (g2)), (7, .int .i64 ((k : Nat) : Int)), (8, .int .i64 ((q : Nat) : Int)), (142, .int .i64 ((q : Nat) : Int)), (143, .int .i64 ((k : Nat) : Int)), (144, .bool true)]) ⟨rfl, rfl, rfl, rfl, rfl, rfl, rfl, rfl, trivial⟩ (fun ρ79 => ?_)
          clear hA 
          have h316 := hW314.2.keep hA3 (hapO2)
          have h317 := hW314.2.keep hE3 (hapE2)
          refine st_nil ?_
          refine WP_region0 (by kernel_rfl) (fun _ => ?_)
          refine st (ov_move (v := .int .i64 ((q : Nat) : Int)) rfl ?_)
          have hr318 : InR ((q - 1 : Nat) : Int) := by omega
          refine st (ov_sub (r := ((q - 1 : Nat) : Int)) (k := .i64) (a := ((q : Nat) : Int)) (b := 1) rfl rfl (by rw [show (((q : Nat) : Int) - 1 : Int) = ((q - 1 : Nat) : Int) by omega]; exact wrap_in hr318) ?_)
          refine st (ov_assign (v := .int .i64 ((q - 1 : Nat) : Int)) rfl ?_)
          refine st_nil ?_
          exact ⟨_, by omega, q - 1, _, rfl, setAll_self ⟨rfl, rfl, rfl, rfl, rfl, trivial⟩, (Chg.new hC3 hW314.2 (fun i hi hO => by rcases hbyw with h | h; exact .inr (h ▸ hO); exact absurd (h i hO) (by omega))), by omega, h316, h317, (by rw [← shl_step (by omega) (by omega)]; exact hW314.1)⟩
      · skip
        simp only [Bool.and_eq_true, Bool.or_eq_true, Bool.and_eq_false_iff, Bool.or_eq_false_iff, decide_eq_true_eq, decide_eq_false_iff_not, Bool.not_eq_true', Bool.not_eq_false', Int.not_lt, Int.not_le] at hc219
        refine WP_cond_t rfl ?_
        refine WP_seq ?_
        refine WP_draw2 (WL [fun wq => Ext w44 wq, fun wq => OwnS 31 (a + 1) wq (fun _ => False) vx (l.set k (oneR p (l.getD k default) e.ev.arg)) ∧ Chg (fun i => vx.ownBlock = some i) w44 wq]) (AV [fun v => v = (.pointer (some ⟨a, 0, none⟩) : Value), fun v => v = (.pointer (some ⟨a, 0, none⟩) : Value), fun v => v = (.pointer (some ⟨a, 5, none⟩) : Value), fun v => v = (vx : Value), fun v => v = (.int .i64 ((k : Nat) : Int) : Value), fun v => v = (.pointer (some ⟨a, 0, none⟩) : Value), fun v => v = (.pointer (some ⟨a, 0, none⟩) : Value), fun v => v = (.pointer (some ⟨a, 0, none⟩) : Value), fun v => v = (.pointer (some ⟨a, 5, none⟩) : Value), fun v => v = (vx : Value), fun v => v = (.int .i64 ((k : Nat) : Int) : Value), fun v => v = (.pointer (some ⟨sb vx, so vx + k * 3, none⟩) : Value), fun v => v = (.agg ((l.getD k default).cells).toArray : Value), fun v => v = (.pointer (some ⟨b2, 0, none⟩) : Value), fun v => v = (.pointer (some ⟨b2, 8, none⟩) : Value), fun v => v = (.int .i64 (e.ev.arg) : Value), fun v => v = (.agg ((oneR p (l.getD k default) e.ev.arg).cells).toArray : Value), fun v => v = (.pointer (some ⟨sb vx, so vx + k * 3, none⟩) : Value), fun v => True]) [[], [0], [0, 1], [0, 1, 2], [], [], [], [6], [6, 7], [6, 7, 8], [], [6, 7, 8, 9, 10], [6, 7, 8, 9, 10, 11], [], [13], [13, 14], [5, 6, 7, 8, 9, 10, 11, 12, 13, 14, 15], [0, 1, 2, 3, 4, 5, 6, 7, 8, 9, 10, 11, 12, 13, 14, 15, 16], [0, 1, 2, 3, 4, 5, 6, 7, 8, 9, 10, 11, 12, 13, 14, 15, 16, 17]] [18] [some (0, 0), some (0, 0), some (0, 0), some (0, 0), some (0, 0), some (0, 0), some (0, 0), some (0, 0), some (0, 0), some (0, 0), some (0, 0), some (0, 0), some (0, 0), some (0, 0), some (0, 0), some (0, 0), some (0, 0), some (0, 0), some (0, 1)] (by kernel_rfl) (by kernel_rfl) (by kernel_rfl) rfl (by kernel_rfl) (by kernel_rfl) (fun _ h1 h2 h3 h4 => ext_same h1 h2 h3 h4) ⟨?_, ?_, ?_, ?_, ?_, ?_, ?_, ?_, ?_, ?_, ?_, ?_, ?_, ?_, ?_, ?_, ?_, ?_, ?_, trivial⟩ ?_
        · intro vals w80 hW319 hA
          have hW319 : Ext w44 w80 := hW319
          have hs320 := hW319.size
          refine obl rfl ?_
          exact ov_move (v := .pointer (some ⟨a, 0, none⟩)) rfl ⟨hW319, rfl⟩
        · intro vals w81 hW321 hA
          have hW321 : Ext w44 w81 := hW321
          have hs322 := hW321.size
          have e0 : (vals 0) = (.pointer (some ⟨a, 0, none⟩) : Value) := hA 0 (by decide)
          refine obl rfl ?_
          exact ov_nilCheck (b := a) (o := 0) (show _ = (.pointer (some ⟨a, 0, none⟩) : Value) from e0) ⟨hW321, rfl⟩
        · intro vals w82 hW323 hA
          have hW323 : Ext w44 w82 := hW323
          have hs324 := hW323.size
          have e1 : (vals 1) = (.pointer (some ⟨a, 0, none⟩) : Value) := hA 1 (by decide)
          refine obl rfl ?_
          exact fa60_1 (show _ = (.pointer (some ⟨a, 0, none⟩) : Value) from e1) ⟨hW323, rfl⟩
        · intro vals w83 hW325 hA
          have hW325 : Ext w44 w83 := hW325
          have hs326 := hW325.size
          have e2 : (vals 2) = (.pointer (some ⟨a, 5, none⟩) : Value) := hA 2 (by decide)
          refine obl rfl ?_
          have h327 := hW325.keep h169 (fun h => h)
          exact ov_load1 (v := vx) Try.isAgg28 (show _ = (.pointer (some ⟨a, 5, none⟩) : Value) from e2) (blk_cellL h327 rfl) ⟨hW325, rfl⟩
        · intro vals w84 hW328 hA
          have hW328 : Ext w44 w84 := hW328
          have hs329 := hW328.size
          refine obl rfl ?_
          exact ov_move (v := .int .i64 ((k : Nat) : Int)) rfl ⟨hW328, rfl⟩
        · intro vals w85 hW330 hA
          have hW330 : Ext w44 w85 := hW330
          have hs331 := hW330.size
          refine obl rfl ?_
          exact ov_move (v := .pointer (some ⟨a, 0, none⟩)) rfl ⟨hW330, rfl⟩
        · intro vals w86 hW332 hA
          have hW332 : Ext w44 w86 := hW332
          have hs333 := hW332.size
          refine obl rfl ?_
          exact ov_move (v := .pointer (some ⟨a, 0, none⟩)) rfl ⟨hW332, rfl⟩
        · intro vals w87 hW334 hA
          have hW334 : Ext w44 w87 := hW334
          have hs335 := hW334.size
          have e6 : (vals 6) = (.pointer (some ⟨a, 0, none⟩) : Value) := hA 6 (by decide)
          refine obl rfl ?_
          exact ov_nilCheck (b := a) (o := 0) (show _ = (.pointer (some ⟨a, 0, none⟩) : Value) from e6) ⟨hW334, rfl⟩
        · intro vals w88 hW336 hA
          have hW336 : Ext w44 w88 := hW336
          have hs337 := hW336.size
          have e7 : (vals 7) = (.pointer (some ⟨a, 0, none⟩) : Value) := hA 7 (by decide)
          refine obl rfl ?_
          exact fa60_1 (show _ = (.pointer (some ⟨a, 0, none⟩) : Value) from e7) ⟨hW336, rfl⟩
        · intro vals w89 hW338 hA
          have hW338 : Ext w44 w89 := hW338
          have hs339 := hW338.size
          have e8 : (vals 8) = (.pointer (some ⟨a, 5, none⟩) : Value) := hA 8 (by decide)
          refine obl rfl ?_
          have h340 := hW338.keep h169 (fun h => h)
          exact ov_load1 (v := vx) Try.isAgg28 (show _ = (.pointer (some ⟨a, 5, none⟩) : Value) from e8) (blk_cellL h340 rfl) ⟨hW338, rfl⟩
        · intro vals w90 hW341 hA
          have hW341 : Ext w44 w90 := hW341
          have hs342 := hW341.size
          refine obl rfl ?_
          exact ov_move (v := .int .i64 ((k : Nat) : Int)) rfl ⟨hW341, rfl⟩
        · intro vals w91 hW343 hA
          have hW343 : Ext w44 w91 := hW343
          have hs344 := hW343.size
          have e9 : (vals 9) = (vx : Value) := hA 9 (by decide)
          have e10 : (vals 10) = (.int .i64 ((k : Nat) : Int) : Value) := hA 10 (by decide)
          refine obl rfl ?_
          have hi345 : k < l.length := by omega
          exact ov_indexAddrN (k := 3) (i := k) Try.underlying28 Try.sizeOf31 (show _ = (vx : Value) from e9) hox.isSl (show _ = (.int .i64 ((k : Nat) : Int) : Value) from e10) hi345 ⟨hW343, rfl⟩
        · intro vals w92 hW346 hA
          have hW346 : Ext w44 w92 := hW346
          have hs347 := hW346.size
          have e11 : (vals 11) = (.pointer (some ⟨sb vx, so vx + k * 3, none⟩) : Value) := hA 11 (by decide)
          refine obl rfl ?_
          have h349 := hox.ext (Chg.trans (Chg.trans (Chg.trans hn1.ext hx5) hR153) hx164)
          have hi348 : k < l.length := by omega
          obtain ⟨hc348, hok348⟩ := h349.row hi348
          rw [← getD_at default hi348] at hc348 hok348
          have h350 := hc348.mono (fun hb => hW346.block _ hb (fun h => h))
          exact ov_loadk (k := 3) Try.isAgg31 Try.sizeOf31 rfl (show _ = (.pointer (some ⟨sb vx, so vx + k * 3, none⟩) : Value) from e11) h350 ⟨hW346, rfl⟩
        · intro vals w93 hW351 hA
          have hW351 : Ext w44 w93 := hW351
          have hs352 := hW351.size
          refine obl rfl ?_
          exact fa38_0 rfl ⟨hW351, rfl⟩
        · intro vals w94 hW353 hA
          have hW353 : Ext w44 w94 := hW353
          have hs354 := hW353.size
          have e13 : (vals 13) = (.pointer (some ⟨b2, 0, none⟩) : Value) := hA 13 (by decide)
          refine obl rfl ?_
          exact fa36_7 (show _ = (.pointer (some ⟨b2, 0, none⟩) : Value) from e13) ⟨hW353, rfl⟩
        · intro vals w95 hW355 hA
          have hW355 : Ext w44 w95 := hW355
          have hs356 := hW355.size
          have e14 : (vals 14) = (.pointer (some ⟨b2, 8, none⟩) : Value) := hA 14 (by decide)
          refine obl rfl ?_
          have h357 := (Chg.trans (Chg.trans (Chg.trans hx5 hR153) hx164) hW355).keep hb3 (fun h => h)
          exact ov_load1 (v := .int .i64 (e.ev.arg)) Try.isAgg3 (show _ = (.pointer (some ⟨b2, 8, none⟩) : Value) from e14) (blk_cellL h357 rfl) ⟨hW355, rfl⟩
        · intro vals w96 hW358 hA
          have hW358 : Ext w44 w96 := hW358
          have hs359 := hW358.size
          have e5 : (vals 5) = (.pointer (some ⟨a, 0, none⟩) : Value) := hA 5 (by decide)
          have e12 : (vals 12) = (.agg ((l.getD k default).cells).toArray : Value) := hA 12 (by decide)
          have e15 : (vals 15) = (.int .i64 (e.ev.arg) : Value) := hA 15 (by decide)
          refine obl rfl ?_
          have h360 := hW358.keep h169 (fun h => h)
          have h362 := hox.ext (Chg.trans (Chg.trans (Chg.trans hn1.ext hx5) hR153) hx164)
          have hi361 : k < l.length := by omega
          obtain ⟨hc361, hok361⟩ := h362.row hi361
          rw [← getD_at default hi361] at hc361 hok361
          exact ov_call (f := 29) (vals := [.pointer (some ⟨a, 0, none⟩), .agg ((l.getD k default).cells).toArray, .int .i64 (e.ev.arg)]) (cap := []) (show _ = (.func (.func 29) #[] #[] : Value) from rfl) (mapL ⟨(show _ = (.pointer (some ⟨a, 0, none⟩) : Value) from e5), (show _ = (.agg ((l.getD k default).cells).toArray : Value) from e12), (show _ = (.int .i64 (e.ev.arg) : Value) from e15), trivial⟩) Try.call29 (C_one h360 op hok361 oe.ev.arg (by first | exact hcnt _ (by omega) | exact (by decide : (0 : Int) ≤ 0 ∧ (0 : Int) < 4611686018427387904))) (fun _ _ h => ⟨Chg.trans hW358 h.2, h.1⟩)
        · intro vals w97 hW363 hA
          have hW363 : Ext w44 w97 := hW363
          have hs364 := hW363.size
          have e3 : (vals 3) = (vx : Value) := hA 3 (by decide)
          have e4 : (vals 4) = (.int .i64 ((k : Nat) : Int) : Value) := hA 4 (by decide)
          refine obl rfl ?_
          have hi365 : k < l.length := by omega
          exact ov_indexAddrN (k := 3) (i := k) Try.underlying28 Try.sizeOf31 (show _ = (vx : Value) from e3) hox.isSl (show _ = (.int .i64 ((k : Nat) : Int) : Value) from e4) hi365 ⟨hW363, rfl⟩
        · intro vals w98 hW366 hA
          have hW366 : Ext w44 w98 := hW366
          have hs367 := hW366.size
          have e16 : (vals 16) = (.agg ((oneR p (l.getD k default) e.ev.arg).cells).toArray : Value) := hA 16 (by decide)
          have e17 : (vals 17) = (.pointer (some ⟨sb vx, so vx + k * 3, none⟩) : Value) := hA 17 (by decide)
          refine obl rfl ?_
          have h369 := hox.ext (Chg.trans (Chg.trans (Chg.trans hn1.ext hx5) hR153) hx164)
          have hi368 : k < l.length := by omega
          obtain ⟨hc368, hok368⟩ := h369.row hi368
          rw [← getD_at default hi368] at hc368 hok368
          have h370 := hox.ext (Chg.trans (Chg.trans (Chg.trans (Chg.trans hn1.ext hx5) hR153) hx164) hW366)
          exact ov_storeOwn (i := k) (u := .agg ((oneR p (l.getD k default) e.ev.arg).cells).toArray) Try.sizeOf31 h370 (by first | omega | (simp only [List.length_set]; omega)) (show _ = (.pointer (some ⟨sb vx, so vx + k * 3, none⟩) : Value) from e17) (show _ = (.agg ((oneR p (l.getD k default) e.ev.arg).cells).toArray : Value) from e16) rfl (show Rep.rd _ _ _ (oneR p (l.getD k default) e.ev.arg) from ⟨rfl, (oneR_ok hok368 oe.ev.arg (by first | exact hcnt _ (by omega) | exact (by decide : (0 : Int) ≤ 0 ∧ (0 : Int) < 4611686018427387904)))⟩) (fun _ ho hch => ⟨⟨ho, (Chg.trans (Chg.ext _ hW366) hch)⟩, trivial⟩)
        intro vals w99 hW371 hA
        have hW371 : OwnS 31 (a + 1) w99 (fun _ => False) vx (l.set k (oneR p (l.getD k default) e.ev.arg)) ∧ Chg (fun i => vx.ownBlock = some i) w44 w99 := hW371
        have hs372 := hW371.2.size
        refine st_env (kv := [(0, .pointer (some ⟨a, 0, none⟩)), (4, .pointer (some ⟨b2, 0, none⟩)), (6, .int .i64 (g2)), (7, .int .i64 ((k : Nat) : Int)), (68, .int .i64 ((k : Nat) : Int)), (69, .pointer (some ⟨a, 0, none⟩)), (70, .pointer (some ⟨a, 0, none⟩)), (71, .pointer (some ⟨a, 5, none⟩)), (72, vx), (73, .int .i64 ((l.length : Nat) : Int)), (74, .bool (decide (((k : Nat) : Int) < ((l.length : Nat) : Int)))), (75, .bool (decide (((k : Nat) : Int) < ((l.length : Nat) : Int)))), (86, .bool false), (89, .int .i64 ((k : Nat) : Int)), (90, .pointer (some ⟨a, 0, none⟩)), (91, .pointer (some ⟨a, 0, none⟩)), (92, .pointer (some ⟨a, 5, none⟩)), (93, vx), (94, .int .i64 ((l.length : Nat) : Int)), (95, .bool (decide (((k : Nat) : Int) < ((l.length : Nat) : Int)))), (96, .bool (decide (((k : Nat) : Int) < ((l.length : Nat) : Int)))), (107, .bool true)]) ⟨rfl, rfl, rfl, rfl, rfl, rfl, rfl, rfl, rfl, rfl, rfl, rfl, rfl, rfl, rfl, rfl, rfl, rfl, rfl, rfl, rfl, rfl, trivial⟩ (fun ρ99 => ?_)
        clear hA 
        have h373 := hW371.2.keep h169 (hapO)
        have h374 := (Chg.trans (Chg.trans hx5 hR153) hx164).keep hb3 (fun h => h)
        have h375 := hW371.2.keep h374 (hapE)
        refine st_nil ?_
        refine WP_ret ?_
        refine fin0r Try.results20 ?_
        obtain ⟨⟨⟨⟨hv1, hv2⟩, hv3⟩, hv4⟩, hv5⟩ := hc156
        have hg : grpI p e.ev reg = some g2 := by
          rw [hj163, hj160]
          unfold grpI
          (repeat' split) <;> first | rfl | (congr 1; omega)
        exact ⟨_, _, rfl, .inr ⟨⟨hv1, hv2, hv3, hv4, hv5⟩, g2, k, hg, by omega, hlt, .inl ⟨by omega, hc219.2, rfl⟩⟩, h373, hW371.1, Chg.trans (Chg.ext _ (Chg.trans (Chg.trans (Chg.trans hn1.ext hx5) hR153) hx164)) (Chg.weak hW371.2 (fun i _ h => .inr h)), .inl rfl⟩
    · skip
      simp only [Bool.and_eq_true, Bool.or_eq_true, Bool.and_eq_false_iff, Bool.or_eq_false_iff, decide_eq_true_eq, decide_eq_false_iff_not, Bool.not_eq_true', Bool.not_eq_false', Int.not_lt, Int.not_le] at hc195
      refine WP_cond_t rfl ?_
      refine WP_skip ?_
      refine WP_block ?_
      refine WP_region0 (by kernel_rfl) (fun _ => ?_)
      refine st (ov_move (v := .int .i64 ((k : Nat) : Int)) rfl ?_)
      have hr376 : InR ((k + 1 : Nat) : Int) := by omega
      refine st (ov_add (r := ((k + 1 : Nat) : Int)) (k := .i64) (a := ((k : Nat) : Int)) (b := 1) rfl rfl (by rw [show (((k : Nat) : Int) + 1 : Int) = ((k + 1 : Nat) : Int) by omega]; exact wrap_in hr376) ?_)
      refine st (ov_assign (v := .int .i64 ((k + 1 : Nat) : Int)) rfl ?_)
      refine st_nil ?_
      exact ⟨_, by omega, k + 1, _, rfl, setAll_self ⟨rfl, rfl, rfl, rfl, trivial⟩, hx164, by omega, (fun j hj => by rcases Nat.lt_or_eq_of_le (Nat.le_of_lt_succ hj) with h | h; exact hlt j h; subst h; exact hc195.2)⟩
  · skip
    simp only [Bool.and_eq_true, Bool.or_eq_true, Bool.and_eq_false_iff, Bool.or_eq_false_iff, decide_eq_true_eq, decide_eq_false_iff_not, Bool.not_eq_true', Bool.not_eq_false', Int.not_lt, Int.not_le] at hc156
    refine WP_cond_t rfl ?_
    refine WP_ret ?_
    refine fin0r Try.results20 ?_
    have h377 := (Chg.trans (Chg.trans hn1.ext hx5) hR153).keep ha (fun h => h)
    have h378 := hox.ext (Chg.trans (Chg.trans hn1.ext hx5) hR153)
    exact ⟨_, _, rfl, .inl ⟨(by rcases hc156 with (((h | h) | h) | h) | h; exact .inl h; exact .inr (.inl h); exact .inr (.inr (.inl h)); exact .inr (.inr (.inr (.inl h))); exact .inr (.inr (.inr (.inr h)))), rfl⟩, h377, h378, Chg.ext _ (Chg.trans (Chg.trans hn1.ext hx5) hR153), .inl rfl⟩

end Go.Proofs.Ytbbpmhfcgoljdaa
