/- Steps of the proofs of this seat: part P2. -/
import Derived.Test.YtbbpmhfcgoljdaaP1
set_option linter.unusedSimpArgs false
set_option linter.unusedVariables false
namespace Go.Proofs.Ytbbpmhfcgoljdaa
open Go.Proofs Go.RowKit

theorem wrap_range (n : Int) : InR (IntKind.i64.wrap n) := by
  rw [IntKind.wrap_i64]
  omega
theorem madeI_in {p : Prj} {r : Row} {arg : Int} (hv : InR r.value) (hc : InR r.count) (ha : InR arg) : InR (madeI p r arg) := by
  unfold madeI
  split
  · exact hc
  · split
    · exact wrap_range _
    · split
      · exact ha
      · split
        · omega
        · split
          · omega
          · decide
def pick (L : List (Int × Row)) (idx : List Nat) : List Row := idx.map fun j => (L.getD j (0, ⟨0, 0, 0⟩)).2
theorem pick_app {L : List (Int × Row)} {idx : List Nat} {j : Nat} (hj : j < L.length) : pick L (idx ++ [j]) = pick L idx ++ [L[j].2] := by
  unfold pick
  rw [List.map_append, List.map_cons, List.map_nil, getD_at _ hj]
theorem pick_perm {L : List (Int × Row)} {idx : List Nat} (h : List.Perm (idx.map fun j => L[j]?) (L.map some)) : (pick L idx).Perm (L.map (·.2)) := by
  have h2 := h.map (fun o : Option (Int × Row) => (o.getD (0, ⟨0, 0, 0⟩)).2)
  rw [List.map_map, List.map_map] at h2
  refine (List.Perm.of_eq ?_).trans (h2.trans (List.Perm.of_eq ?_))
  · unfold pick; refine List.map_congr_left fun j _ => ?_; simp [List.getD_eq_getElem?_getD]
  · refine List.map_congr_left fun p _ => ?_; simp

theorem C_New {w : World} {p : Prj} (op : p.Ok) : Ret Try.prog 17 [.agg (p.cells).toArray] w (fun r w' => ∃ a m, r = .pointer (some ⟨a, 0, none⟩) ∧ Ext w w' ∧ w.heap.size ≤ a ∧ w.heap.size ≤ m ∧ a ≠ m ∧ w'.heap[a]? = some (.cells #[.int .i64 (p.ptyp), .int .i64 (p.pfield), .int .i64 (p.pgroup), .int .i64 (p.pby), .int .i64 (p.pmake), .map (some m)] 58) ∧ MapR (α := Row) w' (fun _ => False) m []) := by
  refine Calls_of_WP (args := [.agg (p.cells).toArray]) Try.func17 rfl rfl ?_
  refine WP_seq ?_
  refine WP_region0 (by kernel_rfl) (fun _ => ?_)
  refine st (ov_box (v := .agg (p.cells).toArray) rfl (fun w1 b2 hn1 => ?_))
  have hb3 : w1.heap[b2]? = some (.cells (p.cells).toArray 23) := hn1.at_
  have hs4 := hn1.size; have hs4e := hn1.eq
  refine st (ov_assign (v := .pointer none) rfl ?_)
  refine st_nil ?_
  refine WP_seq ?_
  refine WP_region0 (by kernel_rfl) (fun _ => ?_)
  refine st (ov_loadk (k := 5) Try.isAgg23 Try.sizeOf23 rfl rfl (CellsAt.all hb3) ?_)
  refine st (ov_makeMap (fun w2 hn5 => ?_))
  obtain ⟨m6, m6e⟩ : ∃ z, z = w1.heap.size := ⟨_, rfl⟩; rw [← m6e] at hn5 ⊢
  have hn5s := hn5.size
  have hn5m := New.mapR (α := Row) hn5 (fun _ => False)
  refine st (ov_build (parts' := [(0, .agg (p.cells).toArray), (1, .map (some m6))]) (v := .agg #[.int .i64 (p.ptyp), .int .i64 (p.pfield), .int .i64 (p.pgroup), .int .i64 (p.pby), .int .i64 (p.pmake), .map (some m6)]) rfl (by simp [Instr.build, Instr.fill, Prj.cells, go_sem]) ?_)
  refine st (ov_box (v := .agg #[.int .i64 (p.ptyp), .int .i64 (p.pfield), .int .i64 (p.pgroup), .int .i64 (p.pby), .int .i64 (p.pmake), .map (some m6)]) rfl (fun w3 b8 hn7 => ?_))
  have hb9 : w3.heap[b8]? = some (.cells #[.int .i64 (p.ptyp), .int .i64 (p.pfield), .int .i64 (p.pgroup), .int .i64 (p.pby), .int .i64 (p.pmake), .map (some m6)] 58) := hn7.at_
  have hs10 := hn7.size; have hs10e := hn7.eq
  refine st (ov_assign (v := .pointer (some ⟨b8, 0, none⟩)) rfl ?_)
  refine st_nil ?_
  refine WP_ret ?_
  refine fin1 Try.results17 (show _ = (.pointer (some ⟨b8, 0, none⟩) : Value) from rfl) ?_
  have h11 := hn5m.ext hn7.ext
  refine ⟨_, _, rfl, (Chg.trans (Chg.trans hn1.ext hn5.ext) hn7.ext), by omega, by omega, by omega, hb9, h11⟩

theorem fa38_0 {d : Option Tmp} {ty : TypeId} {pos : String} {af : Array Edge} {g : Option (Nat × Bool)} {σ : Env} {w : World} {K : Value → World → Prop} {x : Operand} {b o : Nat} (hx : ev σ x = .pointer (some ⟨b, o, none⟩)) (h : K (.pointer (some ⟨b, o + 0, none⟩)) w) : opV Try.prog ⟨d, .fieldAddr 38 x 0, ty, pos, af, g⟩ σ w K := ov_fieldAddr Try.underlying38 rfl rfl (fun w => ⟨9, Try.sizeOf36 w⟩) hx h
theorem fa38_1 {d : Option Tmp} {ty : TypeId} {pos : String} {af : Array Edge} {g : Option (Nat × Bool)} {σ : Env} {w : World} {K : Value → World → Prop} {x : Operand} {b o : Nat} (hx : ev σ x = .pointer (some ⟨b, o, none⟩)) (h : K (.pointer (some ⟨b, o + 10, none⟩)) w) : opV Try.prog ⟨d, .fieldAddr 38 x 1, ty, pos, af, g⟩ σ w K := ov_fieldAddr Try.underlying38 rfl rfl (fun w => ⟨0, Try.sizeOf4 w⟩) hx h
theorem fa36_3 {d : Option Tmp} {ty : TypeId} {pos : String} {af : Array Edge} {g : Option (Nat × Bool)} {σ : Env} {w : World} {K : Value → World → Prop} {x : Operand} {b o : Nat} (hx : ev σ x = .pointer (some ⟨b, o, none⟩)) (h : K (.pointer (some ⟨b, o + 4, none⟩)) w) : opV Try.prog ⟨d, .fieldAddr 36 x 3, ty, pos, af, g⟩ σ w K := ov_fieldAddr Try.underlying36 rfl rfl (fun w => ⟨0, Try.sizeOf3 w⟩) hx h
theorem fa23_0 {d : Option Tmp} {ty : TypeId} {pos : String} {af : Array Edge} {g : Option (Nat × Bool)} {σ : Env} {w : World} {K : Value → World → Prop} {x : Operand} {b o : Nat} (hx : ev σ x = .pointer (some ⟨b, o, none⟩)) (h : K (.pointer (some ⟨b, o + 0, none⟩)) w) : opV Try.prog ⟨d, .fieldAddr 23 x 0, ty, pos, af, g⟩ σ w K := ov_fieldAddr Try.underlying23 rfl rfl (fun w => ⟨0, Try.sizeOf3 w⟩) hx h
theorem fa36_5 {d : Option Tmp} {ty : TypeId} {pos : String} {af : Array Edge} {g : Option (Nat × Bool)} {σ : Env} {w : World} {K : Value → World → Prop} {x : Operand} {b o : Nat} (hx : ev σ x = .pointer (some ⟨b, o, none⟩)) (h : K (.pointer (some ⟨b, o + 6, none⟩)) w) : opV Try.prog ⟨d, .fieldAddr 36 x 5, ty, pos, af, g⟩ σ w K := ov_fieldAddr Try.underlying36 rfl rfl (fun w => ⟨0, Try.sizeOf3 w⟩) hx h
theorem fa23_1 {d : Option Tmp} {ty : TypeId} {pos : String} {af : Array Edge} {g : Option (Nat × Bool)} {σ : Env} {w : World} {K : Value → World → Prop} {x : Operand} {b o : Nat} (hx : ev σ x = .pointer (some ⟨b, o, none⟩)) (h : K (.pointer (some ⟨b, o + 1, none⟩)) w) : opV Try.prog ⟨d, .fieldAddr 23 x 1, ty, pos, af, g⟩ σ w K := ov_fieldAddr Try.underlying23 rfl rfl (fun w => ⟨0, Try.sizeOf3 w⟩) hx h
theorem fa58_1 {d : Option Tmp} {ty : TypeId} {pos : String} {af : Array Edge} {g : Option (Nat × Bool)} {σ : Env} {w : World} {K : Value → World → Prop} {x : Operand} {b o : Nat} (hx : ev σ x = .pointer (some ⟨b, o, none⟩)) (h : K (.pointer (some ⟨b, o + 5, none⟩)) w) : opV Try.prog ⟨d, .fieldAddr 58 x 1, ty, pos, af, g⟩ σ w K := ov_fieldAddr Try.underlying58 rfl rfl (fun w => ⟨0, Try.sizeOf56 w⟩) hx h
theorem fa31_0 {d : Option Tmp} {ty : TypeId} {pos : String} {af : Array Edge} {g : Option (Nat × Bool)} {σ : Env} {w : World} {K : Value → World → Prop} {x : Operand} {b o : Nat} (hx : ev σ x = .pointer (some ⟨b, o, none⟩)) (h : K (.pointer (some ⟨b, o + 0, none⟩)) w) : opV Try.prog ⟨d, .fieldAddr 31 x 0, ty, pos, af, g⟩ σ w K := ov_fieldAddr Try.underlying31 rfl rfl (fun w => ⟨0, Try.sizeOf3 w⟩) hx h
theorem C_Add {w : World} {a m : Nat} {p : Prj} (ha : w.heap[a]? = some (.cells #[.int .i64 (p.ptyp), .int .i64 (p.pfield), .int .i64 (p.pgroup), .int .i64 (p.pby), .int .i64 (p.pmake), .map (some m)] 58)) (op : p.Ok) {L : List (Int × Row)} (hm : MapR w (fun _ => False) m L) (ham : a ≠ m) {Fe : Nat → Prop} {e : Ent} {de0 : Value} (he0 : RdS w Fe de0 e.ev.deps) (oe : e.Ok) {reg : Int} (hreg : InR reg) (hcnt : ∀ g, ((lookM L g).getD (⟨0, 0, 0⟩ : Row)).count < 4611686018427387904) : Ret Try.prog 19 [.pointer (some ⟨a, 0, none⟩), .agg (e.cells de0).toArray, .int .i64 (reg)] w (fun r w' => r = .tuple #[] ∧ MapR w' (fun _ => False) m (addM p L e reg) ∧ Chg (fun i => i = m) w w') := by
  have he0s : e.ev.deps.length * 8 ≤ 140737488355328 := he0.small
  have hml := hm.lt
  have hal := blk_lt ha
  refine Calls_of_WP (args := [.pointer (some ⟨a, 0, none⟩), .agg (e.cells de0).toArray, .int .i64 (reg)]) Try.func19 rfl rfl ?_
  refine WP_seq ?_
  refine WP_region0 (by kernel_rfl) (fun _ => ?_)
  refine st (ov_box (v := .agg (e.cells de0).toArray) rfl (fun w1 b2 hn1 => ?_))
  have hb3 : w1.heap[b2]? = some (.cells (e.cells de0).toArray 38) := hn1.at_
  have hs4 := hn1.size; have hs4e := hn1.eq
  refine st_nil ?_
  refine WP_seq ?_
  refine WP_region0 (by kernel_rfl) (fun _ => ?_)
  refine st (ov_move (v := .pointer (some ⟨a, 0, none⟩)) rfl ?_)
  refine st (fa38_0 rfl ?_)
  refine st (ov_loadk (k := 10) (cs := [.int .i64 (e.ev.origin), .int .i64 (e.ev.seq), .int .i64 (e.ev.lam), de0, .int .i64 (e.ev.typ), .int .i64 (e.ev.agg), .int .i64 (e.ev.field), .int .i64 (e.ev.op), .int .i64 (e.ev.arg), .int .i64 (e.ev.key)]) Try.isAgg36 Try.sizeOf36 rfl rfl (CellsAt.sub (CellsAt.all hb3) 0 (cs2 := [.int .i64 (e.ev.origin), .int .i64 (e.ev.seq), .int .i64 (e.ev.lam), de0, .int .i64 (e.ev.typ), .int .i64 (e.ev.agg), .int .i64 (e.ev.field), .int .i64 (e.ev.op), .int .i64 (e.ev.arg), .int .i64 (e.ev.key)]) rfl) ?_)
  refine st (ov_move (v := .int .i64 (reg)) rfl ?_)
  have h5 := hn1.ext.keep ha (fun h => h)
  have h6 := he0.ext hn1.ext
  refine st (ov_call (f := 27) (vals := [.pointer (some ⟨a, 0, none⟩), .agg ((e.ev).cells de0).toArray, .int .i64 (reg)]) (cap := []) (show _ = (.func (.func 27) #[] #[] : Value) from rfl) rfl Try.call27 (C_group h5 op h6 oe.ev hreg) ?_)
  rintro _ w2 ⟨rfl, hx7⟩
  have hx7s := hx7.size
  refine st (ov_move (v := .tuple #[.int .i64 ((grpI p (e.ev) reg).getD 0), .bool ((grpI p (e.ev) reg).isSome)]) rfl ?_)
  refine st (ov_extract (vs := [.int .i64 ((grpI p (e.ev) reg).getD 0), .bool ((grpI p (e.ev) reg).isSome)]) (i := 0) (v := .int .i64 ((grpI p (e.ev) reg).getD 0)) rfl rfl ?_)
  refine st (ov_extract (vs := [.int .i64 ((grpI p (e.ev) reg).getD 0), .bool ((grpI p (e.ev) reg).isSome)]) (i := 1) (v := .bool ((grpI p (e.ev) reg).isSome)) rfl rfl ?_)
  refine st (ov_assign (v := .int .i64 ((grpI p (e.ev) reg).getD 0)) rfl ?_)
  refine st (ov_assign (v := .bool ((grpI p (e.ev) reg).isSome)) rfl ?_)
  refine st_nil ?_
  refine WP_seq ?_
  refine WP_seq ?_
  refine WP_draw Ext (AL [fun v w => v = (.bool ((grpI p (e.ev) reg).isSome) : Value), fun v w => v = (.bool (!((grpI p (e.ev) reg).isSome)) : Value), fun v w => v = (.bool (!((grpI p (e.ev) reg).isSome)) : Value), fun v w => v = (if (!((grpI p (e.ev) reg).isSome)) = false then (.pointer (some ⟨b2, 10, none⟩) : Value) else undef), fun v w => v = (if (!((grpI p (e.ev) reg).isSome)) = false then (.bool (e.void) : Value) else undef), fun v w => v = (.bool ((!((grpI p (e.ev) reg).isSome)) || e.void) : Value), fun v w => v = (.bool ((!((grpI p (e.ev) reg).isSome)) || e.void) : Value), fun v w => v = (if ((!((grpI p (e.ev) reg).isSome)) || e.void) = false then (.pointer (some ⟨b2, 0, none⟩) : Value) else undef), fun v w => v = (if ((!((grpI p (e.ev) reg).isSome)) || e.void) = false then (.pointer (some ⟨b2, 4, none⟩) : Value) else undef), fun v w => v = (if ((!((grpI p (e.ev) reg).isSome)) || e.void) = false then (.int .i64 (e.ev.typ) : Value) else undef), fun v w => v = (if ((!((grpI p (e.ev) reg).isSome)) || e.void) = false then (.pointer (some ⟨a, 0, none⟩) : Value) else undef), fun v w => v = (if ((!((grpI p (e.ev) reg).isSome)) || e.void) = false then (.pointer (some ⟨a, 0, none⟩) : Value) else undef), fun v w => v = (if ((!((grpI p (e.ev) reg).isSome)) || e.void) = false then (.pointer (some ⟨a, 0, none⟩) : Value) else undef), fun v w => v = (if ((!((grpI p (e.ev) reg).isSome)) || e.void) = false then (.pointer (some ⟨a, 0, none⟩) : Value) else undef), fun v w => v = (if ((!((grpI p (e.ev) reg).isSome)) || e.void) = false then (.int .i64 (p.ptyp) : Value) else undef), fun v w => v = (if ((!((grpI p (e.ev) reg).isSome)) || e.void) = false then (.bool (!decide (e.ev.typ = p.ptyp)) : Value) else undef), fun v w => v = (.bool (((!((grpI p (e.ev) reg).isSome)) || e.void) || (!decide (e.ev.typ = p.ptyp))) : Value), fun v w => v = (.bool (((!((grpI p (e.ev) reg).isSome)) || e.void) || (!decide (e.ev.typ = p.ptyp))) : Value), fun v w => v = (if (((!((grpI p (e.ev) reg).isSome)) || e.void) || (!decide (e.ev.typ = p.ptyp))) = false then (.pointer (some ⟨b2, 0, none⟩) : Value) else undef), fun v w => v = (if (((!((grpI p (e.ev) reg).isSome)) || e.void) || (!decide (e.ev.typ = p.ptyp))) = false then (.pointer (some ⟨b2, 6, none⟩) : Value) else undef), fun v w => v = (if (((!((grpI p (e.ev) reg).isSome)) || e.void) || (!decide (e.ev.typ = p.ptyp))) = false then (.int .i64 (e.ev.field) : Value) else undef), fun v w => v = (if (((!((grpI p (e.ev) reg).isSome)) || e.void) || (!decide (e.ev.typ = p.ptyp))) = false then (.pointer (some ⟨a, 0, none⟩) : Value) else undef), fun v w => v = (if (((!((grpI p (e.ev) reg).isSome)) || e.void) || (!decide (e.ev.typ = p.ptyp))) = false then (.pointer (some ⟨a, 0, none⟩) : Value) else undef), fun v w => v = (if (((!((grpI p (e.ev) reg).isSome)) || e.void) || (!decide (e.ev.typ = p.ptyp))) = false then (.pointer (some ⟨a, 0, none⟩) : Value) else undef), fun v w => v = (if (((!((grpI p (e.ev) reg).isSome)) || e.void) || (!decide (e.ev.typ = p.ptyp))) = false then (.pointer (some ⟨a, 1, none⟩) : Value) else undef), fun v w => v = (if (((!((grpI p (e.ev) reg).isSome)) || e.void) || (!decide (e.ev.typ = p.ptyp))) = false then (.int .i64 (p.pfield) : Value) else undef), fun v w => v = (if (((!((grpI p (e.ev) reg).isSome)) || e.void) || (!decide (e.ev.typ = p.ptyp))) = false then (.bool (!decide (e.ev.field = p.pfield)) : Value) else undef), fun v w => v = (.bool ((((!((grpI p (e.ev) reg).isSome)) || e.void) || (!decide (e.ev.typ = p.ptyp))) || (!decide (e.ev.field = p.pfield))) : Value)]) [[], [0], [0, 1], [0, 1, 2], [0, 1, 2, 3], [0, 1, 2, 3, 4], [0, 1, 2, 3, 4, 5], [0, 1, 2, 3, 4, 5, 6], [0, 1, 2, 3, 4, 5, 6, 7], [0, 1, 2, 3, 4, 5, 6, 7, 8], [0, 1, 2, 3, 4, 5, 6], [0, 1, 2, 3, 4, 5, 6, 10], [0, 1, 2, 3, 4, 5, 6, 10, 11], [0, 1, 2, 3, 4, 5, 6, 10, 11, 12], [0, 1, 2, 3, 4, 5, 6, 10, 11, 12, 13], [0, 1, 2, 3, 4, 5, 6, 7, 8, 9, 10, 11, 12, 13, 14], [0, 1, 2, 3, 4, 5, 6, 7, 8, 9, 10, 11, 12, 13, 14, 15], [0, 1, 2, 3, 4, 5, 6, 7, 8, 9, 10, 11, 12, 13, 14, 15, 16], [0, 1, 2, 3, 4, 5, 6, 7, 8, 9, 10, 11, 12, 13, 14, 15, 16, 17], [0, 1, 2, 3, 4, 5, 6, 7, 8, 9, 10, 11, 12, 13, 14, 15, 16, 17, 18], [0, 1, 2, 3, 4, 5, 6, 7, 8, 9, 10, 11, 12, 13, 14, 15, 16, 17, 18, 19], [0, 1, 2, 3, 4, 5, 6, 7, 8, 9, 10, 11, 12, 13, 14, 15, 16, 17], [0, 1, 2, 3, 4, 5, 6, 7, 8, 9, 10, 11, 12, 13, 14, 15, 16, 17, 21], [0, 1, 2, 3, 4, 5, 6, 7, 8, 9, 10, 11, 12, 13, 14, 15, 16, 17, 21, 22], [0, 1, 2, 3, 4, 5, 6, 7, 8, 9, 10, 11, 12, 13, 14, 15, 16, 17, 21, 22, 23], [0, 1, 2, 3, 4, 5, 6, 7, 8, 9, 10, 11, 12, 13, 14, 15, 16, 17, 21, 22, 23, 24], [0, 1, 2, 3, 4, 5, 6, 7, 8, 9, 10, 11, 12, 13, 14, 15, 16, 17, 18, 19, 20, 21, 22, 23, 24, 25], [0, 1, 2, 3, 4, 5, 6, 7, 8, 9, 10, 11, 12, 13, 14, 15, 16, 17, 18, 19, 20, 21, 22, 23, 24, 25, 26]] 28 (by kernel_rfl) (by kernel_rfl) (by kernel_rfl) (fun w => Chg.refl _ w) (fun _ _ _ h1 h2 => h1.trans h2) (stabL ⟨fun _ _ _ _ h => h, fun _ _ _ _ h => h, fun _ _ _ _ h => h, fun _ _ _ _ h => h, fun _ _ _ _ h => h, fun _ _ _ _ h => h, fun _ _ _ _ h => h, fun _ _ _ _ h => h, fun _ _ _ _ h => h, fun _ _ _ _ h => h, fun _ _ _ _ h => h, fun _ _ _ _ h => h, fun _ _ _ _ h => h, fun _ _ _ _ h => h, fun _ _ _ _ h => h, fun _ _ _ _ h => h, fun _ _ _ _ h => h, fun _ _ _ _ h => h, fun _ _ _ _ h => h, fun _ _ _ _ h => h, fun _ _ _ _ h => h, fun _ _ _ _ h => h, fun _ _ _ _ h => h, fun _ _ _ _ h => h, fun _ _ _ _ h => h, fun _ _ _ _ h => h, fun _ _ _ _ h => h, fun _ _ _ _ h => h, trivial⟩) ?_
  intro w3 qh1 qh2 qh3 qh4
  have hx8 := ext_same qh1 qh2 qh3 qh4
  refine ⟨⟨?_, ?_, ?_, ?_, ?_, ?_, ?_, ?_, ?_, ?_, ?_, ?_, ?_, ?_, ?_, ?_, ?_, ?_, ?_, ?_, ?_, ?_, ?_, ?_, ?_, ?_, ?_, ?_, trivial⟩, ?_⟩
  · intro vals w4 hR9 hA
    have hs10 := hR9.size
    refine obl rfl ?_
    exact ov_move (v := .bool ((grpI p (e.ev) reg).isSome)) rfl ⟨Chg.refl _ _, rfl⟩
  · intro vals w5 hR11 hA
    have hs12 := hR11.size
    have e0 : (vals 0) = (.bool ((grpI p (e.ev) reg).isSome) : Value) := hA 0 (by decide)
    refine obl rfl ?_
    exact ov_not (a := (grpI p (e.ev) reg).isSome) (show _ = (.bool ((grpI p (e.ev) reg).isSome) : Value) from e0) ⟨Chg.refl _ _, rfl⟩
  · intro vals w6 hR13 hA
    have hs14 := hR13.size
    have e1 : (vals 1) = (.bool (!((grpI p (e.ev) reg).isSome)) : Value) := hA 1 (by decide)
    refine obl rfl ?_
    exact ov_move (v := .bool (!((grpI p (e.ev) reg).isSome))) (show _ = (.bool (!((grpI p (e.ev) reg).isSome)) : Value) from e1) ⟨Chg.refl _ _, rfl⟩
  · intro vals w7 hR15 hA
    have hs16 := hR15.size
    have e2 : (vals 2) = (.bool (!((grpI p (e.ev) reg).isSome)) : Value) := hA 2 (by decide)
    refine oblc rfl rfl (show _ = (.bool (!((grpI p (e.ev) reg).isSome)) : Value) from e2) (fun hb17 => ?_) (fun hb17 => (if_neg hb17).symm)
    have hl18 : (!((grpI p (e.ev) reg).isSome)) = false := hb17
    simp only [Bool.and_eq_true, Bool.or_eq_true, Bool.and_eq_false_iff, Bool.or_eq_false_iff, decide_eq_true_eq, decide_eq_false_iff_not, Bool.not_eq_true', Bool.not_eq_false', Int.not_lt, Int.not_le] at hl18
    exact fa38_1 rfl ⟨Chg.refl _ _, (if_pos hb17).symm⟩
  · intro vals w8 hR19 hA
    have hs20 := hR19.size
    have e2 : (vals 2) = (.bool (!((grpI p (e.ev) reg).isSome)) : Value) := hA 2 (by decide)
    have e3 : (vals 3) = (if (!((grpI p (e.ev) reg).isSome)) = false then (.pointer (some ⟨b2, 10, none⟩) : Value) else undef) := hA 3 (by decide)
    refine oblc rfl rfl (show _ = (.bool (!((grpI p (e.ev) reg).isSome)) : Value) from e2) (fun hb21 => ?_) (fun hb21 => (if_neg hb21).symm)
    have hl22 : (!((grpI p (e.ev) reg).isSome)) = false := hb21
    simp only [Bool.and_eq_true, Bool.or_eq_true, Bool.and_eq_false_iff, Bool.or_eq_false_iff, decide_eq_true_eq, decide_eq_false_iff_not, Bool.not_eq_true', Bool.not_eq_false', Int.not_lt, Int.not_le] at hl22
    have h23 := (Chg.trans (Chg.trans hx7 hx8) hR19).keep hb3 (fun h => h)
    exact ov_load1 (v := .bool (e.void)) Try.isAgg4 (show _ = (.pointer (some ⟨b2, 10, none⟩) : Value) from (Eq.trans e3 (if_pos hb21))) (blk_cellL h23 rfl) ⟨Chg.refl _ _, (if_pos hb21).symm⟩
  · intro vals w9 hR24 hA
    have hs25 := hR24.size
    have e2 : (vals 2) = (.bool (!((grpI p (e.ev) reg).isSome)) : Value) := hA 2 (by decide)
    have e4 : (vals 4) = (if (!((grpI p (e.ev) reg).isSome)) = false then (.bool (e.void) : Value) else undef) := hA 4 (by decide)
    refine obl rfl ?_
    exact ov_pick_or (b := !((grpI p (e.ev) reg).isSome)) (b' := e.void) (show _ = (.bool (!((grpI p (e.ev) reg).isSome)) : Value) from e2) (fun hbp => (show _ = (.bool (e.void) : Value) from (Eq.trans e4 (if_pos hbp)))) ⟨Chg.refl _ _, rfl⟩
  · intro vals w10 hR26 hA
    have hs27 := hR26.size
    have e5 : (vals 5) = (.bool ((!((grpI p (e.ev) reg).isSome)) || e.void) : Value) := hA 5 (by decide)
    refine obl rfl ?_
    exact ov_move (v := .bool ((!((grpI p (e.ev) reg).isSome)) || e.void)) (show _ = (.bool ((!((grpI p (e.ev) reg).isSome)) || e.void) : Value) from e5) ⟨Chg.refl _ _, rfl⟩
  · intro vals w11 hR28 hA
    have hs29 := hR28.size
    have e6 : (vals 6) = (.bool ((!((grpI p (e.ev) reg).isSome)) || e.void) : Value) := hA 6 (by decide)
    refine oblc rfl rfl (show _ = (.bool ((!((grpI p (e.ev) reg).isSome)) || e.void) : Value) from e6) (fun hb30 => ?_) (fun hb30 => (if_neg hb30).symm)
    have hl31 : ((!((grpI p (e.ev) reg).isSome)) || e.void) = false := hb30
    simp only [Bool.and_eq_true, Bool.or_eq_true, Bool.and_eq_false_iff, Bool.or_eq_false_iff, decide_eq_true_eq, decide_eq_false_iff_not, Bool.not_eq_true', Bool.not_eq_false', Int.not_lt, Int.not_le] at hl31
    exact fa38_0 rfl ⟨Chg.refl _ _, (if_pos hb30).symm⟩
  · intro vals w12 hR32 hA
    have hs33 := hR32.size
    have e6 : (vals 6) = (.bool ((!((grpI p (e.ev) reg).isSome)) || e.void) : Value) := hA 6 (by decide)
    have e7 : (vals 7) = (if ((!((grpI p (e.ev) reg).isSome)) || e.void) = false then (.pointer (some ⟨b2, 0, none⟩) : Value) else undef) := hA 7 (by decide)
    refine oblc rfl rfl (show _ = (.bool ((!((grpI p (e.ev) reg).isSome)) || e.void) : Value) from e6) (fun hb34 => ?_) (fun hb34 => (if_neg hb34).symm)
    have hl35 : ((!((grpI p (e.ev) reg).isSome)) || e.void) = false := hb34
    simp only [Bool.and_eq_true, Bool.or_eq_true, Bool.and_eq_false_iff, Bool.or_eq_false_iff, decide_eq_true_eq, decide_eq_false_iff_not, Bool.not_eq_true', Bool.not_eq_false', Int.not_lt, Int.not_le] at hl35
    exact fa36_3 (show _ = (.pointer (some ⟨b2, 0, none⟩) : Value) from (Eq.trans e7 (if_pos hb34))) ⟨Chg.refl _ _, (if_pos hb34).symm⟩
  · intro vals w13 hR36 hA
    have hs37 := hR36.size
    have e6 : (vals 6) = (.bool ((!((grpI p (e.ev) reg).isSome)) || e.void) : Value) := hA 6 (by decide)
    have e8 : (vals 8) = (if ((!((grpI p (e.ev) reg).isSome)) || e.void) = false then (.pointer (some ⟨b2, 4, none⟩) : Value) else undef) := hA 8 (by decide)
    refine oblc rfl rfl (show _ = (.bool ((!((grpI p (e.ev) reg).isSome)) || e.void) : Value) from e6) (fun hb38 => ?_) (fun hb38 => (if_neg hb38).symm)
    have hl39 : ((!((grpI p (e.ev) reg).isSome)) || e.void) = false := hb38
    simp only [Bool.and_eq_true, Bool.or_eq_true, Bool.and_eq_false_iff, Bool.or_eq_false_iff, decide_eq_true_eq, decide_eq_false_iff_not, Bool.not_eq_true', Bool.not_eq_false', Int.not_lt, Int.not_le] at hl39
    have h40 := (Chg.trans (Chg.trans hx7 hx8) hR36).keep hb3 (fun h => h)
    exact ov_load1 (v := .int .i64 (e.ev.typ)) Try.isAgg3 (show _ = (.pointer (some ⟨b2, 4, none⟩) : Value) from (Eq.trans e8 (if_pos hb38))) (blk_cellL h40 rfl) ⟨Chg.refl _ _, (if_pos hb38).symm⟩
  · intro vals w14 hR41 hA
    have hs42 := hR41.size
    have e6 : (vals 6) = (.bool ((!((grpI p (e.ev) reg).isSome)) || e.void) : Value) := hA 6 (by decide)
    refine oblc rfl rfl (show _ = (.bool ((!((grpI p (e.ev) reg).isSome)) || e.void) : Value) from e6) (fun hb43 => ?_) (fun hb43 => (if_neg hb43).symm)
    have hl44 : ((!((grpI p (e.ev) reg).isSome)) || e.void) = false := hb43
    simp only [Bool.and_eq_true, Bool.or_eq_true, Bool.and_eq_false_iff, Bool.or_eq_false_iff, decide_eq_true_eq, decide_eq_false_iff_not, Bool.not_eq_true', Bool.not_eq_false', Int.not_lt, Int.not_le] at hl44
    exact ov_move (v := .pointer (some ⟨a, 0, none⟩)) rfl ⟨Chg.refl _ _, (if_pos hb43).symm⟩
  · intro vals w15 hR45 hA
    have hs46 := hR45.size
    have e6 : (vals 6) = (.bool ((!((grpI p (e.ev) reg).isSome)) || e.void) : Value) := hA 6 (by decide)
    have e10 : (vals 10) = (if ((!((grpI p (e.ev) reg).isSome)) || e.void) = false then (.pointer (some ⟨a, 0, none⟩) : Value) else undef) := hA 10 (by decide)
    refine oblc rfl rfl (show _ = (.bool ((!((grpI p (e.ev) reg).isSome)) || e.void) : Value) from e6) (fun hb47 => ?_) (fun hb47 => (if_neg hb47).symm)
    have hl48 : ((!((grpI p (e.ev) reg).isSome)) || e.void) = false := hb47
    simp only [Bool.and_eq_true, Bool.or_eq_true, Bool.and_eq_false_iff, Bool.or_eq_false_iff, decide_eq_true_eq, decide_eq_false_iff_not, Bool.not_eq_true', Bool.not_eq_false', Int.not_lt, Int.not_le] at hl48
    exact ov_nilCheck (b := a) (o := 0) (show _ = (.pointer (some ⟨a, 0, none⟩) : Value) from (Eq.trans e10 (if_pos hb47))) ⟨Chg.refl _ _, (if_pos hb47).symm⟩
  · intro vals w16 hR49 hA
    have hs50 := hR49.size
    have e6 : (vals 6) = (.bool ((!((grpI p (e.ev) reg).isSome)) || e.void) : Value) := hA 6 (by decide)
    have e11 : (vals 11) = (if ((!((grpI p (e.ev) reg).isSome)) || e.void) = false then (.pointer (some ⟨a, 0, none⟩) : Value) else undef) := hA 11 (by decide)
    refine oblc rfl rfl (show _ = (.bool ((!((grpI p (e.ev) reg).isSome)) || e.void) : Value) from e6) (fun hb51 => ?_) (fun hb51 => (if_neg hb51).symm)
    have hl52 : ((!((grpI p (e.ev) reg).isSome)) || e.void) = false := hb51
    simp only [Bool.and_eq_true, Bool.or_eq_true, Bool.and_eq_false_iff, Bool.or_eq_false_iff, decide_eq_true_eq, decide_eq_false_iff_not, Bool.not_eq_true', Bool.not_eq_false', Int.not_lt, Int.not_le] at hl52
    exact fa58_0 (show _ = (.pointer (some ⟨a, 0, none⟩) : Value) from (Eq.trans e11 (if_pos hb51))) ⟨Chg.refl _ _, (if_pos hb51).symm⟩
  · intro vals w17 hR53 hA
    have hs54 := hR53.size
    have e6 : (vals 6) = (.bool ((!((grpI p (e.ev) reg).isSome)) || e.void) : Value) := hA 6 (by decide)
    have e12 : (vals 12) = (if ((!((grpI p (e.ev) reg).isSome)) || e.void) = false then (.pointer (some ⟨a, 0, none⟩) : Value) else undef) := hA 12 (by decide)
    refine oblc rfl rfl (show _ = (.bool ((!((grpI p (e.ev) reg).isSome)) || e.void) : Value) from e6) (fun hb55 => ?_) (fun hb55 => (if_neg hb55).symm)
    have hl56 : ((!((grpI p (e.ev) reg).isSome)) || e.void) = false := hb55
    simp only [Bool.and_eq_true, Bool.or_eq_true, Bool.and_eq_false_iff, Bool.or_eq_false_iff, decide_eq_true_eq, decide_eq_false_iff_not, Bool.not_eq_true', Bool.not_eq_false', Int.not_lt, Int.not_le] at hl56
    exact fa23_0 (show _ = (.pointer (some ⟨a, 0, none⟩) : Value) from (Eq.trans e12 (if_pos hb55))) ⟨Chg.refl _ _, (if_pos hb55).symm⟩
  · intro vals w18 hR57 hA
    have hs58 := hR57.size
    have e6 : (vals 6) = (.bool ((!((grpI p (e.ev) reg).isSome)) || e.void) : Value) := hA 6 (by decide)
    have e13 : (vals 13) = (if ((!((grpI p (e.ev) reg).isSome)) || e.void) = false then (.pointer (some ⟨a, 0, none⟩) : Value) else undef) := hA 13 (by decide)
    refine oblc rfl rfl (show _ = (.bool ((!((grpI p (e.ev) reg).isSome)) || e.void) : Value) from e6) (fun hb59 => ?_) (fun hb59 => (if_neg hb59).symm)
    have hl60 : ((!((grpI p (e.ev) reg).isSome)) || e.void) = false := hb59
    simp only [Bool.and_eq_true, Bool.or_eq_true, Bool.and_eq_false_iff, Bool.or_eq_false_iff, decide_eq_true_eq, decide_eq_false_iff_not, Bool.not_eq_true', Bool.not_eq_false', Int.not_lt, Int.not_le] at hl60
    have h61 := (Chg.trans (Chg.trans hx7 hx8) hR57).keep h5 (fun h => h)
    exact ov_load1 (v := .int .i64 (p.ptyp)) Try.isAgg3 (show _ = (.pointer (some ⟨a, 0, none⟩) : Value) from (Eq.trans e13 (if_pos hb59))) (blk_cellL h61 rfl) ⟨Chg.refl _ _, (if_pos hb59).symm⟩
  · intro vals w19 hR62 hA
    have hs63 := hR62.size
    have e6 : (vals 6) = (.bool ((!((grpI p (e.ev) reg).isSome)) || e.void) : Value) := hA 6 (by decide)
    have e9 : (vals 9) = (if ((!((grpI p (e.ev) reg).isSome)) || e.void) = false then (.int .i64 (e.ev.typ) : Value) else undef) := hA 9 (by decide)
    have e14 : (vals 14) = (if ((!((grpI p (e.ev) reg).isSome)) || e.void) = false then (.int .i64 (p.ptyp) : Value) else undef) := hA 14 (by decide)
    refine oblc rfl rfl (show _ = (.bool ((!((grpI p (e.ev) reg).isSome)) || e.void) : Value) from e6) (fun hb64 => ?_) (fun hb64 => (if_neg hb64).symm)
    have hl65 : ((!((grpI p (e.ev) reg).isSome)) || e.void) = false := hb64
    simp only [Bool.and_eq_true, Bool.or_eq_true, Bool.and_eq_false_iff, Bool.or_eq_false_iff, decide_eq_true_eq, decide_eq_false_iff_not, Bool.not_eq_true', Bool.not_eq_false', Int.not_lt, Int.not_le] at hl65
    exact ov_neq (k := .i64) (a := e.ev.typ) (b := p.ptyp) (show _ = (.int .i64 (e.ev.typ) : Value) from (Eq.trans e9 (if_pos hb64))) (show _ = (.int .i64 (p.ptyp) : Value) from (Eq.trans e14 (if_pos hb64))) ⟨Chg.refl _ _, (if_pos hb64).symm⟩
  · intro vals w20 hR66 hA
    have hs67 := hR66.size
    have e6 : (vals 6) = (.bool ((!((grpI p (e.ev) reg).isSome)) || e.void) : Value) := hA 6 (by decide)
    have e15 : (vals 15) = (if ((!((grpI p (e.ev) reg).isSome)) || e.void) = false then (.bool (!decide (e.ev.typ = p.ptyp)) : Value) else undef) := hA 15 (by decide)
    refine obl rfl ?_
    exact ov_pick_or (b := (!((grpI p (e.ev) reg).isSome)) || e.void) (b' := !decide (e.ev.typ = p.ptyp)) (show _ = (.bool ((!((grpI p (e.ev) reg).isSome)) || e.void) : Value) from e6) (fun hbp => (show _ = (.bool (!decide (e.ev.typ = p.ptyp)) : Value) from (Eq.trans e15 (if_pos hbp)))) ⟨Chg.refl _ _, rfl⟩
  · intro vals w21 hR68 hA
    have hs69 := hR68.size
    have e16 : (vals 16) = (.bool (((!((grpI p (e.ev) reg).isSome)) || e.void) || (!decide (e.ev.typ = p.ptyp))) : Value) := hA 16 (by decide)
    refine obl rfl ?_
    exact ov_move (v := .bool (((!((grpI p (e.ev) reg).isSome)) || e.void) || (!decide (e.ev.typ = p.ptyp)))) (show _ = (.bool (((!((grpI p (e.ev) reg).isSome)) || e.void) || (!decide (e.ev.typ = p.ptyp))) : Value) from e16) ⟨Chg.refl _ _, rfl⟩
  · intro vals w22 hR70 hA
    have hs71 := hR70.size
    have e17 : (vals 17) = (.bool (((!((grpI p (e.ev) reg).isSome)) || e.void) || (!decide (e.ev.typ = p.ptyp))) : Value) := hA 17 (by decide)
    refine oblc rfl rfl (show _ = (.bool (((!((grpI p (e.ev) reg).isSome)) || e.void) || (!decide (e.ev.typ = p.ptyp))) : Value) from e17) (fun hb72 => ?_) (fun hb72 => (if_neg hb72).symm)
    have hl73 : (((!((grpI p (e.ev) reg).isSome)) || e.void) || (!decide (e.ev.typ = p.ptyp))) = false := hb72
    simp only [Bool.and_eq_true, Bool.or_eq_true, Bool.and_eq_false_iff, Bool.or_eq_false_iff, decide_eq_true_eq, decide_eq_false_iff_not, Bool.not_eq_true', Bool.not_eq_false', Int.not_lt, Int.not_le] at hl73
    exact fa38_0 rfl ⟨Chg.refl _ _, (if_pos hb72).symm⟩
  · intro vals w23 hR74 hA
    have hs75 := hR74.size
    have e17 : (vals 17) = (.bool (((!((grpI p (e.ev) reg).isSome)) || e.void) || (!decide (e.ev.typ = p.ptyp))) : Value) := hA 17 (by decide)
    have e18 : (vals 18) = (if (((!((grpI p (e.ev) reg).isSome)) || e.void) || (!decide (e.ev.typ = p.ptyp))) = false then (.pointer (some ⟨b2, 0, none⟩) : Value) else undef) := hA 18 (by decide)
    refine oblc rfl rfl (show _ = (.bool (((!((grpI p (e.ev) reg).isSome)) || e.void) || (!decide (e.ev.typ = p.ptyp))) : Value) from e17) (fun hb76 => ?_) (fun hb76 => (if_neg hb76).symm)
    have hl77 : (((!((grpI p (e.ev) reg).isSome)) || e.void) || (!decide (e.ev.typ = p.ptyp))) = false := hb76
    simp only [Bool.and_eq_true, Bool.or_eq_true, Bool.and_eq_false_iff, Bool.or_eq_false_iff, decide_eq_true_eq, decide_eq_false_iff_not, Bool.not_eq_true', Bool.not_eq_false', Int.not_lt, Int.not_le] at hl77
    exact fa36_5 (show _ = (.pointer (some ⟨b2, 0, none⟩) : Value) from (Eq.trans e18 (if_pos hb76))) ⟨Chg.refl _ _, (if_pos hb76).symm⟩
  · intro vals w24 hR78 hA
    have hs79 := hR78.size
    have e17 : (vals 17) = (.bool (((!((grpI p (e.ev) reg).isSome)) || e.void) || (!decide (e.ev.typ = p.ptyp))) : Value) := hA 17 (by decide)
    have e19 : (vals 19) = (if (((!((grpI p (e.ev) reg).isSome)) || e.void) || (!decide (e.ev.typ = p.ptyp))) = false then (.pointer (some ⟨b2, 6, none⟩) : Value) else undef) := hA 19 (by decide)
    refine oblc rfl rfl (show _ = (.bool (((!((grpI p (e.ev) reg).isSome)) || e.void) || (!decide (e.ev.typ = p.ptyp))) : Value) from e17) (fun hb80 => ?_) (fun hb80 => (if_neg hb80).symm)
    have hl81 : (((!((grpI p (e.ev) reg).isSome)) || e.void) || (!decide (e.ev.typ = p.ptyp))) = false := hb80
    simp only [Bool.and_eq_true, Bool.or_eq_true, Bool.and_eq_false_iff, Bool.or_eq_false_iff, decide_eq_true_eq, decide_eq_false_iff_not, Bool.not_eq_true', Bool.not_eq_false', Int.not_lt, Int.not_le] at hl81
    have h82 := (Chg.trans (Chg.trans hx7 hx8) hR78).keep hb3 (fun h => h)
    exact ov_load1 (v := .int .i64 (e.ev.field)) Try.isAgg3 (show _ = (.pointer (some ⟨b2, 6, none⟩) : Value) from (Eq.trans e19 (if_pos hb80))) (blk_cellL h82 rfl) ⟨Chg.refl _ _, (if_pos hb80).symm⟩
  · intro vals w25 hR83 hA
    have hs84 := hR83.size
    have e17 : (vals 17) = (.bool (((!((grpI p (e.ev) reg).isSome)) || e.void) || (!decide (e.ev.typ = p.ptyp))) : Value) := hA 17 (by decide)
    refine oblc rfl rfl (show _ = (.bool (((!((grpI p (e.ev) reg).isSome)) || e.void) || (!decide (e.ev.typ = p.ptyp))) : Value) from e17) (fun hb85 => ?_) (fun hb85 => (if_neg hb85).symm)
    have hl86 : (((!((grpI p (e.ev) reg).isSome)) || e.void) || (!decide (e.ev.typ = p.ptyp))) = false := hb85
    simp only [Bool.and_eq_true, Bool.or_eq_true, Bool.and_eq_false_iff, Bool.or_eq_false_iff, decide_eq_true_eq, decide_eq_false_iff_not, Bool.not_eq_true', Bool.not_eq_false', Int.not_lt, Int.not_le] at hl86
    exact ov_move (v := .pointer (some ⟨a, 0, none⟩)) rfl ⟨Chg.refl _ _, (if_pos hb85).symm⟩
  · intro vals w26 hR87 hA
    have hs88 := hR87.size
    have e17 : (vals 17) = (.bool (((!((grpI p (e.ev) reg).isSome)) || e.void) || (!decide (e.ev.typ = p.ptyp))) : Value) := hA 17 (by decide)
    have e21 : (vals 21) = (if (((!((grpI p (e.ev) reg).isSome)) || e.void) || (!decide (e.ev.typ = p.ptyp))) = false then (.pointer (some ⟨a, 0, none⟩) : Value) else undef) := hA 21 (by decide)
    refine oblc rfl rfl (show _ = (.bool (((!((grpI p (e.ev) reg).isSome)) || e.void) || (!decide (e.ev.typ = p.ptyp))) : Value) from e17) (fun hb89 => ?_) (fun hb89 => (if_neg hb89).symm)
    have hl90 : (((!((grpI p (e.ev) reg).isSome)) || e.void) || (!decide (e.ev.typ = p.ptyp))) = false := hb89
    simp only [Bool.and_eq_true, Bool.or_eq_true, Bool.and_eq_false_iff, Bool.or_eq_false_iff, decide_eq_true_eq, decide_eq_false_iff_not, Bool.not_eq_true', Bool.not_eq_false', Int.not_lt, Int.not_le] at hl90
    exact ov_nilCheck (b := a) (o := 0) (show _ = (.pointer (some ⟨a, 0, none⟩) : Value) from (Eq.trans e21 (if_pos hb89))) ⟨Chg.refl _ _, (if_pos hb89).symm⟩
  · intro vals w27 hR91 hA
    have hs92 := hR91.size
    have e17 : (vals 17) = (.bool (((!((grpI p (e.ev) reg).isSome)) || e.void) || (!decide (e.ev.typ = p.ptyp))) : Value) := hA 17 (by decide)
    have e22 : (vals 22) = (if (((!((grpI p (e.ev) reg).isSome)) || e.void) || (!decide (e.ev.typ = p.ptyp))) = false then (.pointer (some ⟨a, 0, none⟩) : Value) else undef) := hA 22 (by decide)
    refine oblc rfl rfl (show _ = (.bool (((!((grpI p (e.ev) reg).isSome)) || e.void) || (!decide (e.ev.typ = p.ptyp))) : Value) from e17) (fun hb93 => ?_) (fun hb93 => (if_neg hb93).symm)
    have hl94 : (((!((grpI p (e.ev) reg).isSome)) || e.void) || (!decide (e.ev.typ = p.ptyp))) = false := hb93
    simp only [Bool.and_eq_true, Bool.or_eq_true, Bool.and_eq_false_iff, Bool.or_eq_false_iff, decide_eq_true_eq, decide_eq_false_iff_not, Bool.not_eq_true', Bool.not_eq_false', Int.not_lt, Int.not_le] at hl94
    exact fa58_0 (show _ = (.pointer (some ⟨a, 0, none⟩) : Value) from (Eq.trans e22 (if_pos hb93))) ⟨Chg.refl _ _, (if_pos hb93).symm⟩
  · intro vals w28 hR95 hA
    have hs96 := hR95.size
    have e17 : (vals 17) = (.bool (((!((grpI p (e.ev) reg).isSome)) || e.void) || (!decide (e.ev.typ = p.ptyp))) : Value) := hA 17 (by decide)
    have e23 : (vals 23) = (if (((!((grpI p (e.ev) reg).isSome)) || e.void) || (!decide (e.ev.typ = p.ptyp))) = false then (.pointer (some ⟨a, 0, none⟩) : Value) else undef) := hA 23 (by decide)
    refine oblc rfl rfl (show _ = (.bool (((!((grpI p (e.ev) reg).isSome)) || e.void) || (!decide (e.ev.typ = p.ptyp))) : Value) from e17) (fun hb97 => ?_) (fun hb97 => (if_neg hb97).symm)
    have hl98 : (((!((grpI p (e.ev) reg).isSome)) || e.void) || (!decide (e.ev.typ = p.ptyp))) = false := hb97
    simp only [Bool.and_eq_true, Bool.or_eq_true, Bool.and_eq_false_iff, Bool.or_eq_false_iff, decide_eq_true_eq, decide_eq_false_iff_not, Bool.not_eq_true', Bool.not_eq_false', Int.not_lt, Int.not_le] at hl98
    exact fa23_1 (show _ = (.pointer (some ⟨a, 0, none⟩) : Value) from (Eq.trans e23 (if_pos hb97))) ⟨Chg.refl _ _, (if_pos hb97).symm⟩
  · intro vals w29 hR99 hA
    have hs100 := hR99.size
    have e17 : (vals 17) = (.bool (((!((grpI p (e.ev) reg).isSome)) || e.void) || (!decide (e.ev.typ = p.ptyp))) : Value) := hA 17 (by decide)
    have e24 : (vals 24) = (if (((!((grpI p (e.ev) reg).isSome)) || e.void) || (!decide (e.ev.typ = p.ptyp))) = false then (.pointer (some ⟨a, 1, none⟩) : Value) else undef) := hA 24 (by decide)
    refine oblc rfl rfl (show _ = (.bool (((!((grpI p (e.ev) reg).isSome)) || e.void) || (!decide (e.ev.typ = p.ptyp))) : Value) from e17) (fun hb101 => ?_) (fun hb101 => (if_neg hb101).symm)
    have hl102 : (((!((grpI p (e.ev) reg).isSome)) || e.void) || (!decide (e.ev.typ = p.ptyp))) = false := hb101
    simp only [Bool.and_eq_true, Bool.or_eq_true, Bool.and_eq_false_iff, Bool.or_eq_false_iff, decide_eq_true_eq, decide_eq_false_iff_not, Bool.not_eq_true', Bool.not_eq_false', Int.not_lt, Int.not_le] at hl102
    have h103 := (Chg.trans (Chg.trans hx7 hx8) hR99).keep h5 (fun h => h)
    exact ov_load1 (v := .int .i64 (p.pfield)) Try.isAgg3 (show _ = (.pointer (some ⟨a, 1, none⟩) : Value) from (Eq.trans e24 (if_pos hb101))) (blk_cellL h103 rfl) ⟨Chg.refl _ _, (if_pos hb101).symm⟩
  · intro vals w30 hR104 hA
    have hs105 := hR104.size
    have e17 : (vals 17) = (.bool (((!((grpI p (e.ev) reg).isSome)) || e.void) || (!decide (e.ev.typ = p.ptyp))) : Value) := hA 17 (by decide)
    have e20 : (vals 20) = (if (((!((grpI p (e.ev) reg).isSome)) || e.void) || (!decide (e.ev.typ = p.ptyp))) = false then (.int .i64 (e.ev.field) : Value) else undef) := hA 20 (by decide)
    have e25 : (vals 25) = (if (((!((grpI p (e.ev) reg).isSome)) || e.void) || (!decide (e.ev.typ = p.ptyp))) = false then (.int .i64 (p.pfield) : Value) else undef) := hA 25 (by decide)
    refine oblc rfl rfl (show _ = (.bool (((!((grpI p (e.ev) reg).isSome)) || e.void) || (!decide (e.ev.typ = p.ptyp))) : Value) from e17) (fun hb106 => ?_) (fun hb106 => (if_neg hb106).symm)
    have hl107 : (((!((grpI p (e.ev) reg).isSome)) || e.void) || (!decide (e.ev.typ = p.ptyp))) = false := hb106
    simp only [Bool.and_eq_true, Bool.or_eq_true, Bool.and_eq_false_iff, Bool.or_eq_false_iff, decide_eq_true_eq, decide_eq_false_iff_not, Bool.not_eq_true', Bool.not_eq_false', Int.not_lt, Int.not_le] at hl107
    exact ov_neq (k := .i64) (a := e.ev.field) (b := p.pfield) (show _ = (.int .i64 (e.ev.field) : Value) from (Eq.trans e20 (if_pos hb106))) (show _ = (.int .i64 (p.pfield) : Value) from (Eq.trans e25 (if_pos hb106))) ⟨Chg.refl _ _, (if_pos hb106).symm⟩
  · intro vals w31 hR108 hA
    have hs109 := hR108.size
    have e17 : (vals 17) = (.bool (((!((grpI p (e.ev) reg).isSome)) || e.void) || (!decide (e.ev.typ = p.ptyp))) : Value) := hA 17 (by decide)
    have e26 : (vals 26) = (if (((!((grpI p (e.ev) reg).isSome)) || e.void) || (!decide (e.ev.typ = p.ptyp))) = false then (.bool (!decide (e.ev.field = p.pfield)) : Value) else undef) := hA 26 (by decide)
    refine obl rfl ?_
    exact ov_pick_or (b := ((!((grpI p (e.ev) reg).isSome)) || e.void) || (!decide (e.ev.typ = p.ptyp))) (b' := !decide (e.ev.field = p.pfield)) (show _ = (.bool (((!((grpI p (e.ev) reg).isSome)) || e.void) || (!decide (e.ev.typ = p.ptyp))) : Value) from e17) (fun hbp => (show _ = (.bool (!decide (e.ev.field = p.pfield)) : Value) from (Eq.trans e26 (if_pos hbp)))) ⟨Chg.refl _ _, rfl⟩
  intro vals w32 hR110 hA
  have hs111 := hR110.size
  have hs112 := hx8.size
  have e27 : (vals 27) = (.bool ((((!((grpI p (e.ev) reg).isSome)) || e.void) || (!decide (e.ev.typ = p.ptyp))) || (!decide (e.ev.field = p.pfield))) : Value) := hA 27 (by decide)
  refine st_env (kv := [(0, .pointer (some ⟨a, 0, none⟩)), (1, .agg (e.cells de0).toArray), (2, .int .i64 (reg)), (4, .pointer (some ⟨b2, 0, none⟩)), (10, .pointer (some ⟨a, 0, none⟩)), (11, .pointer (some ⟨b2, 0, none⟩)), (12, .agg ((e.ev).cells de0).toArray), (13, .int .i64 (reg)), (14, .tuple #[.int .i64 ((grpI p (e.ev) reg).getD 0), .bool ((grpI p (e.ev) reg).isSome)]), (9, .tuple #[.int .i64 ((grpI p (e.ev) reg).getD 0), .bool ((grpI p (e.ev) reg).isSome)]), (15, .int .i64 ((grpI p (e.ev) reg).getD 0)), (16, .bool ((grpI p (e.ev) reg).isSome)), (6, .int .i64 ((grpI p (e.ev) reg).getD 0)), (7, .bool ((grpI p (e.ev) reg).isSome)), (44, .bool ((((!((grpI p (e.ev) reg).isSome)) || e.void) || (!decide (e.ev.typ = p.ptyp))) || (!decide (e.ev.field = p.pfield))))]) ⟨rfl, rfl, rfl, rfl, rfl, rfl, rfl, rfl, rfl, rfl, rfl, rfl, rfl, rfl, (by exact e27), trivial⟩ (fun ρ32 => ?_)
  clear e27
  clear hA qh1 qh2 qh3 qh4
  refine st_nil ?_
  cases hc113 : (((!((grpI p (e.ev) reg).isSome)) || e.void) || (!decide (e.ev.typ = p.ptyp))) || (!decide (e.ev.field = p.pfield))
  · skip
    simp only [Bool.and_eq_true, Bool.or_eq_true, Bool.and_eq_false_iff, Bool.or_eq_false_iff, decide_eq_true_eq, decide_eq_false_iff_not, Bool.not_eq_true', Bool.not_eq_false', Int.not_lt, Int.not_le] at hc113
    refine WP_cond_f rfl ?_
    refine WP_skip ?_
    refine WP_seq ?_
    refine WP_region0 (by kernel_rfl) (fun _ => ?_)
    refine st (ov_move (v := .pointer (some ⟨a, 0, none⟩)) rfl ?_)
    refine st (ov_nilCheck (b := a) (o := 0) rfl ?_)
    refine st (fa58_1 rfl ?_)
    have h114 := (Chg.trans (Chg.trans hx7 hx8) hR110).keep h5 (fun h => h)
    refine st (ov_load1 (v := .map (some m)) Try.isAgg56 rfl (blk_cellL h114 rfl) ?_)
    refine st (ov_move (v := .int .i64 ((grpI p (e.ev) reg).getD 0)) rfl ?_)
    have h115 := hm.ext (Chg.trans (Chg.trans (Chg.trans hn1.ext hx7) hx8) hR110)
    refine st (ov_lookup (α := Row) (d0 := (⟨0, 0, 0⟩ : Row)) (zc := Row.cells (⟨0, 0, 0⟩ : Row)) Try.underlying56 Try.underlying3 Try.zeroValue31 (fun _ _ => ⟨rfl, ⟨by decide, by decide, by decide⟩⟩) rfl rfl h115 ?_)
    rintro _ ⟨rfl, ok118⟩
    refine st (ov_alloc Try.zeroValue31 (fun w33 b120 hn119 => ?_))
    have hb121 : w33.heap[b120]? = some (.cells #[.int .i64 (0), .int .i64 (0), .int .i64 (0)] 31) := hn119.at_
    have hs122 := hn119.size; have hs122e := hn119.eq
    refine stn (ov_store (v := .agg (((lookM L ((grpI p (e.ev) reg).getD 0)).getD (⟨0, 0, 0⟩ : Row)).cells).toArray) (c' := (((lookM L ((grpI p (e.ev) reg).getD 0)).getD (⟨0, 0, 0⟩ : Row)).cells).toArray) Try.sizeOf31 rfl rfl hb121 (all1 ⟨rfl, rfl, rfl, trivial⟩) (Nat.le_of_ble_eq_true rfl) rfl (fun w34 hp123 => ?_))
    have hs124 := hp123.size
    refine st_nil ?_
    refine WP_seq ?_
    refine WP_region0 (by kernel_rfl) (fun _ => ?_)
    refine st (ov_move (v := .int .i64 ((grpI p (e.ev) reg).getD 0)) rfl ?_)
    refine st (fa31_0 rfl ?_)
    refine stn (ov_store1 (v := .int .i64 ((grpI p (e.ev) reg).getD 0)) (c := [.int .i64 (((lookM L ((grpI p (e.ev) reg).getD 0)).getD (⟨0, 0, 0⟩ : Row)).group), .int .i64 (((lookM L ((grpI p (e.ev) reg).getD 0)).getD (⟨0, 0, 0⟩ : Row)).value), .int .i64 (((lookM L ((grpI p (e.ev) reg).getD 0)).getD (⟨0, 0, 0⟩ : Row)).count)]) (c' := [.int .i64 ((grpI p (e.ev) reg).getD 0), .int .i64 (((lookM L ((grpI p (e.ev) reg).getD 0)).getD (⟨0, 0, 0⟩ : Row)).value), .int .i64 (((lookM L ((grpI p (e.ev) reg).getD 0)).getD (⟨0, 0, 0⟩ : Row)).count)]) Try.sizeOf3 rfl rfl hp123.at_ rfl rfl rfl (fun w35 hp125 => ?_))
    have hs126 := hp125.size
    have ok127 : Row.Ok (⟨(grpI p (e.ev) reg).getD 0, ((lookM L ((grpI p (e.ev) reg).getD 0)).getD (⟨0, 0, 0⟩ : Row)).value, ((lookM L ((grpI p (e.ev) reg).getD 0)).getD (⟨0, 0, 0⟩ : Row)).count⟩ : Row) := ⟨(grpI_in oe.ev hreg), ok118.value, ok118.count⟩
    refine st_nil ?_
    refine WP_seq ?_
    refine WP_region0 (by kernel_rfl) (fun _ => ?_)
    refine st (fa31_2 rfl ?_)
    refine st (ov_load1 (v := .int .i64 (((lookM L ((grpI p (e.ev) reg).getD 0)).getD (⟨0, 0, 0⟩ : Row)).count)) Try.isAgg3 rfl (blk_cellL hp125.at_ rfl) ?_)
    have hcg := hcnt ((grpI p (e.ev) reg).getD 0); have hci := ok118.count
    have hr128 : InR ((((lookM L ((grpI p (e.ev) reg).getD 0)).getD (⟨0, 0, 0⟩ : Row)).count) + 1) := by omega
    refine st (ov_add (r := (((lookM L ((grpI p (e.ev) reg).getD 0)).getD (⟨0, 0, 0⟩ : Row)).count) + 1) (k := .i64) (a := ((lookM L ((grpI p (e.ev) reg).getD 0)).getD (⟨0, 0, 0⟩ : Row)).count) (b := 1) rfl rfl (wrap_in hr128) ?_)
    refine st (fa31_2 rfl ?_)
    refine stn (ov_store1 (v := .int .i64 ((((lookM L ((grpI p (e.ev) reg).getD 0)).getD (⟨0, 0, 0⟩ : Row)).count) + 1)) (c := [.int .i64 ((grpI p (e.ev) reg).getD 0), .int .i64 (((lookM L ((grpI p (e.ev) reg).getD 0)).getD (⟨0, 0, 0⟩ : Row)).value), .int .i64 (((lookM L ((grpI p (e.ev) reg).getD 0)).getD (⟨0, 0, 0⟩ : Row)).count)]) (c' := [.int .i64 ((grpI p (e.ev) reg).getD 0), .int .i64 (((lookM L ((grpI p (e.ev) reg).getD 0)).getD (⟨0, 0, 0⟩ : Row)).value), .int .i64 ((((lookM L ((grpI p (e.ev) reg).getD 0)).getD (⟨0, 0, 0⟩ : Row)).count) + 1)]) Try.sizeOf3 rfl rfl hp125.at_ rfl rfl rfl (fun w36 hp129 => ?_))
    have hs130 := hp129.size
    have ok131 : Row.Ok (⟨(grpI p (e.ev) reg).getD 0, ((lookM L ((grpI p (e.ev) reg).getD 0)).getD (⟨0, 0, 0⟩ : Row)).value, (((lookM L ((grpI p (e.ev) reg).getD 0)).getD (⟨0, 0, 0⟩ : Row)).count) + 1⟩ : Row) := ⟨(grpI_in oe.ev hreg), ok118.value, hr128⟩
    refine st_nil ?_
    refine WP_seq ?_
    refine WP_region0 (by kernel_rfl) (fun _ => ?_)
    refine st (ov_move (v := .pointer (some ⟨a, 0, none⟩)) rfl ?_)
    refine st (ov_loadk (k := 3) Try.isAgg31 Try.sizeOf31 rfl rfl (CellsAt.all hp129.at_) ?_)
    refine st (fa38_0 rfl ?_)
    refine st (fa36_7 rfl ?_)
    have h132 := (Chg.new (Chg.new (Chg.new (Chg.trans (Chg.trans (Chg.trans hx7 hx8) hR110) hn119.ext) hp123.chg (fun i hi hO => by subst hO; omega)) hp125.chg (fun i hi hO => by subst hO; omega)) hp129.chg (fun i hi hO => by subst hO; omega)).keep hb3 (fun h => h)
    refine st (ov_load1 (v := .int .i64 (e.ev.arg)) Try.isAgg3 rfl (blk_cellL h132 rfl) ?_)
    have h133 := (Chg.new (Chg.new (Chg.new hn119.ext hp123.chg (fun i hi hO => by subst hO; omega)) hp125.chg (fun i hi hO => by subst hO; omega)) hp129.chg (fun i hi hO => by subst hO; omega)).keep h114 (fun h => h)
    refine st (ov_call (f := 28) (vals := [.pointer (some ⟨a, 0, none⟩), .agg ((⟨(grpI p (e.ev) reg).getD 0, ((lookM L ((grpI p (e.ev) reg).getD 0)).getD (⟨0, 0, 0⟩ : Row)).value, (((lookM L ((grpI p (e.ev) reg).getD 0)).getD (⟨0, 0, 0⟩ : Row)).count) + 1⟩ : Row).cells).toArray, .int .i64 (e.ev.arg)]) (cap := []) (show _ = (.func (.func 28) #[] #[] : Value) from rfl) rfl Try.call28 (C_made h133 op ok131 oe.ev.arg) ?_)
    rintro _ w37 ⟨rfl, hx134⟩
    have hx134s := hx134.size
    refine st (fa31_1 rfl ?_)
    have h135 := hx134.keep hp129.at_ (fun h => h)
    refine stn (ov_store1 (v := .int .i64 (madeI p (⟨(grpI p (e.ev) reg).getD 0, ((lookM L ((grpI p (e.ev) reg).getD 0)).getD (⟨0, 0, 0⟩ : Row)).value, (((lookM L ((grpI p (e.ev) reg).getD 0)).getD (⟨0, 0, 0⟩ : Row)).count) + 1⟩ : Row) e.ev.arg)) (c := [.int .i64 ((grpI p (e.ev) reg).getD 0), .int .i64 (((lookM L ((grpI p (e.ev) reg).getD 0)).getD (⟨0, 0, 0⟩ : Row)).value), .int .i64 ((((lookM L ((grpI p (e.ev) reg).getD 0)).getD (⟨0, 0, 0⟩ : Row)).count) + 1)]) (c' := [.int .i64 ((grpI p (e.ev) reg).getD 0), .int .i64 (madeI p (⟨(grpI p (e.ev) reg).getD 0, ((lookM L ((grpI p (e.ev) reg).getD 0)).getD (⟨0, 0, 0⟩ : Row)).value, (((lookM L ((grpI p (e.ev) reg).getD 0)).getD (⟨0, 0, 0⟩ : Row)).count) + 1⟩ : Row) e.ev.arg), .int .i64 ((((lookM L ((grpI p (e.ev) reg).getD 0)).getD (⟨0, 0, 0⟩ : Row)).count) + 1)]) Try.sizeOf3 rfl rfl h135 rfl rfl rfl (fun w38 hp136 => ?_))
    have hs137 := hp136.size
    have ok138 : Row.Ok (⟨(grpI p (e.ev) reg).getD 0, madeI p (⟨(grpI p (e.ev) reg).getD 0, ((lookM L ((grpI p (e.ev) reg).getD 0)).getD (⟨0, 0, 0⟩ : Row)).value, (((lookM L ((grpI p (e.ev) reg).getD 0)).getD (⟨0, 0, 0⟩ : Row)).count) + 1⟩ : Row) e.ev.arg, (((lookM L ((grpI p (e.ev) reg).getD 0)).getD (⟨0, 0, 0⟩ : Row)).count) + 1⟩ : Row) := ⟨(grpI_in oe.ev hreg), (madeI_in ok131.value ok131.count oe.ev.arg), hr128⟩
    refine st_nil ?_
    refine WP_draw Ext (AL [fun v w => v = (.pointer (some ⟨a, 0, none⟩) : Value), fun v w => v = (.pointer (some ⟨a, 0, none⟩) : Value), fun v w => v = (.pointer (some ⟨a, 5, none⟩) : Value), fun v w => v = (.map (some m) : Value), fun v w => v = (.int .i64 ((grpI p (e.ev) reg).getD 0) : Value), fun v w => v = (.agg ((⟨(grpI p (e.ev) reg).getD 0, madeI p (⟨(grpI p (e.ev) reg).getD 0, ((lookM L ((grpI p (e.ev) reg).getD 0)).getD (⟨0, 0, 0⟩ : Row)).value, (((lookM L ((grpI p (e.ev) reg).getD 0)).getD (⟨0, 0, 0⟩ : Row)).count) + 1⟩ : Row) e.ev.arg, (((lookM L ((grpI p (e.ev) reg).getD 0)).getD (⟨0, 0, 0⟩ : Row)).count) + 1⟩ : Row).cells).toArray : Value)]) [[], [0], [0, 1], [0, 1, 2], [], [], [0, 1, 2, 3, 4, 5]] 6 (by kernel_rfl) (by kernel_rfl) (by kernel_rfl) (fun w => Chg.refl _ w) (fun _ _ _ h1 h2 => h1.trans h2) (stabL ⟨fun _ _ _ _ h => h, fun _ _ _ _ h => h, fun _ _ _ _ h => h, fun _ _ _ _ h => h, fun _ _ _ _ h => h, fun _ _ _ _ h => h, trivial⟩) ?_
    intro w39 qh1 qh2 qh3 qh4
    have hx139 := ext_same qh1 qh2 qh3 qh4
    refine ⟨⟨?_, ?_, ?_, ?_, ?_, ?_, trivial⟩, ?_⟩
    · intro vals w40 hR140 hA
      have hs141 := hR140.size
      refine obl rfl ?_
      exact ov_move (v := .pointer (some ⟨a, 0, none⟩)) rfl ⟨Chg.refl _ _, rfl⟩
    · intro vals w41 hR142 hA
      have hs143 := hR142.size
      have e0 : (vals 0) = (.pointer (some ⟨a, 0, none⟩) : Value) := hA 0 (by decide)
      refine obl rfl ?_
      exact ov_nilCheck (b := a) (o := 0) (show _ = (.pointer (some ⟨a, 0, none⟩) : Value) from e0) ⟨Chg.refl _ _, rfl⟩
    · intro vals w42 hR144 hA
      have hs145 := hR144.size
      have e1 : (vals 1) = (.pointer (some ⟨a, 0, none⟩) : Value) := hA 1 (by decide)
      refine obl rfl ?_
      exact fa58_1 (show _ = (.pointer (some ⟨a, 0, none⟩) : Value) from e1) ⟨Chg.refl _ _, rfl⟩
    · intro vals w43 hR146 hA
      have hs147 := hR146.size
      have e2 : (vals 2) = (.pointer (some ⟨a, 5, none⟩) : Value) := hA 2 (by decide)
      refine obl rfl ?_
      have h148 := (hR146.keep (hx139.keep (hp136.chg.keep (hx134.keep h133 (fun h => h)) (fun e => by have e : a = b120 := e; omega)) (fun h => h)) (fun h => h))
      exact ov_load1 (v := .map (some m)) Try.isAgg56 (show _ = (.pointer (some ⟨a, 5, none⟩) : Value) from e2) (blk_cellL h148 rfl) ⟨Chg.refl _ _, rfl⟩
    · intro vals w44 hR149 hA
      have hs150 := hR149.size
      refine obl rfl ?_
      exact ov_move (v := .int .i64 ((grpI p (e.ev) reg).getD 0)) rfl ⟨Chg.refl _ _, rfl⟩
    · intro vals w45 hR151 hA
      have hs152 := hR151.size
      refine obl rfl ?_
      have h153 := (Chg.trans hx139 hR151).keep hp136.at_ (fun h => h)
      exact ov_loadk (k := 3) Try.isAgg31 Try.sizeOf31 rfl rfl (CellsAt.all h153) ⟨Chg.refl _ _, rfl⟩
    intro vals w46 hR154 hA
    have hs155 := hR154.size
    have hs156 := hx139.size
    have e3 : (vals 3) = (.map (some m) : Value) := hA 3 (by decide)
    have e4 : (vals 4) = (.int .i64 ((grpI p (e.ev) reg).getD 0) : Value) := hA 4 (by decide)
    have e5 : (vals 5) = (.agg ((⟨(grpI p (e.ev) reg).getD 0, madeI p (⟨(grpI p (e.ev) reg).getD 0, ((lookM L ((grpI p (e.ev) reg).getD 0)).getD (⟨0, 0, 0⟩ : Row)).value, (((lookM L ((grpI p (e.ev) reg).getD 0)).getD (⟨0, 0, 0⟩ : Row)).count) + 1⟩ : Row) e.ev.arg, (((lookM L ((grpI p (e.ev) reg).getD 0)).getD (⟨0, 0, 0⟩ : Row)).count) + 1⟩ : Row).cells).toArray : Value) := hA 5 (by decide)
    refine st_env (kv := [(0, .pointer (some ⟨a, 0, none⟩)), (1, .agg (e.cells de0).toArray), (2, .int .i64 (reg)), (4, .pointer (some ⟨b2, 0, none⟩)), (10, .pointer (some ⟨a, 0, none⟩)), (11, .pointer (some ⟨b2, 0, none⟩)), (12, .agg ((e.ev).cells de0).toArray), (13, .int .i64 (reg)), (14, .tuple #[.int .i64 ((grpI p (e.ev) reg).getD 0), .bool ((grpI p (e.ev) reg).isSome)]), (9, .tuple #[.int .i64 ((grpI p (e.ev) reg).getD 0), .bool ((grpI p (e.ev) reg).isSome)]), (15, .int .i64 ((grpI p (e.ev) reg).getD 0)), (16, .bool ((grpI p (e.ev) reg).isSome)), (6, .int .i64 ((grpI p (e.ev) reg).getD 0)), (7, .bool ((grpI p (e.ev) reg).isSome)), (44, .bool false), (45, .pointer (some ⟨a, 0, none⟩)), (46, .pointer (some ⟨a, 0, none⟩)), (47, .pointer (some ⟨a, 5, none⟩)), (48, .map (some m)), (49, .int .i64 ((grpI p (e.ev) reg).getD 0)), (50, .agg (((lookM L ((grpI p (e.ev) reg).getD 0)).getD (⟨0, 0, 0⟩ : Row)).cells).toArray), (8, .pointer (some ⟨b120, 0, none⟩)), (51, .int .i64 ((grpI p (e.ev) reg).getD 0)), (52, .pointer (some ⟨b120, 0, none⟩)), (53, .pointer (some ⟨b120, 2, none⟩)), (54, .int .i64 (((lookM L ((grpI p (e.ev) reg).getD 0)).getD (⟨0, 0, 0⟩ : Row)).count)), (55, .int .i64 ((((lookM L ((grpI p (e.ev) reg).getD 0)).getD (⟨0, 0, 0⟩ : Row)).count) + 1)), (56, .pointer (some ⟨b120, 2, none⟩)), (57, .pointer (some ⟨a, 0, none⟩)), (58, .agg ((⟨(grpI p (e.ev) reg).getD 0, ((lookM L ((grpI p (e.ev) reg).getD 0)).getD (⟨0, 0, 0⟩ : Row)).value, (((lookM L ((grpI p (e.ev) reg).getD 0)).getD (⟨0, 0, 0⟩ : Row)).count) + 1⟩ : Row).cells).toArray), (59, .pointer (some ⟨b2, 0, none⟩)), (60, .pointer (some ⟨b2, 8, none⟩)), (61, .int .i64 (e.ev.arg)), (62, .int .i64 (madeI p (⟨(grpI p (e.ev) reg).getD 0, ((lookM L ((grpI p (e.ev) reg).getD 0)).getD (⟨0, 0, 0⟩ : Row)).value, (((lookM L ((grpI p (e.ev) reg).getD 0)).getD (⟨0, 0, 0⟩ : Row)).count) + 1⟩ : Row) e.ev.arg)), (63, .pointer (some ⟨b120, 1, none⟩)), (67, .map (some m)), (68, .int .i64 ((grpI p (e.ev) reg).getD 0)), (69, .agg ((⟨(grpI p (e.ev) reg).getD 0, madeI p (⟨(grpI p (e.ev) reg).getD 0, ((lookM L ((grpI p (e.ev) reg).getD 0)).getD (⟨0, 0, 0⟩ : Row)).value, (((lookM L ((grpI p (e.ev) reg).getD 0)).getD (⟨0, 0, 0⟩ : Row)).count) + 1⟩ : Row) e.ev.arg, (((lookM L ((grpI p (e.ev) reg).getD 0)).getD (⟨0, 0, 0⟩ : Row)).count) + 1⟩ : Row).cells).toArray)]) ⟨rfl, rfl, rfl, rfl, rfl, rfl, rfl, rfl, rfl, rfl, rfl, rfl, rfl, rfl, rfl, rfl, rfl, rfl, rfl, rfl, rfl, rfl, rfl, rfl, rfl, rfl, rfl, rfl, rfl, rfl, rfl, rfl, rfl, rfl, rfl, (by exact e3), (by exact e4), (by exact e5), trivial⟩ (fun ρ46 => ?_)
    clear e3 e4 e5
    clear hA qh1 qh2 qh3 qh4
    have h157 := (MapR.ext (MapR.ext (MapR.chg (MapR.ext (MapR.chg (MapR.chg (MapR.chg (MapR.ext h115 hn119.ext) hp123.chg (fun e => by have e : m = b120 := e; omega) (fun _ h => h.elim)) hp125.chg (fun e => by have e : m = b120 := e; omega) (fun _ h => h.elim)) hp129.chg (fun e => by have e : m = b120 := e; omega) (fun _ h => h.elim)) hx134) hp136.chg (fun e => by have e : m = b120 := e; omega) (fun _ h => h.elim)) hx139) hR154)
    refine stn (ov_mapUpdate (α := Row) (x1 := (⟨(grpI p (e.ev) reg).getD 0, madeI p (⟨(grpI p (e.ev) reg).getD 0, ((lookM L ((grpI p (e.ev) reg).getD 0)).getD (⟨0, 0, 0⟩ : Row)).value, (((lookM L ((grpI p (e.ev) reg).getD 0)).getD (⟨0, 0, 0⟩ : Row)).count) + 1⟩ : Row) e.ev.arg, (((lookM L ((grpI p (e.ev) reg).getD 0)).getD (⟨0, 0, 0⟩ : Row)).count) + 1⟩ : Row)) (cs := ((⟨(grpI p (e.ev) reg).getD 0, madeI p (⟨(grpI p (e.ev) reg).getD 0, ((lookM L ((grpI p (e.ev) reg).getD 0)).getD (⟨0, 0, 0⟩ : Row)).value, (((lookM L ((grpI p (e.ev) reg).getD 0)).getD (⟨0, 0, 0⟩ : Row)).count) + 1⟩ : Row) e.ev.arg, (((lookM L ((grpI p (e.ev) reg).getD 0)).getD (⟨0, 0, 0⟩ : Row)).count) + 1⟩ : Row).cells)) Try.underlying56 Try.underlying3 rfl rfl rfl (grpI_in oe.ev hreg) h157 ⟨rfl, ok138⟩ (fun h => h) (fun w47 hm159 hch158 => ?_))
    have hch158s := hch158.size
    refine st_nil ?_
    refine fin0 Try.results19 ?_
    refine ⟨rfl, ?_, (Chg.trans (Chg.trans (Chg.trans (Chg.new (Chg.trans (Chg.new (Chg.new (Chg.new (Chg.trans (Chg.trans (Chg.trans (Chg.trans (Chg.ext _ hn1.ext) (Chg.ext _ hx7)) (Chg.ext _ hx8)) (Chg.ext _ hR110)) (Chg.ext _ hn119.ext)) hp123.chg (fun i hi hO => by exfalso; subst hO; omega)) hp125.chg (fun i hi hO => by exfalso; subst hO; omega)) hp129.chg (fun i hi hO => by exfalso; subst hO; omega)) (Chg.ext _ hx134)) hp136.chg (fun i hi hO => by exfalso; subst hO; omega)) (Chg.ext _ hx139)) (Chg.ext _ hR154)) hch158)⟩
    obtain ⟨g, hg⟩ := Option.isSome_iff_exists.1 hc113.1.1.1
    have hadd : addM p L e reg = updM L ((grpI p (e.ev) reg).getD 0) (⟨(grpI p (e.ev) reg).getD 0, madeI p (⟨(grpI p (e.ev) reg).getD 0, ((lookM L ((grpI p (e.ev) reg).getD 0)).getD (⟨0, 0, 0⟩ : Row)).value, (((lookM L ((grpI p (e.ev) reg).getD 0)).getD (⟨0, 0, 0⟩ : Row)).count) + 1⟩ : Row) e.ev.arg, (((lookM L ((grpI p (e.ev) reg).getD 0)).getD (⟨0, 0, 0⟩ : Row)).count) + 1⟩ : Row) := by
      unfold addM
      rw [hg]
      simp only []
      rw [if_neg (by rintro (h | h | h); rw [hc113.1.1.2] at h; cases h; omega; omega)]
      rfl
    rw [hadd]
    exact hm159
  · skip
    simp only [Bool.and_eq_true, Bool.or_eq_true, Bool.and_eq_false_iff, Bool.or_eq_false_iff, decide_eq_true_eq, decide_eq_false_iff_not, Bool.not_eq_true', Bool.not_eq_false', Int.not_lt, Int.not_le] at hc113
    refine WP_cond_t rfl ?_
    refine WP_ret ?_
    refine fin0r Try.results19 ?_
    have h160 := hm.ext (Chg.trans (Chg.trans (Chg.trans hn1.ext hx7) hx8) hR110)
    refine ⟨rfl, ?_, (Chg.trans (Chg.trans (Chg.trans (Chg.ext _ hn1.ext) (Chg.ext _ hx7)) (Chg.ext _ hx8)) (Chg.ext _ hR110))⟩
    have hadd : addM p L e reg = L := by
      unfold addM
      split
      · rfl
      · rename_i g hg
        rw [if_pos]
        rw [hg] at hc113
        rcases hc113 with ((h | h) | h) | h
        · cases h
        · exact .inl h
        · exact .inr (.inl h)
        · exact .inr (.inr h)
    rw [hadd]
    exact h160

end Go.Proofs.Ytbbpmhfcgoljdaa
