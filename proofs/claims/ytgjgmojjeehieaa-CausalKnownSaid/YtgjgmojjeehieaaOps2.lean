/- More operations: quotients, pointers held against nil. -/
import Derived.Test.YtgjgmojjeehieaaMaps
set_option linter.unusedSimpArgs false
set_option linter.unusedVariables false
namespace Go.Proofs.Ytgjgmojjeehieaa
open Go.RowKit
section
variable {P : Program} {d : Option Tmp} {ty : TypeId} {pos : String} {af : Array Edge} {g : Option (Nat × Bool)} {σ : Env} {w : World} {K : Value → World → Prop}
/-- A guard that was not reached: the operation is passed by. -/
theorem stu {ops : Array Oper} {Kp : Env → World → Prop} {rest : List Oper} {dd : Nat} {op : Op} {j q : Nat} {b : Bool} (hd : ((ops[j]?).bind (·.dst)) = some q) (ht : σ q = undef) (h : WPs P ops Kp rest (upd σ dd undef) w) : WPs P ops Kp (⟨some dd, op, ty, pos, af, some (j, b)⟩ :: rest) σ w := by
  have hw : Region.wanted ⟨some dd, op, ty, pos, af, some (j, b)⟩ (yl ops σ) = false := by simp [Region.wanted, yl, hd, ht, undef]
  simp only [WPs, hw]; exact h
theorem ov_quo {x y : Operand} {a b r : Int} {t t2 : TypeId} (hx : ev σ x = .int .i64 a) (hy : ev σ y = .int .i64 b) (h0 : 0 < b) (hr : IntKind.i64.wrap (a.tdiv b) = r) (h : K (.int .i64 r) w) : opV P ⟨d, .binOp .quo t x y t2, ty, pos, af, g⟩ σ w K := by
  subst hr
  refine ov_run (v := .int .i64 (IntKind.i64.wrap (a.tdiv b))) (w' := w) ?_ h
  have hne : b ≠ 0 := by omega
  simp [execOp, hx, hy, eqGuard_quo, binOp_quo, Op.intDiv, hne, go_sem]
theorem ov_neqPtr {x : Operand} {t t2 : TypeId} {b o : Nat} (hU : P.underlying t = some (.pointer (P.pointee t))) (hx : ev σ x = .pointer (some ⟨b, o, none⟩)) (h : K (.bool true) w) :
    opV P ⟨d, .binOp .neq t x (.const (.pointer none)) t2, ty, pos, af, g⟩ σ w K := by
  have hc : ev σ (.const (.pointer none)) = .pointer none := rfl
  refine ov_run (v := .bool true) (w' := w) ?_ h
  have hr := run_neq_pointer_nil (P := P) (w := w) t (some ⟨b, o, none⟩) hU
  simp [execOp, hx, hc, eqGuard, hr, go_sem]
section
variable {α : Type} [Rep α]
theorem ov_insert {t kt et : TypeId} {x y z : Operand} {m : Nat} {k : Int} {F : Nat → Prop} {L : List (Int × α)} {x1 : α} {cs : List Value} (hU : P.underlying t = some (.map kt et)) (hK : P.underlying kt = some (.int .i64))
    (hx : ev σ x = .map (some m)) (hy : ev σ y = .int .i64 k) (hz : ev σ z = .agg cs.toArray) (hk0 : InR k) (hm : MapR w F m L) (hr : Rep.rd w F cs x1) (hF : ¬ F m) (h : ∀ w1, MapR w1 F m (updM L k x1) → Chg (fun i => i = m) w w1 → K undef w1) :
    opV P ⟨d, .insert t x y z, ty, pos, af, g⟩ σ w K := by
  have h1 : opV P ⟨d, .mapUpdate t x y z, ty, pos, af, g⟩ σ w K := ov_mapUpdate hU hK hx hy hz hk0 hm hr hF h
  exact h1
theorem ov_lookupSome {t kt et : TypeId} {x y : Operand} {m : Nat} {k : Int} {F : Nat → Prop} {L : List (Int × α)} {a : α} (hU : P.underlying t = some (.map kt et)) (hK : P.underlying kt = some (.int .i64))
    (hx : ev σ x = .map (some m)) (hy : ev σ y = .int .i64 k) (hm : MapR w F m L) (hl : lookM L k = some a) (h : ∀ cs, Rep.rd w F cs a → K (.tuple #[.agg cs.toArray, .bool true]) w) :
    opV P ⟨d, .lookup t x y true, ty, pos, af, g⟩ σ w K := by
  have hm' := hm
  obtain ⟨es, clock, hb, hs, he⟩ := hm'
  have hk : MapKept.IsKey (.int .i64) (.int .i64 k) := rfl
  rcases MapKept.findNow_spec hk es.toList 0 he.key with ⟨h1, h2⟩ | ⟨j, e, h1, h2, h3⟩
  · exfalso
    have : lookM L k = none := by
      unfold lookM
      rw [Option.map_eq_none_iff, List.find?_eq_none]
      intro p hp
      obtain ⟨i, hi, rfl⟩ := List.getElem_of_mem hp
      have := (he.at_ i (by rw [he.len]; exact hi) hi).1
      have h4 := h2 _ (List.getElem_mem (by rw [he.len]; exact hi))
      rw [this] at h4
      simpa using h4
    rw [this] at hl; cases hl
  · obtain ⟨hj, he2⟩ := List.getElem?_eq_some_iff.1 h2
    have hjl : j < L.length := by rw [← he.len]; exact hj
    obtain ⟨h4, h5, cs, h6, h7⟩ := he.at_ j hj hjl
    rw [he2] at h4 h6
    have ek : L[j].1 = k := by rw [h3] at h4; cases h4; rfl
    have hl2 : lookM L k = some L[j].2 := by
      unfold lookM
      rw [← ek, look_at hm.nodup hjl]; rfl
    rw [hl] at hl2
    cases hl2
    refine ov_run (v := .tuple #[.agg cs.toArray, .bool true]) (w' := w) ?_ (h cs h7)
    simp [execOp, hx, hy, Instr.lookup, run_underlying hU, MapKept.run_getObj_map hb, MapKept.run_checkKey hK hk, MapKept.run_findKey hK h1, h6, go_sem]
theorem ov_lookupNone {t kt et : TypeId} {x y : Operand} {m : Nat} {k : Int} {F : Nat → Prop} {L : List (Int × α)} {zc : List Value} (hU : P.underlying t = some (.map kt et)) (hK : P.underlying kt = some (.int .i64)) (hZ : ∀ w, (zeroValue et).run P w = .ok (.agg zc.toArray) w)
    (hx : ev σ x = .map (some m)) (hy : ev σ y = .int .i64 k) (hm : MapR w F m L) (hl : lookM L k = none) (h : K (.tuple #[.agg zc.toArray, .bool false]) w) :
    opV P ⟨d, .lookup t x y true, ty, pos, af, g⟩ σ w K := by
  have hm' := hm
  obtain ⟨es, clock, hb, hs, he⟩ := hm'
  have hk : MapKept.IsKey (.int .i64) (.int .i64 k) := rfl
  rcases MapKept.findNow_spec hk es.toList 0 he.key with ⟨h1, h2⟩ | ⟨j, e, h1, h2, h3⟩
  · refine ov_run (v := .tuple #[.agg zc.toArray, .bool false]) (w' := w) ?_ h
    simp [execOp, hx, hy, Instr.lookup, run_underlying hU, MapKept.run_getObj_map hb, MapKept.run_checkKey hK hk, MapKept.run_findKey hK h1, hZ, go_sem]
  · exfalso
    obtain ⟨hj, he2⟩ := List.getElem?_eq_some_iff.1 h2
    have hjl : j < L.length := by rw [← he.len]; exact hj
    obtain ⟨h4, _⟩ := he.at_ j hj hjl
    rw [he2] at h4
    have ek : L[j].1 = k := by rw [h3] at h4; cases h4; rfl
    have hl2 : lookM L k = some L[j].2 := by
      unfold lookM
      rw [← ek, look_at hm.nodup hjl]; rfl
    rw [hl] at hl2; cases hl2
end
end
end Go.Proofs.Ytgjgmojjeehieaa
