/- Steps of the proofs of this seat: part Fns2. -/
import Derived.Test.YtbbhpddgjiifmaaFns
set_option linter.unusedSimpArgs false
set_option linter.unusedVariables false
namespace Go.Proofs.Ytbbhpddgjiifmaa
open Go.Proofs Go.RowKit

theorem fa29_1 {d : Option Tmp} {ty : TypeId} {pos : String} {af : Array Edge} {g : Option (Nat × Bool)} {σ : Env} {w : World} {K : Value → World → Prop} {x : Operand} {b o : Nat} (hx : ev σ x = .pointer (some ⟨b, o, none⟩)) (h : K (.pointer (some ⟨b, o + 2, none⟩)) w) : opV Try.prog ⟨d, .fieldAddr 29 x 1, ty, pos, af, g⟩ σ w K := ov_fieldAddr Try.underlying29 rfl rfl (fun w => ⟨0, Try.sizeOf3 w⟩) hx h
theorem fa29_0 {d : Option Tmp} {ty : TypeId} {pos : String} {af : Array Edge} {g : Option (Nat × Bool)} {σ : Env} {w : World} {K : Value → World → Prop} {x : Operand} {b o : Nat} (hx : ev σ x = .pointer (some ⟨b, o, none⟩)) (h : K (.pointer (some ⟨b, o + 0, none⟩)) w) : opV Try.prog ⟨d, .fieldAddr 29 x 0, ty, pos, af, g⟩ σ w K := ov_fieldAddr Try.underlying29 rfl rfl (fun w => ⟨1, Try.sizeOf26 w⟩) hx h
theorem fa26_0 {d : Option Tmp} {ty : TypeId} {pos : String} {af : Array Edge} {g : Option (Nat × Bool)} {σ : Env} {w : World} {K : Value → World → Prop} {x : Operand} {b o : Nat} (hx : ev σ x = .pointer (some ⟨b, o, none⟩)) (h : K (.pointer (some ⟨b, o + 0, none⟩)) w) : opV Try.prog ⟨d, .fieldAddr 26 x 0, ty, pos, af, g⟩ σ w K := ov_fieldAddr Try.underlying26 rfl rfl (fun w => ⟨0, Try.sizeOf3 w⟩) hx h
theorem fa26_1 {d : Option Tmp} {ty : TypeId} {pos : String} {af : Array Edge} {g : Option (Nat × Bool)} {σ : Env} {w : World} {K : Value → World → Prop} {x : Operand} {b o : Nat} (hx : ev σ x = .pointer (some ⟨b, o, none⟩)) (h : K (.pointer (some ⟨b, o + 1, none⟩)) w) : opV Try.prog ⟨d, .fieldAddr 26 x 1, ty, pos, af, g⟩ σ w K := ov_fieldAddr Try.underlying26 rfl rfl (fun w => ⟨0, Try.sizeOf3 w⟩) hx h
theorem C_of {w : World} {Fa : Nat → Prop} {a : Ev} {da : Value} (ha : RdS w Fa da a.deps) (oa : a.Ok) : Ret Try.prog 27 [.agg (a.cells da).toArray] w (fun r w' => r = .agg #[.int .i64 a.lam, .int .i64 a.origin, .int .i64 a.seq] ∧ Ext w w') := by
  have has : a.deps.length * 8 ≤ 140737488355328 := ha.small
  refine Calls_of_WP (args := [.agg (a.cells da).toArray]) Try.func27 rfl rfl ?_
  refine WP_seq ?_
  refine WP_region0 (by kernel_rfl) (fun _ => ?_)
  refine st (ov_box (v := .agg (a.cells da).toArray) rfl (fun w1 b2 hn1 => ?_))
  have hb3 : w1.heap[b2]? = some (.cells (a.cells da).toArray 29) := hn1.at_
  have hs4 := hn1.size; have hs4e := hn1.eq
  refine st (ov_alloc Try.zeroValue41 (fun w2 b6 hn5 => ?_))
  have hb7 : w2.heap[b6]? = some (.cells #[.int .i64 (0), .int .i64 (0), .int .i64 (0)] 41) := hn5.at_
  have hs8 := hn5.size; have hs8e := hn5.eq
  refine st_nil ?_
  refine WP_seq ?_
  refine WP_region0 (by kernel_rfl) (fun _ => ?_)
  refine st (fa29_1 rfl ?_)
  have h9 := hn5.ext.keep hb3 (fun h => h)
  refine st (ov_load1 (v := .int .i64 (a.lam)) Try.isAgg3 rfl (blk_cellL h9 rfl) ?_)
  refine st (fa29_0 rfl ?_)
  refine st (fa26_0 rfl ?_)
  refine st (ov_load1 (v := .int .i64 (a.origin)) Try.isAgg3 rfl (blk_cellL h9 rfl) ?_)
  refine st (fa29_0 rfl ?_)
  refine st (fa26_1 rfl ?_)
  refine st (ov_load1 (v := .int .i64 (a.seq)) Try.isAgg3 rfl (blk_cellL h9 rfl) ?_)
  refine st (ov_build (parts' := [(0, .int .i64 (a.lam)), (1, .int .i64 (a.origin)), (2, .int .i64 (a.seq))]) (v := .agg #[.int .i64 (a.lam), .int .i64 (a.origin), .int .i64 (a.seq)]) rfl (by simp [Instr.build, Instr.fill, go_sem]) ?_)
  refine stn (ov_store (v := .agg #[.int .i64 (a.lam), .int .i64 (a.origin), .int .i64 (a.seq)]) (c' := #[.int .i64 (a.lam), .int .i64 (a.origin), .int .i64 (a.seq)]) Try.sizeOf41 rfl rfl hb7 (all1 ⟨rfl, rfl, rfl, trivial⟩) (Nat.le_of_ble_eq_true rfl) rfl (fun w3 hp10 => ?_))
  have hs11 := hp10.size
  refine st_nil ?_
  refine WP_ret ?_
  refine finc (b := b6) Try.results27 Try.isAgg41 Try.sizeOf41 rfl rfl (CellsAt.all hp10.at_) ?_
  refine ⟨?_, (Chg.new (Chg.trans hn1.ext hn5.ext) hp10.chg (fun i hi hO => by subst hO; omega))⟩
  rfl

theorem C_compare {w : World} {p0 : Int} (hp0 : InR p0) {p1 : Int} (hp1 : InR p1) {p2 : Int} (hp2 : InR p2) {q0 : Int} (hq0 : InR q0) {q1 : Int} (hq1 : InR q1) {q2 : Int} (hq2 : InR q2) : Ret Try.prog 28 [.agg #[.int .i64 (p0), .int .i64 (p1), .int .i64 (p2)], .agg #[.int .i64 (q0), .int .i64 (q1), .int .i64 (q2)]] w (fun r w' => r = .int .i64 (orL [cmpI p0 q0, cmpI p1 q1, cmpI p2 q2]) ∧ Ext w w') := by
  refine Calls_of_WP (args := [.agg #[.int .i64 (p0), .int .i64 (p1), .int .i64 (p2)], .agg #[.int .i64 (q0), .int .i64 (q1), .int .i64 (q2)]]) Try.func28 rfl rfl ?_
  refine WP_seq ?_
  refine WP_region0 (by kernel_rfl) (fun _ => ?_)
  refine st (ov_box (v := .agg #[.int .i64 (p0), .int .i64 (p1), .int .i64 (p2)]) rfl (fun w1 b2 hn1 => ?_))
  have hb3 : w1.heap[b2]? = some (.cells #[.int .i64 (p0), .int .i64 (p1), .int .i64 (p2)] 41) := hn1.at_
  have hs4 := hn1.size; have hs4e := hn1.eq
  refine st (ov_box (v := .agg #[.int .i64 (q0), .int .i64 (q1), .int .i64 (q2)]) rfl (fun w2 b6 hn5 => ?_))
  have hb7 : w2.heap[b6]? = some (.cells #[.int .i64 (q0), .int .i64 (q1), .int .i64 (q2)] 41) := hn5.at_
  have hs8 := hn5.size; have hs8e := hn5.eq
  refine st (ov_assign (v := .int .i64 (0)) rfl ?_)
  refine st_nil ?_
  refine WP_seq ?_
  refine WP_draw Ext (AL [fun v w => v = (.pointer (some ⟨b2, 0, none⟩) : Value), fun v w => v = (.int .i64 (p0) : Value), fun v w => v = (.pointer (some ⟨b6, 0, none⟩) : Value), fun v w => v = (.int .i64 (q0) : Value), fun v w => v = (.int .i64 (cmpI p0 q0) : Value), fun v w => v = (.pointer (some ⟨b2, 1, none⟩) : Value), fun v w => v = (.int .i64 (p1) : Value), fun v w => v = (.pointer (some ⟨b6, 1, none⟩) : Value), fun v w => v = (.int .i64 (q1) : Value), fun v w => v = (.int .i64 (cmpI p1 q1) : Value), fun v w => v = (.pointer (some ⟨b2, 2, none⟩) : Value), fun v w => v = (.int .i64 (p2) : Value), fun v w => v = (.pointer (some ⟨b6, 2, none⟩) : Value), fun v w => v = (.int .i64 (q2) : Value)]) [[], [0], [], [2], [0, 1, 2, 3], [], [5], [], [7], [0, 1, 2, 3, 4, 5, 6, 7, 8], [], [10], [], [12], [0, 1, 2, 3, 4, 5, 6, 7, 8, 9, 10, 11, 12, 13], [0, 1, 2, 3, 4, 5, 6, 7, 8, 9, 10, 11, 12, 13, 14], [0, 1, 2, 3, 4, 5, 6, 7, 8, 9, 10, 11, 12, 13, 14, 15], [0, 1, 2, 3, 4, 5, 6, 7, 8, 9, 10, 11, 12, 13, 14, 15, 16]] 14 (by kernel_rfl) (by kernel_rfl) (by kernel_rfl) (fun w => Chg.refl _ w) (fun _ _ _ h1 h2 => h1.trans h2) (stabL ⟨fun _ _ _ _ h => h, fun _ _ _ _ h => h, fun _ _ _ _ h => h, fun _ _ _ _ h => h, fun _ _ _ _ h => h, fun _ _ _ _ h => h, fun _ _ _ _ h => h, fun _ _ _ _ h => h, fun _ _ _ _ h => h, fun _ _ _ _ h => h, fun _ _ _ _ h => h, fun _ _ _ _ h => h, fun _ _ _ _ h => h, fun _ _ _ _ h => h, trivial⟩) ?_
  intro w3 qh1 qh2 qh3 qh4
  have hx9 := ext_same qh1 qh2 qh3 qh4
  refine ⟨⟨?_, ?_, ?_, ?_, ?_, ?_, ?_, ?_, ?_, ?_, ?_, ?_, ?_, ?_, trivial⟩, ?_⟩
  · intro vals w4 hR10 hA
    have hs11 := hR10.size
    refine obl rfl ?_
    exact ov_indexAddrA (i := 0) (k := 1) (off := 0) Try.underlying41 Try.sizeOf3 rfl rfl (by decide) rfl ⟨Chg.refl _ _, rfl⟩
  · intro vals w5 hR12 hA
    have hs13 := hR12.size
    have e0 : (vals 0) = (.pointer (some ⟨b2, 0, none⟩) : Value) := hA 0 (by decide)
    refine obl rfl ?_
    have h14 := (Chg.trans (Chg.trans hn5.ext hx9) hR12).keep hb3 (fun h => h)
    exact ov_load1 (v := .int .i64 (p0)) Try.isAgg3 (show _ = (.pointer (some ⟨b2, 0, none⟩) : Value) from e0) (blk_cellL h14 rfl) ⟨Chg.refl _ _, rfl⟩
  · intro vals w6 hR15 hA
    have hs16 := hR15.size
    refine obl rfl ?_
    exact ov_indexAddrA (i := 0) (k := 1) (off := 0) Try.underlying41 Try.sizeOf3 rfl rfl (by decide) rfl ⟨Chg.refl _ _, rfl⟩
  · intro vals w7 hR17 hA
    have hs18 := hR17.size
    have e2 : (vals 2) = (.pointer (some ⟨b6, 0, none⟩) : Value) := hA 2 (by decide)
    refine obl rfl ?_
    have h19 := (Chg.trans hx9 hR17).keep hb7 (fun h => h)
    exact ov_load1 (v := .int .i64 (q0)) Try.isAgg3 (show _ = (.pointer (some ⟨b6, 0, none⟩) : Value) from e2) (blk_cellL h19 rfl) ⟨Chg.refl _ _, rfl⟩
  · intro vals w8 hR20 hA
    have hs21 := hR20.size
    have e1 : (vals 1) = (.int .i64 (p0) : Value) := hA 1 (by decide)
    have e3 : (vals 3) = (.int .i64 (q0) : Value) := hA 3 (by decide)
    refine obl rfl ?_
    exact ov_call (f := 36) (vals := [.int .i64 (p0), .int .i64 (q0)]) (cap := []) (show _ = (.func (.func 36) #[] #[] : Value) from rfl) (mapL ⟨(show _ = (.int .i64 (p0) : Value) from e1), (show _ = (.int .i64 (q0) : Value) from e3), trivial⟩) Try.call36 (C_cmp hp0 hq0) (fun _ _ h => ⟨h.2, h.1⟩)
  · intro vals w9 hR22 hA
    have hs23 := hR22.size
    refine obl rfl ?_
    exact ov_indexAddrA (i := 1) (k := 1) (off := 1) Try.underlying41 Try.sizeOf3 rfl rfl (by decide) rfl ⟨Chg.refl _ _, rfl⟩
  · intro vals w10 hR24 hA
    have hs25 := hR24.size
    have e5 : (vals 5) = (.pointer (some ⟨b2, 1, none⟩) : Value) := hA 5 (by decide)
    refine obl rfl ?_
    have h26 := (Chg.trans (Chg.trans hn5.ext hx9) hR24).keep hb3 (fun h => h)
    exact ov_load1 (v := .int .i64 (p1)) Try.isAgg3 (show _ = (.pointer (some ⟨b2, 1, none⟩) : Value) from e5) (blk_cellL h26 rfl) ⟨Chg.refl _ _, rfl⟩
  · intro vals w11 hR27 hA
    have hs28 := hR27.size
    refine obl rfl ?_
    exact ov_indexAddrA (i := 1) (k := 1) (off := 1) Try.underlying41 Try.sizeOf3 rfl rfl (by decide) rfl ⟨Chg.refl _ _, rfl⟩
  · intro vals w12 hR29 hA
    have hs30 := hR29.size
    have e7 : (vals 7) = (.pointer (some ⟨b6, 1, none⟩) : Value) := hA 7 (by decide)
    refine obl rfl ?_
    have h31 := (Chg.trans hx9 hR29).keep hb7 (fun h => h)
    exact ov_load1 (v := .int .i64 (q1)) Try.isAgg3 (show _ = (.pointer (some ⟨b6, 1, none⟩) : Value) from e7) (blk_cellL h31 rfl) ⟨Chg.refl _ _, rfl⟩
  · intro vals w13 hR32 hA
    have hs33 := hR32.size
    have e6 : (vals 6) = (.int .i64 (p1) : Value) := hA 6 (by decide)
    have e8 : (vals 8) = (.int .i64 (q1) : Value) := hA 8 (by decide)
    refine obl rfl ?_
    exact ov_call (f := 36) (vals := [.int .i64 (p1), .int .i64 (q1)]) (cap := []) (show _ = (.func (.func 36) #[] #[] : Value) from rfl) (mapL ⟨(show _ = (.int .i64 (p1) : Value) from e6), (show _ = (.int .i64 (q1) : Value) from e8), trivial⟩) Try.call36 (C_cmp hp1 hq1) (fun _ _ h => ⟨h.2, h.1⟩)
  · intro vals w14 hR34 hA
    have hs35 := hR34.size
    refine obl rfl ?_
    exact ov_indexAddrA (i := 2) (k := 1) (off := 2) Try.underlying41 Try.sizeOf3 rfl rfl (by decide) rfl ⟨Chg.refl _ _, rfl⟩
  · intro vals w15 hR36 hA
    have hs37 := hR36.size
    have e10 : (vals 10) = (.pointer (some ⟨b2, 2, none⟩) : Value) := hA 10 (by decide)
    refine obl rfl ?_
    have h38 := (Chg.trans (Chg.trans hn5.ext hx9) hR36).keep hb3 (fun h => h)
    exact ov_load1 (v := .int .i64 (p2)) Try.isAgg3 (show _ = (.pointer (some ⟨b2, 2, none⟩) : Value) from e10) (blk_cellL h38 rfl) ⟨Chg.refl _ _, rfl⟩
  · intro vals w16 hR39 hA
    have hs40 := hR39.size
    refine obl rfl ?_
    exact ov_indexAddrA (i := 2) (k := 1) (off := 2) Try.underlying41 Try.sizeOf3 rfl rfl (by decide) rfl ⟨Chg.refl _ _, rfl⟩
  · intro vals w17 hR41 hA
    have hs42 := hR41.size
    have e12 : (vals 12) = (.pointer (some ⟨b6, 2, none⟩) : Value) := hA 12 (by decide)
    refine obl rfl ?_
    have h43 := (Chg.trans hx9 hR41).keep hb7 (fun h => h)
    exact ov_load1 (v := .int .i64 (q2)) Try.isAgg3 (show _ = (.pointer (some ⟨b6, 2, none⟩) : Value) from e12) (blk_cellL h43 rfl) ⟨Chg.refl _ _, rfl⟩
  intro vals w18 hR44 hA
  have hs45 := hR44.size
  have hs46 := hx9.size
  have e4 : (vals 4) = (.int .i64 (cmpI p0 q0) : Value) := hA 4 (by decide)
  have e9 : (vals 9) = (.int .i64 (cmpI p1 q1) : Value) := hA 9 (by decide)
  have e11 : (vals 11) = (.int .i64 (p2) : Value) := hA 11 (by decide)
  have e13 : (vals 13) = (.int .i64 (q2) : Value) := hA 13 (by decide)
  refine st_env (kv := [(0, .agg #[.int .i64 (p0), .int .i64 (p1), .int .i64 (p2)]), (1, .agg #[.int .i64 (q0), .int .i64 (q1), .int .i64 (q2)]), (2, .pointer (some ⟨b2, 0, none⟩)), (3, .pointer (some ⟨b6, 0, none⟩)), (4, .int .i64 (0)), (9, .int .i64 (cmpI p0 q0)), (14, .int .i64 (cmpI p1 q1)), (16, .int .i64 (p2)), (18, .int .i64 (q2))]) ⟨rfl, rfl, rfl, rfl, rfl, e4, e9, e11, e13, trivial⟩ (fun ρ18 => ?_)
  clear e4 e9 e11 e13
  clear hA qh1 qh2 qh3 qh4
  refine st (ov_call (f := 36) (vals := [.int .i64 (p2), .int .i64 (q2)]) (cap := []) (show _ = (.func (.func 36) #[] #[] : Value) from rfl) rfl Try.call36 (C_cmp hp2 hq2) ?_)
  rintro _ w19 ⟨rfl, hx47⟩
  have hx47s := hx47.size
  refine st (ov_buildSlice (k := 1) (parts' := [(0, .int .i64 (cmpI p0 q0)), (1, .int .i64 (cmpI p1 q1)), (2, .int .i64 (cmpI p2 q2))]) (c := #[.int .i64 (cmpI p0 q0), .int .i64 (cmpI p1 q1), .int .i64 (cmpI p2 q2)]) Try.underlying27 Try.sizeOf3 Try.zeroValue3 (by decide) rfl (by kernel_rfl) (fun w20 b49 hn48 => ?_))
  have hb50 : w20.heap[b49]? = some (.cells #[.int .i64 (cmpI p0 q0), .int .i64 (cmpI p1 q1), .int .i64 (cmpI p2 q2)] 3) := hn48.at_
  have hs51 := hn48.size; have hs51e := hn48.eq
  have hrd52 : RdS (α := Int) w20 (fun _ => True) ((.slice (some ⟨b49, 0, none⟩) 3 3)) [cmpI p0 q0, cmpI p1 q1, cmpI p2 q2] := RdS.ints (l := [cmpI p0 q0, cmpI p1 q1, cmpI p2 q2]) hb50 ⟨(cmpI_in p0 q0), (cmpI_in p1 q1), (cmpI_in p2 q2), trivial⟩
  refine st (ov_call (f := 35) (vals := [(.slice (some ⟨b49, 0, none⟩) 3 3)]) (cap := []) (show _ = (.func (.func 35) #[] #[] : Value) from rfl) rfl Try.call35 (C_or hrd52) ?_)
  rintro _ w21 ⟨rfl, hx53⟩
  have hx53s := hx53.size
  refine st (ov_assign (v := .int .i64 (orL ([cmpI p0 q0, cmpI p1 q1, cmpI p2 q2]))) rfl ?_)
  refine st_nil ?_
  refine WP_ret ?_
  refine fin1 Try.results28 (show _ = (.int .i64 (orL ([cmpI p0 q0, cmpI p1 q1, cmpI p2 q2])) : Value) from rfl) ?_
  refine ⟨?_, (Chg.trans (Chg.trans (Chg.trans (Chg.trans (Chg.trans (Chg.trans hn1.ext hn5.ext) hx9) hR44) hx47) hn48.ext) hx53)⟩
  rfl

theorem fa29_2 {d : Option Tmp} {ty : TypeId} {pos : String} {af : Array Edge} {g : Option (Nat × Bool)} {σ : Env} {w : World} {K : Value → World → Prop} {x : Operand} {b o : Nat} (hx : ev σ x = .pointer (some ⟨b, o, none⟩)) (h : K (.pointer (some ⟨b, o + 3, none⟩)) w) : opV Try.prog ⟨d, .fieldAddr 29 x 2, ty, pos, af, g⟩ σ w K := ov_fieldAddr Try.underlying29 rfl rfl (fun w => ⟨0, Try.sizeOf27 w⟩) hx h
theorem C_Before {w : World} {Fa : Nat → Prop} {a : Ev} {da : Value} (ha : RdS w Fa da a.deps) (oa : a.Ok) {Fb : Nat → Prop} {b : Ev} {db : Value} (hb : RdS w Fb db b.deps) (ob : b.Ok) : Ret Try.prog 11 [.agg (a.cells da).toArray, .agg (b.cells db).toArray] w (fun r w' => r = .bool (before a b) ∧ Ext w w') := by
  have has : a.deps.length * 8 ≤ 140737488355328 := ha.small
  have hbs : b.deps.length * 8 ≤ 140737488355328 := hb.small
  refine Calls_of_WP (args := [.agg (a.cells da).toArray, .agg (b.cells db).toArray]) Try.func11 rfl rfl ?_
  refine WP_seq ?_
  refine WP_region0 (by kernel_rfl) (fun _ => ?_)
  refine st (ov_box (v := .agg (a.cells da).toArray) rfl (fun w1 b2 hn1 => ?_))
  have hb3 : w1.heap[b2]? = some (.cells (a.cells da).toArray 29) := hn1.at_
  have hs4 := hn1.size; have hs4e := hn1.eq
  refine st (ov_box (v := .agg (b.cells db).toArray) rfl (fun w2 b6 hn5 => ?_))
  have hb7 : w2.heap[b6]? = some (.cells (b.cells db).toArray 29) := hn5.at_
  have hs8 := hn5.size; have hs8e := hn5.eq
  refine st (ov_assign (v := .bool false) rfl ?_)
  refine st_nil ?_
  refine WP_seq ?_
  refine WP_draw Ext (AL [fun v w => v = (.pointer (some ⟨b6, 3, none⟩) : Value), fun v w => v = (db : Value), fun v w => v = (.pointer (some ⟨b2, 0, none⟩) : Value), fun v w => v = (.pointer (some ⟨b2, 0, none⟩) : Value), fun v w => v = (.int .i64 (a.origin) : Value), fun v w => v = (.int .i64 (get b.deps a.origin) : Value), fun v w => v = (.pointer (some ⟨b2, 0, none⟩) : Value), fun v w => v = (.pointer (some ⟨b2, 1, none⟩) : Value), fun v w => v = (.int .i64 (a.seq) : Value)]) [[], [0], [], [2], [2, 3], [0, 1, 2, 3, 4], [], [6], [6, 7], [0, 1, 2, 3, 4, 5, 6, 7, 8], [0, 1, 2, 3, 4, 5, 6, 7, 8, 9]] 9 (by kernel_rfl) (by kernel_rfl) (by kernel_rfl) (fun w => Chg.refl _ w) (fun _ _ _ h1 h2 => h1.trans h2) (stabL ⟨fun _ _ _ _ h => h, fun _ _ _ _ h => h, fun _ _ _ _ h => h, fun _ _ _ _ h => h, fun _ _ _ _ h => h, fun _ _ _ _ h => h, fun _ _ _ _ h => h, fun _ _ _ _ h => h, fun _ _ _ _ h => h, trivial⟩) ?_
  intro w3 qh1 qh2 qh3 qh4
  have hx9 := ext_same qh1 qh2 qh3 qh4
  refine ⟨⟨?_, ?_, ?_, ?_, ?_, ?_, ?_, ?_, ?_, trivial⟩, ?_⟩
  · intro vals w4 hR10 hA
    have hs11 := hR10.size
    refine obl rfl ?_
    exact fa29_2 rfl ⟨Chg.refl _ _, rfl⟩
  · intro vals w5 hR12 hA
    have hs13 := hR12.size
    have e0 : (vals 0) = (.pointer (some ⟨b6, 3, none⟩) : Value) := hA 0 (by decide)
    refine obl rfl ?_
    have h14 := (Chg.trans hx9 hR12).keep hb7 (fun h => h)
    exact ov_load1 (v := db) Try.isAgg27 (show _ = (.pointer (some ⟨b6, 3, none⟩) : Value) from e0) (blk_cellL h14 rfl) ⟨Chg.refl _ _, rfl⟩
  · intro vals w6 hR15 hA
    have hs16 := hR15.size
    refine obl rfl ?_
    exact fa29_0 rfl ⟨Chg.refl _ _, rfl⟩
  · intro vals w7 hR17 hA
    have hs18 := hR17.size
    have e2 : (vals 2) = (.pointer (some ⟨b2, 0, none⟩) : Value) := hA 2 (by decide)
    refine obl rfl ?_
    exact fa26_0 (show _ = (.pointer (some ⟨b2, 0, none⟩) : Value) from e2) ⟨Chg.refl _ _, rfl⟩
  · intro vals w8 hR19 hA
    have hs20 := hR19.size
    have e3 : (vals 3) = (.pointer (some ⟨b2, 0, none⟩) : Value) := hA 3 (by decide)
    refine obl rfl ?_
    have h21 := (Chg.trans (Chg.trans hn5.ext hx9) hR19).keep hb3 (fun h => h)
    exact ov_load1 (v := .int .i64 (a.origin)) Try.isAgg3 (show _ = (.pointer (some ⟨b2, 0, none⟩) : Value) from e3) (blk_cellL h21 rfl) ⟨Chg.refl _ _, rfl⟩
  · intro vals w9 hR22 hA
    have hs23 := hR22.size
    have e1 : (vals 1) = (db : Value) := hA 1 (by decide)
    have e4 : (vals 4) = (.int .i64 (a.origin) : Value) := hA 4 (by decide)
    refine obl rfl ?_
    have h24 := hb.ext (Chg.trans (Chg.trans (Chg.trans hn1.ext hn5.ext) hx9) hR22)
    exact ov_call (f := 25) (vals := [db, .int .i64 (a.origin)]) (cap := []) (show _ = (.func (.func 25) #[] #[] : Value) from rfl) (mapL ⟨(show _ = (db : Value) from e1), (show _ = (.int .i64 (a.origin) : Value) from e4), trivial⟩) Try.call25 (C_get h24 oa.origin) (fun _ _ h => ⟨h.2, h.1⟩)
  · intro vals w10 hR25 hA
    have hs26 := hR25.size
    refine obl rfl ?_
    exact fa29_0 rfl ⟨Chg.refl _ _, rfl⟩
  · intro vals w11 hR27 hA
    have hs28 := hR27.size
    have e6 : (vals 6) = (.pointer (some ⟨b2, 0, none⟩) : Value) := hA 6 (by decide)
    refine obl rfl ?_
    exact fa26_1 (show _ = (.pointer (some ⟨b2, 0, none⟩) : Value) from e6) ⟨Chg.refl _ _, rfl⟩
  · intro vals w12 hR29 hA
    have hs30 := hR29.size
    have e7 : (vals 7) = (.pointer (some ⟨b2, 1, none⟩) : Value) := hA 7 (by decide)
    refine obl rfl ?_
    have h31 := (Chg.trans (Chg.trans hn5.ext hx9) hR29).keep hb3 (fun h => h)
    exact ov_load1 (v := .int .i64 (a.seq)) Try.isAgg3 (show _ = (.pointer (some ⟨b2, 1, none⟩) : Value) from e7) (blk_cellL h31 rfl) ⟨Chg.refl _ _, rfl⟩
  intro vals w13 hR32 hA
  have hs33 := hR32.size
  have hs34 := hx9.size
  have e5 : (vals 5) = (.int .i64 (get b.deps a.origin) : Value) := hA 5 (by decide)
  have e8 : (vals 8) = (.int .i64 (a.seq) : Value) := hA 8 (by decide)
  refine st_env (kv := [(0, .agg (a.cells da).toArray), (1, .agg (b.cells db).toArray), (2, .pointer (some ⟨b2, 0, none⟩)), (3, .pointer (some ⟨b6, 0, none⟩)), (4, .bool false), (10, .int .i64 (get b.deps a.origin)), (13, .int .i64 (a.seq))]) ⟨rfl, rfl, rfl, rfl, rfl, e5, e8, trivial⟩ (fun ρ13 => ?_)
  clear e5 e8
  clear hA qh1 qh2 qh3 qh4
  refine st (ov_geq (k := .i64) (a := get b.deps a.origin) (b := a.seq) rfl rfl ?_)
  refine st (ov_assign (v := .bool (decide (a.seq ≤ (get b.deps a.origin)))) rfl ?_)
  refine st_nil ?_
  refine WP_ret ?_
  refine fin1 Try.results11 (show _ = (.bool (decide (a.seq ≤ (get b.deps a.origin))) : Value) from rfl) ?_
  refine ⟨?_, (Chg.trans (Chg.trans (Chg.trans hn1.ext hn5.ext) hx9) hR32)⟩
  rfl

end Go.Proofs.Ytbbhpddgjiifmaa
