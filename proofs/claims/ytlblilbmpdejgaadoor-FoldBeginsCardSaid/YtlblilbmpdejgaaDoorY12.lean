import Derived.Test.YtlblilbmpdejgaaDoorY11
set_option linter.unusedSimpArgs false
set_option linter.unusedVariables false
set_option linter.unusedSectionVars false
set_option linter.deprecated false
/- Steps of the proofs of this seat: part F11. -/
set_option maxRecDepth 8000
set_option maxHeartbeats 4000000
namespace Go.Proofs.YtlblilbmpdejgaaDoor
open Go.Proofs Go.RowKit

theorem UY {a b : Ent} (h1 : a.ev = b.ev) (h2 : (a.void == b.void) = true) (h3 : a.byO = b.byO ∧ a.byS = b.byS) : a = b := by
  rw [Ent.eq_iff]; exact ⟨h1, by simpa using h2, h3.1, h3.2⟩
theorem Un {a b : Ent} (h : (a.ev = b.ev ∧ (a.void == b.void) = true) ∧ a.byO = b.byO ∧ a.byS = b.byS) : a = b := UY h.1.1 h.1.2 h.2
theorem Zk {G : Nat → Prop} {W w : World} {Rs : List HP} {va : Value} {a : List Ent} (ha : RdS W G va a) {vb : Value} {b : List Ent} (hb : RdS W G vb b) (hS0 : Sep G W Rs w) : Ret Tryd.prog 31 [va, vb] w (fun r w' => r = (.bool (decide (a = b)) : Value) ∧ Sep G W Rs w') := by
 have has : _ * 120 ≤ _ := ha.small
 have hbs : _ * 120 ≤ _ := hb.small
 refine zq (args := [va, vb]) Tryd.func31 rfl rfl ?_
 refine ze ?_
 refine za (by kernel_rfl) (fun _ => ?_)
 refine st (zd (v := .bool false) rfl ?_)
 refine zg ?_
 refine ze ?_
 refine ze ?_
 refine za (by kernel_rfl) (fun _ => ?_)
 refine st (zb (v := va) rfl ?_)
 refine st (zK (n := a.length) Tryd.underlying66 rfl ha.sl ?_)
 refine st (zb (v := vb) rfl ?_)
 refine st (zK (n := b.length) Tryd.underlying66 rfl hb.sl ?_)
 refine st (yw (k := .i64) (a := ((a.length : Nat) : Int)) (b := ((b.length : Nat) : Int)) rfl rfl ?_)
 refine zg ?_
 cases hc1 : !decide (((a.length : Nat) : Int) = ((b.length : Nat) : Int))
 ·skip
  have hc1 := zx hc1
  refine zo rfl ?_
  refine zw ?_
  refine ze ?_
  refine ze ?_
  refine za (by kernel_rfl) (fun _ => ?_)
  refine st (zd (v := .int .i64 (0)) rfl ?_)
  refine zg ?_
  refine zA ?_
  refine yu (fun mq σ wq => ∃ (k : Nat) (ρ : Env), mq = a.length - k ∧ σ = yv ρ [(0, va), (1, vb), (5, .int .i64 ((k : Nat) : Int))] ∧ (k ≤ a.length) ∧ (∀ i, i < k → a.getD i default = b.getD i default) ∧ Sep G W Rs wq) ⟨0, _, rfl, zr ⟨rfl, rfl, rfl, trivial⟩, Nat.zero_le _, (fun i h => absurd h (Nat.not_lt_zero i)), hS0⟩ ?_
  rintro m3 σ4 w2 ⟨k, ρl1, rfl, rfl, hkk, hm, hS5⟩
  refine ze ?_
  refine ze ?_
  refine za (by kernel_rfl) (fun _ => ?_)
  refine st (zb (v := .int .i64 ((k : Nat) : Int)) rfl ?_)
  refine st (zb (v := va) rfl ?_)
  refine st (zK (n := a.length) Tryd.underlying66 rfl ha.sl ?_)
  refine st (zU (k := .i64) (a := ((k : Nat) : Int)) (b := ((a.length : Nat) : Int)) rfl rfl ?_)
  refine zg ?_
  cases hc6 : decide (((k : Nat) : Int) < ((a.length : Nat) : Int))
  ·skip
   have hc6 := of_decide_eq_false hc6
   refine zo rfl ?_
   refine yt ?_
   refine yn ?_
   refine ze ?_
   refine za (by kernel_rfl) (fun _ => ?_)
   refine st (zd (v := .bool true) rfl ?_)
   refine zg ?_
   refine zu ?_
   refine zX Tryd.results31 (show _ = (.bool true : Value) from rfl) ?_
   refine ⟨?_, hS5⟩
   rw [decide_eq_true (Yh (by omega) (fun i hi => hm i (by omega)))]
  ·skip
   have hc6 := of_decide_eq_true hc6
   refine zp rfl ?_
   refine zw ?_
   refine ze ?_
   refine zA ?_
   refine ze ?_
   refine zP (WF [fun vals wq => Sep G W Rs wq, fun vals wq => (vals 10 = (.bool (decide (((a.getD k default).ev) = ((b.getD k default).ev))) : Value)) ∧ Sep G W Rs wq]) (AF [Vl 0 (va), Vl 1 (.int .i64 ((k : Nat) : Int)), Vl 2 (.pointer (some ⟨sb va, so va + k * 13, none⟩)), Vl 3 (.pointer (some ⟨sb va, so va + k * 13, none⟩)), Vl 4 (.agg (((a.getD k default).ev).cells (zi W (sb va) (so va + k * 13 + 3))).toArray), Vl 5 (vb), Vl 6 (.int .i64 ((k : Nat) : Int)), Vl 7 (.pointer (some ⟨sb vb, so vb + k * 13, none⟩)), Vl 8 (.pointer (some ⟨sb vb, so vb + k * 13, none⟩)), Vl 9 (.agg (((b.getD k default).ev).cells (zi W (sb vb) (so vb + k * 13 + 3))).toArray), fun _ => True, Vl 11 (.bool (!(decide (((a.getD k default).ev) = ((b.getD k default).ev))))), Vl 12 (.bool (!(decide (((a.getD k default).ev) = ((b.getD k default).ev))))), Vl 13 (if (!(decide (((a.getD k default).ev) = ((b.getD k default).ev)))) = false then va else undef), Vl 14 (if (!(decide (((a.getD k default).ev) = ((b.getD k default).ev)))) = false then .int .i64 ((k : Nat) : Int) else undef), Vl 15 (if (!(decide (((a.getD k default).ev) = ((b.getD k default).ev)))) = false then .pointer (some ⟨sb va, so va + k * 13, none⟩) else undef), Vl 16 (if (!(decide (((a.getD k default).ev) = ((b.getD k default).ev)))) = false then .pointer (some ⟨sb va, so va + k * 13 + 10, none⟩) else undef), Vl 17 (if (!(decide (((a.getD k default).ev) = ((b.getD k default).ev)))) = false then .bool ((a.getD k default).void) else undef), Vl 18 (if (!(decide (((a.getD k default).ev) = ((b.getD k default).ev)))) = false then vb else undef), Vl 19 (if (!(decide (((a.getD k default).ev) = ((b.getD k default).ev)))) = false then .int .i64 ((k : Nat) : Int) else undef), Vl 20 (if (!(decide (((a.getD k default).ev) = ((b.getD k default).ev)))) = false then .pointer (some ⟨sb vb, so vb + k * 13, none⟩) else undef), Vl 21 (if (!(decide (((a.getD k default).ev) = ((b.getD k default).ev)))) = false then .pointer (some ⟨sb vb, so vb + k * 13 + 10, none⟩) else undef), Vl 22 (if (!(decide (((a.getD k default).ev) = ((b.getD k default).ev)))) = false then .bool ((b.getD k default).void) else undef), Vl 23 (if (!(decide (((a.getD k default).ev) = ((b.getD k default).ev)))) = false then .bool (!(((a.getD k default).void) == ((b.getD k default).void))) else undef), Vl 24 (.bool ((!(decide (((a.getD k default).ev) = ((b.getD k default).ev)))) || (!(((a.getD k default).void) == ((b.getD k default).void))))), Vl 25 (.bool ((!(decide (((a.getD k default).ev) = ((b.getD k default).ev)))) || (!(((a.getD k default).void) == ((b.getD k default).void))))), Vl 26 (if ((!(decide (((a.getD k default).ev) = ((b.getD k default).ev)))) || (!(((a.getD k default).void) == ((b.getD k default).void)))) = false then va else undef), Vl 27 (if ((!(decide (((a.getD k default).ev) = ((b.getD k default).ev)))) || (!(((a.getD k default).void) == ((b.getD k default).void)))) = false then .int .i64 ((k : Nat) : Int) else undef), Vl 28 (if ((!(decide (((a.getD k default).ev) = ((b.getD k default).ev)))) || (!(((a.getD k default).void) == ((b.getD k default).void)))) = false then .pointer (some ⟨sb va, so va + k * 13, none⟩) else undef), Vl 29 (if ((!(decide (((a.getD k default).ev) = ((b.getD k default).ev)))) || (!(((a.getD k default).void) == ((b.getD k default).void)))) = false then .pointer (some ⟨sb va, so va + k * 13 + 11, none⟩) else undef), Vl 30 (if ((!(decide (((a.getD k default).ev) = ((b.getD k default).ev)))) || (!(((a.getD k default).void) == ((b.getD k default).void)))) = false then .agg #[.int .i64 ((a.getD k default).byO), .int .i64 ((a.getD k default).byS)] else undef), Vl 31 (if ((!(decide (((a.getD k default).ev) = ((b.getD k default).ev)))) || (!(((a.getD k default).void) == ((b.getD k default).void)))) = false then vb else undef), Vl 32 (if ((!(decide (((a.getD k default).ev) = ((b.getD k default).ev)))) || (!(((a.getD k default).void) == ((b.getD k default).void)))) = false then .int .i64 ((k : Nat) : Int) else undef), Vl 33 (if ((!(decide (((a.getD k default).ev) = ((b.getD k default).ev)))) || (!(((a.getD k default).void) == ((b.getD k default).void)))) = false then .pointer (some ⟨sb vb, so vb + k * 13, none⟩) else undef), Vl 34 (if ((!(decide (((a.getD k default).ev) = ((b.getD k default).ev)))) || (!(((a.getD k default).void) == ((b.getD k default).void)))) = false then .pointer (some ⟨sb vb, so vb + k * 13 + 11, none⟩) else undef), Vl 35 (if ((!(decide (((a.getD k default).ev) = ((b.getD k default).ev)))) || (!(((a.getD k default).void) == ((b.getD k default).void)))) = false then .agg #[.int .i64 ((b.getD k default).byO), .int .i64 ((b.getD k default).byS)] else undef), Vl 36 (if ((!(decide (((a.getD k default).ev) = ((b.getD k default).ev)))) || (!(((a.getD k default).void) == ((b.getD k default).void)))) = false then .bool (!decide ((a.getD k default).byO = (b.getD k default).byO ∧ (a.getD k default).byS = (b.getD k default).byS)) else undef), Vl 37 (.bool (((!(decide (((a.getD k default).ev) = ((b.getD k default).ev)))) || (!(((a.getD k default).void) == ((b.getD k default).void)))) || (!decide ((a.getD k default).byO = (b.getD k default).byO ∧ (a.getD k default).byS = (b.getD k default).byS))))]) [[], [], [0, 1], [0, 1, 2], [0, 1, 2, 3], [], [], [5, 6], [5, 6, 7], [5, 6, 7, 8], [0, 1, 2, 3, 4, 5, 6, 7, 8, 9], [0, 1, 2, 3, 4, 5, 6, 7, 8, 9, 10], [0, 1, 2, 3, 4, 5, 6, 7, 8, 9, 10, 11], [0, 1, 2, 3, 4, 5, 6, 7, 8, 9, 10, 11, 12], [0, 1, 2, 3, 4, 5, 6, 7, 8, 9, 10, 11, 12], [0, 1, 2, 3, 4, 5, 6, 7, 8, 9, 10, 11, 12, 13, 14], [0, 1, 2, 3, 4, 5, 6, 7, 8, 9, 10, 11, 12, 13, 14, 15], [0, 1, 2, 3, 4, 5, 6, 7, 8, 9, 10, 11, 12, 13, 14, 15, 16], [0, 1, 2, 3, 4, 5, 6, 7, 8, 9, 10, 11, 12], [0, 1, 2, 3, 4, 5, 6, 7, 8, 9, 10, 11, 12], [0, 1, 2, 3, 4, 5, 6, 7, 8, 9, 10, 11, 12, 18, 19], [0, 1, 2, 3, 4, 5, 6, 7, 8, 9, 10, 11, 12, 18, 19, 20], [0, 1, 2, 3, 4, 5, 6, 7, 8, 9, 10, 11, 12, 18, 19, 20, 21], [0, 1, 2, 3, 4, 5, 6, 7, 8, 9, 10, 11, 12, 13, 14, 15, 16, 17, 18, 19, 20, 21, 22], [0, 1, 2, 3, 4, 5, 6, 7, 8, 9, 10, 11, 12, 13, 14, 15, 16, 17, 18, 19, 20, 21, 22, 23], [0, 1, 2, 3, 4, 5, 6, 7, 8, 9, 10, 11, 12, 13, 14, 15, 16, 17, 18, 19, 20, 21, 22, 23, 24], [0, 1, 2, 3, 4, 5, 6, 7, 8, 9, 10, 11, 12, 13, 14, 15, 16, 17, 18, 19, 20, 21, 22, 23, 24, 25], [0, 1, 2, 3, 4, 5, 6, 7, 8, 9, 10, 11, 12, 13, 14, 15, 16, 17, 18, 19, 20, 21, 22, 23, 24, 25], [0, 1, 2, 3, 4, 5, 6, 7, 8, 9, 10, 11, 12, 13, 14, 15, 16, 17, 18, 19, 20, 21, 22, 23, 24, 25, 26, 27], [0, 1, 2, 3, 4, 5, 6, 7, 8, 9, 10, 11, 12, 13, 14, 15, 16, 17, 18, 19, 20, 21, 22, 23, 24, 25, 26, 27, 28], [0, 1, 2, 3, 4, 5, 6, 7, 8, 9, 10, 11, 12, 13, 14, 15, 16, 17, 18, 19, 20, 21, 22, 23, 24, 25, 26, 27, 28, 29], [0, 1, 2, 3, 4, 5, 6, 7, 8, 9, 10, 11, 12, 13, 14, 15, 16, 17, 18, 19, 20, 21, 22, 23, 24, 25], [0, 1, 2, 3, 4, 5, 6, 7, 8, 9, 10, 11, 12, 13, 14, 15, 16, 17, 18, 19, 20, 21, 22, 23, 24, 25], [0, 1, 2, 3, 4, 5, 6, 7, 8, 9, 10, 11, 12, 13, 14, 15, 16, 17, 18, 19, 20, 21, 22, 23, 24, 25, 31, 32], [0, 1, 2, 3, 4, 5, 6, 7, 8, 9, 10, 11, 12, 13, 14, 15, 16, 17, 18, 19, 20, 21, 22, 23, 24, 25, 31, 32, 33], [0, 1, 2, 3, 4, 5, 6, 7, 8, 9, 10, 11, 12, 13, 14, 15, 16, 17, 18, 19, 20, 21, 22, 23, 24, 25, 31, 32, 33, 34], [0, 1, 2, 3, 4, 5, 6, 7, 8, 9, 10, 11, 12, 13, 14, 15, 16, 17, 18, 19, 20, 21, 22, 23, 24, 25, 26, 27, 28, 29, 30, 31, 32, 33, 34, 35], [0, 1, 2, 3, 4, 5, 6, 7, 8, 9, 10, 11, 12, 13, 14, 15, 16, 17, 18, 19, 20, 21, 22, 23, 24, 25, 26, 27, 28, 29, 30, 31, 32, 33, 34, 35, 36]] [10] [(0, 0), (0, 0), (0, 0), (0, 0), (0, 0), (0, 0), (0, 0), (0, 0), (0, 0), (0, 0), (0, 0), (1, 1), (1, 1), (1, 1), (1, 1), (1, 1), (1, 1), (1, 1), (1, 1), (1, 1), (1, 1), (1, 1), (1, 1), (1, 1), (1, 1), (1, 1), (1, 1), (1, 1), (1, 1), (1, 1), (1, 1), (1, 1), (1, 1), (1, 1), (1, 1), (1, 1), (1, 1), (1, 1)] (by kernel_rfl) (by kernel_rfl) (by kernel_rfl) rfl (by kernel_rfl) (by kernel_rfl) (fun _ h1 h2 h3 h4 _ => hS5.same h1 h2 h3 h4) ?_ (yi ⟨dA, dA, dA, dA, dA, dA, dA, dA, dA, dA, dT, dA, dA, dA, dA, dA, dA, dA, dA, dA, dA, dA, dA, dA, dA, dA, dA, dA, dA, dA, dA, dA, dA, dA, dA, dA, dA, dA, trivial⟩) ⟨?_, ?_, ?_, ?_, ?_, ?_, ?_, ?_, ?_, ?_, ?_, ?_, ?_, ?_, ?_, ?_, ?_, ?_, ?_, ?_, ?_, ?_, ?_, ?_, ?_, ?_, ?_, ?_, ?_, ?_, ?_, ?_, ?_, ?_, ?_, ?_, ?_, ?_, trivial⟩ ?_
   ·intro k vals vals' w hv h
    have e : ∀ j ∈ ([10] : List Nat), vals' j = vals j := hv
    match k, h with
    | 0, h => exact h
    | 1, h => exact (by simpa only [WF, List.getElem?_cons_zero, List.getElem?_cons_succ, e 10 (by decide)] using h)
    | _ + 2, _ => trivial
   ·intro k394 vals w395 h398 h399 hW397 hA396
    refine obl rfl ?_
    exact zb (v := va) rfl (fun vals' hv _ => ⟨rfl, hv⟩)
   ·intro k400 vals w401 h404 h405 hW403 hA402
    refine obl rfl ?_
    exact zb (v := .int .i64 ((k : Nat) : Int)) rfl (fun vals' hv _ => ⟨rfl, hv⟩)
   ·intro k406 vals w407 h410 h411 hW409 hA408
    obtain rfl : k406 = 0 := Nat.le_antisymm h411 h410
    have hS412 : Sep _ _ _ _ := hW409
    have e413 := hA408 0 (by decide)
    have e414 := hA408 1 (by decide)
    refine obl rfl ?_
    have hi415 : k < a.length := (by first | omega | (simp only [lens]; omega))
    exact zm (k := 13) (i := k) Tryd.underlying66 Tryd.sizeOf62 e413 ha.sl e414 hi415 (fun vals' hv _ => ⟨rfl, hv⟩)
   ·intro k416 vals w417 h420 h421 hW419 hA418
    have e422 := hA418 2 (by decide)
    refine obl rfl ?_
    exact Xy e422 (fun vals' hv _ => ⟨rfl, hv⟩)
   ·intro k423 vals w424 h427 h428 hW426 hA425
    obtain rfl : k423 = 0 := Nat.le_antisymm h428 h427
    have hS429 : Sep _ _ _ _ := hW426
    have e430 := hA425 3 (by decide)
    refine obl rfl ?_
    have hi432 : k < a.length := (by first | omega | (simp only [lens]; omega))
    obtain ⟨hce431, hde431_0, hoke431⟩ := ha.ent hi432
    rw [← zn default hi432] at hce431 hde431_0 hoke431
    have hsm433 : ((a.getD k default).ev.deps).length * 8 ≤ 140737488355328 := hde431_0.small
    have hcw434 := hS429.cells hce431 (ha.foot (ne_of_lt hi432))
    exact zl (k := 10) (cs := [.int .i64 ((a.getD k default).ev.origin), .int .i64 ((a.getD k default).ev.seq), .int .i64 ((a.getD k default).ev.lam), (zi W (sb va) (so va + k * 13 + 3)), .int .i64 ((a.getD k default).ev.typ), .int .i64 ((a.getD k default).ev.agg), .int .i64 ((a.getD k default).ev.field), .int .i64 ((a.getD k default).ev.op), .int .i64 ((a.getD k default).ev.arg), .int .i64 ((a.getD k default).ev.key)]) Tryd.isAgg59 Tryd.sizeOf59 rfl e430 (CellsAt.sub hcw434 0 (cs2 := [.int .i64 ((a.getD k default).ev.origin), .int .i64 ((a.getD k default).ev.seq), .int .i64 ((a.getD k default).ev.lam), (zi W (sb va) (so va + k * 13 + 3)), .int .i64 ((a.getD k default).ev.typ), .int .i64 ((a.getD k default).ev.agg), .int .i64 ((a.getD k default).ev.field), .int .i64 ((a.getD k default).ev.op), .int .i64 ((a.getD k default).ev.arg), .int .i64 ((a.getD k default).ev.key)]) rfl) (fun vals' hv _ => ⟨rfl, hv⟩)
   ·intro k435 vals w436 h439 h440 hW438 hA437
    refine obl rfl ?_
    exact zb (v := vb) rfl (fun vals' hv _ => ⟨rfl, hv⟩)
   ·intro k441 vals w442 h445 h446 hW444 hA443
    refine obl rfl ?_
    exact zb (v := .int .i64 ((k : Nat) : Int)) rfl (fun vals' hv _ => ⟨rfl, hv⟩)
   ·intro k447 vals w448 h451 h452 hW450 hA449
    obtain rfl : k447 = 0 := Nat.le_antisymm h452 h451
    have hS453 : Sep _ _ _ _ := hW450
    have e454 := hA449 5 (by decide)
    have e455 := hA449 6 (by decide)
    refine obl rfl ?_
    have hi456 : k < b.length := (by first | omega | (simp only [lens]; omega))
    exact zm (k := 13) (i := k) Tryd.underlying66 Tryd.sizeOf62 e454 hb.sl e455 hi456 (fun vals' hv _ => ⟨rfl, hv⟩)
   ·intro k457 vals w458 h461 h462 hW460 hA459
    have e463 := hA459 7 (by decide)
    refine obl rfl ?_
    exact Xy e463 (fun vals' hv _ => ⟨rfl, hv⟩)
   ·intro k464 vals w465 h468 h469 hW467 hA466
    obtain rfl : k464 = 0 := Nat.le_antisymm h469 h468
    have hS470 : Sep _ _ _ _ := hW467
    have e471 := hA466 8 (by decide)
    refine obl rfl ?_
    have hi473 : k < b.length := (by first | omega | (simp only [lens]; omega))
    obtain ⟨hce472, hde472_0, hoke472⟩ := hb.ent hi473
    rw [← zn default hi473] at hce472 hde472_0 hoke472
    have hsm474 : ((b.getD k default).ev.deps).length * 8 ≤ 140737488355328 := hde472_0.small
    have hcw475 := hS470.cells hce472 (hb.foot (ne_of_lt hi473))
    exact zl (k := 10) (cs := [.int .i64 ((b.getD k default).ev.origin), .int .i64 ((b.getD k default).ev.seq), .int .i64 ((b.getD k default).ev.lam), (zi W (sb vb) (so vb + k * 13 + 3)), .int .i64 ((b.getD k default).ev.typ), .int .i64 ((b.getD k default).ev.agg), .int .i64 ((b.getD k default).ev.field), .int .i64 ((b.getD k default).ev.op), .int .i64 ((b.getD k default).ev.arg), .int .i64 ((b.getD k default).ev.key)]) Tryd.isAgg59 Tryd.sizeOf59 rfl e471 (CellsAt.sub hcw475 0 (cs2 := [.int .i64 ((b.getD k default).ev.origin), .int .i64 ((b.getD k default).ev.seq), .int .i64 ((b.getD k default).ev.lam), (zi W (sb vb) (so vb + k * 13 + 3)), .int .i64 ((b.getD k default).ev.typ), .int .i64 ((b.getD k default).ev.agg), .int .i64 ((b.getD k default).ev.field), .int .i64 ((b.getD k default).ev.op), .int .i64 ((b.getD k default).ev.arg), .int .i64 ((b.getD k default).ev.key)]) rfl) (fun vals' hv _ => ⟨rfl, hv⟩)
   ·intro k89 vals w90 h93 h94 hW92 hA91
    obtain rfl : k89 = 0 := Nat.le_antisymm h94 h93
    have hS95 : Sep _ _ _ _ := hW92
    have e96 := hA91 4 (by decide)
    have e97 := hA91 9 (by decide)
    refine obl rfl ?_
    have hi99 : k < a.length := (by first | omega | (simp only [lens]; omega))
    obtain ⟨hce98, hde98_0, hoke98⟩ := ha.ent hi99
    rw [← zn default hi99] at hce98 hde98_0 hoke98
    have hsm100 : ((a.getD k default).ev.deps).length * 8 ≤ 140737488355328 := hde98_0.small
    have hcw101 := hS95.cells hce98 (ha.foot (ne_of_lt hi99))
    have hi103 : k < b.length := (by first | omega | (simp only [lens]; omega))
    obtain ⟨hce102, hde102_0, hoke102⟩ := hb.ent hi103
    rw [← zn default hi103] at hce102 hde102_0 hoke102
    have hsm104 : ((b.getD k default).ev.deps).length * 8 ≤ 140737488355328 := hde102_0.small
    have hcw105 := hS95.cells hce102 (hb.foot (ne_of_lt hi103))
    refine (zt (f := 39) (vals := [.agg (((a.getD k default).ev).cells (zi W (sb va) (so va + k * 13 + 3))).toArray, .agg (((b.getD k default).ev).cells (zi W (sb vb) (so vb + k * 13 + 3))).toArray]) (cap := []) rfl (yX ⟨e96, e97, trivial⟩) Tryd.call39 (XR (a := ((a.getD k default).ev)) (b := ((b.getD k default).ev)) hde98_0 hoke98.ev hde102_0 hoke102.ev hS95) ?_)
    rintro _ w106 ⟨rfl, hS107⟩
    intro vals' hv hv'
    refine ⟨?_, trivial⟩
    show (vals' 10 = (.bool (decide (((a.getD k default).ev) = ((b.getD k default).ev))) : Value)) ∧ Sep G W Rs w106
    exact ⟨hv, hS107⟩
   ·intro k476 vals w477 h480 h481 hW479 hA478
    obtain rfl : k476 = 1 := Nat.le_antisymm h481 h480
    obtain ⟨he108, hS482⟩ := hW479
    refine obl rfl ?_
    exact yz (a := decide (((a.getD k default).ev) = ((b.getD k default).ev))) he108 (fun vals' hv _ => ⟨rfl, hv⟩)
   ·intro k483 vals w484 h487 h488 hW486 hA485
    have e489 := hA485 11 (by decide)
    refine obl rfl ?_
    exact zb (v := .bool (!(decide (((a.getD k default).ev) = ((b.getD k default).ev))))) e489 (fun vals' hv _ => ⟨rfl, hv⟩)
   ·intro k490 vals w491 h494 h495 hW493 hA492
    have e496 := hA492 12 (by decide)
    refine zy rfl rfl e496 (fun hb497 => ?_) (fun hb497 => fun vals' hv _ => ⟨trivial, hv.trans (if_neg hb497).symm⟩)
    have hl498 := hb497
    have hl498 := zx hl498
    exact zb (v := va) rfl (fun vals' hv _ => ⟨rfl, hv.trans (if_pos hb497).symm⟩)
   ·intro k499 vals w500 h503 h504 hW502 hA501
    have e505 := hA501 12 (by decide)
    refine zy rfl rfl e505 (fun hb506 => ?_) (fun hb506 => fun vals' hv _ => ⟨trivial, hv.trans (if_neg hb506).symm⟩)
    have hl507 := hb506
    have hl507 := zx hl507
    exact zb (v := .int .i64 ((k : Nat) : Int)) rfl (fun vals' hv _ => ⟨rfl, hv.trans (if_pos hb506).symm⟩)
   ·intro k508 vals w509 h512 h513 hW511 hA510
    obtain rfl : k508 = 1 := Nat.le_antisymm h513 h512
    obtain ⟨he108, hS514⟩ := hW511
    have e515 := hA510 12 (by decide)
    have e516 : vals 13 = (if (!(decide (((a.getD k default).ev) = ((b.getD k default).ev)))) = false then (va : Value) else undef) := hA510 13 (by decide)
    have e517 : vals 14 = (if (!(decide (((a.getD k default).ev) = ((b.getD k default).ev)))) = false then (.int .i64 ((k : Nat) : Int) : Value) else undef) := hA510 14 (by decide)
    refine zy rfl rfl e515 (fun hb518 => ?_) (fun hb518 => fun vals' hv _ => ⟨trivial, hv.trans (if_neg hb518).symm⟩)
    have hl519 := hb518
    have hl519 := zx hl519
    have hi520 : k < a.length := (by first | omega | (simp only [lens]; omega))
    exact zm (k := 13) (i := k) Tryd.underlying66 Tryd.sizeOf62 (show _ = (va : Value) from (Eq.trans e516 (if_pos hb518))) ha.sl (show _ = (.int .i64 ((k : Nat) : Int) : Value) from (Eq.trans e517 (if_pos hb518))) hi520 (fun vals' hv _ => ⟨rfl, hv.trans (if_pos hb518).symm⟩)
   ·intro k521 vals w522 h525 h526 hW524 hA523
    have e527 := hA523 12 (by decide)
    have e528 : vals 15 = (if (!(decide (((a.getD k default).ev) = ((b.getD k default).ev)))) = false then (.pointer (some ⟨sb va, so va + k * 13, none⟩) : Value) else undef) := hA523 15 (by decide)
    refine zy rfl rfl e527 (fun hb529 => ?_) (fun hb529 => fun vals' hv _ => ⟨trivial, hv.trans (if_neg hb529).symm⟩)
    have hl530 := hb529
    have hl530 := zx hl530
    exact Zc (show _ = (.pointer (some ⟨sb va, so va + k * 13, none⟩) : Value) from (Eq.trans e528 (if_pos hb529))) (fun vals' hv _ => ⟨rfl, hv.trans (if_pos hb529).symm⟩)
   ·intro k531 vals w532 h535 h536 hW534 hA533
    obtain rfl : k531 = 1 := Nat.le_antisymm h536 h535
    obtain ⟨he108, hS537⟩ := hW534
    have e538 := hA533 12 (by decide)
    have e539 : vals 16 = (if (!(decide (((a.getD k default).ev) = ((b.getD k default).ev)))) = false then (.pointer (some ⟨sb va, so va + k * 13 + 10, none⟩) : Value) else undef) := hA533 16 (by decide)
    refine zy rfl rfl e538 (fun hb540 => ?_) (fun hb540 => fun vals' hv _ => ⟨trivial, hv.trans (if_neg hb540).symm⟩)
    have hl541 := hb540
    have hl541 := zx hl541
    have hi543 : k < a.length := (by first | omega | (simp only [lens]; omega))
    obtain ⟨hce542, hde542_0, hoke542⟩ := ha.ent hi543
    rw [← zn default hi543] at hce542 hde542_0 hoke542
    have hsm544 : ((a.getD k default).ev.deps).length * 8 ≤ 140737488355328 := hde542_0.small
    have hcw545 := hS537.cells hce542 (ha.foot (ne_of_lt hi543))
    exact zf (v := .bool ((a.getD k default).void)) Tryd.isAgg4 (show _ = (.pointer (some ⟨sb va, so va + k * 13 + 10, none⟩) : Value) from (Eq.trans e539 (if_pos hb540))) (hcw545.get (j := 10) rfl) (fun vals' hv _ => ⟨rfl, hv.trans (if_pos hb540).symm⟩)
   ·intro k546 vals w547 h550 h551 hW549 hA548
    have e552 := hA548 12 (by decide)
    refine zy rfl rfl e552 (fun hb553 => ?_) (fun hb553 => fun vals' hv _ => ⟨trivial, hv.trans (if_neg hb553).symm⟩)
    have hl554 := hb553
    have hl554 := zx hl554
    exact zb (v := vb) rfl (fun vals' hv _ => ⟨rfl, hv.trans (if_pos hb553).symm⟩)
   ·intro k555 vals w556 h559 h560 hW558 hA557
    have e561 := hA557 12 (by decide)
    refine zy rfl rfl e561 (fun hb562 => ?_) (fun hb562 => fun vals' hv _ => ⟨trivial, hv.trans (if_neg hb562).symm⟩)
    have hl563 := hb562
    have hl563 := zx hl563
    exact zb (v := .int .i64 ((k : Nat) : Int)) rfl (fun vals' hv _ => ⟨rfl, hv.trans (if_pos hb562).symm⟩)
   ·intro k564 vals w565 h568 h569 hW567 hA566
    obtain rfl : k564 = 1 := Nat.le_antisymm h569 h568
    obtain ⟨he108, hS570⟩ := hW567
    have e571 := hA566 12 (by decide)
    have e572 : vals 18 = (if (!(decide (((a.getD k default).ev) = ((b.getD k default).ev)))) = false then (vb : Value) else undef) := hA566 18 (by decide)
    have e573 : vals 19 = (if (!(decide (((a.getD k default).ev) = ((b.getD k default).ev)))) = false then (.int .i64 ((k : Nat) : Int) : Value) else undef) := hA566 19 (by decide)
    refine zy rfl rfl e571 (fun hb574 => ?_) (fun hb574 => fun vals' hv _ => ⟨trivial, hv.trans (if_neg hb574).symm⟩)
    have hl575 := hb574
    have hl575 := zx hl575
    have hi576 : k < b.length := (by first | omega | (simp only [lens]; omega))
    exact zm (k := 13) (i := k) Tryd.underlying66 Tryd.sizeOf62 (show _ = (vb : Value) from (Eq.trans e572 (if_pos hb574))) hb.sl (show _ = (.int .i64 ((k : Nat) : Int) : Value) from (Eq.trans e573 (if_pos hb574))) hi576 (fun vals' hv _ => ⟨rfl, hv.trans (if_pos hb574).symm⟩)
   ·intro k577 vals w578 h581 h582 hW580 hA579
    have e583 := hA579 12 (by decide)
    have e584 : vals 20 = (if (!(decide (((a.getD k default).ev) = ((b.getD k default).ev)))) = false then (.pointer (some ⟨sb vb, so vb + k * 13, none⟩) : Value) else undef) := hA579 20 (by decide)
    refine zy rfl rfl e583 (fun hb585 => ?_) (fun hb585 => fun vals' hv _ => ⟨trivial, hv.trans (if_neg hb585).symm⟩)
    have hl586 := hb585
    have hl586 := zx hl586
    exact Zc (show _ = (.pointer (some ⟨sb vb, so vb + k * 13, none⟩) : Value) from (Eq.trans e584 (if_pos hb585))) (fun vals' hv _ => ⟨rfl, hv.trans (if_pos hb585).symm⟩)
   ·intro k587 vals w588 h591 h592 hW590 hA589
    obtain rfl : k587 = 1 := Nat.le_antisymm h592 h591
    obtain ⟨he108, hS593⟩ := hW590
    have e594 := hA589 12 (by decide)
    have e595 : vals 21 = (if (!(decide (((a.getD k default).ev) = ((b.getD k default).ev)))) = false then (.pointer (some ⟨sb vb, so vb + k * 13 + 10, none⟩) : Value) else undef) := hA589 21 (by decide)
    refine zy rfl rfl e594 (fun hb596 => ?_) (fun hb596 => fun vals' hv _ => ⟨trivial, hv.trans (if_neg hb596).symm⟩)
    have hl597 := hb596
    have hl597 := zx hl597
    have hi599 : k < b.length := (by first | omega | (simp only [lens]; omega))
    obtain ⟨hce598, hde598_0, hoke598⟩ := hb.ent hi599
    rw [← zn default hi599] at hce598 hde598_0 hoke598
    have hsm600 : ((b.getD k default).ev.deps).length * 8 ≤ 140737488355328 := hde598_0.small
    have hcw601 := hS593.cells hce598 (hb.foot (ne_of_lt hi599))
    exact zf (v := .bool ((b.getD k default).void)) Tryd.isAgg4 (show _ = (.pointer (some ⟨sb vb, so vb + k * 13 + 10, none⟩) : Value) from (Eq.trans e595 (if_pos hb596))) (hcw601.get (j := 10) rfl) (fun vals' hv _ => ⟨rfl, hv.trans (if_pos hb596).symm⟩)
   ·intro k602 vals w603 h606 h607 hW605 hA604
    obtain rfl : k602 = 1 := Nat.le_antisymm h607 h606
    obtain ⟨he108, hS608⟩ := hW605
    have e609 := hA604 12 (by decide)
    have e610 : vals 17 = (if (!(decide (((a.getD k default).ev) = ((b.getD k default).ev)))) = false then (.bool ((a.getD k default).void) : Value) else undef) := hA604 17 (by decide)
    have e611 : vals 22 = (if (!(decide (((a.getD k default).ev) = ((b.getD k default).ev)))) = false then (.bool ((b.getD k default).void) : Value) else undef) := hA604 22 (by decide)
    refine zy rfl rfl e609 (fun hb612 => ?_) (fun hb612 => fun vals' hv _ => ⟨trivial, hv.trans (if_neg hb612).symm⟩)
    have hl613 := hb612
    have hl613 := zx hl613
    exact UL (a := (a.getD k default).void) (b := (b.getD k default).void) Tryd.underlying4 (show _ = (.bool ((a.getD k default).void) : Value) from (Eq.trans e610 (if_pos hb612))) (show _ = (.bool ((b.getD k default).void) : Value) from (Eq.trans e611 (if_pos hb612))) (fun vals' hv _ => ⟨rfl, hv.trans (if_pos hb612).symm⟩)
   ·intro k614 vals w615 h618 h619 hW617 hA616
    have e620 := hA616 12 (by decide)
    have e621 : vals 23 = (if (!(decide (((a.getD k default).ev) = ((b.getD k default).ev)))) = false then (.bool (!(((a.getD k default).void) == ((b.getD k default).void))) : Value) else undef) := hA616 23 (by decide)
    refine obl rfl ?_
    exact zz (b := !(decide (((a.getD k default).ev) = ((b.getD k default).ev)))) (b' := !(((a.getD k default).void) == ((b.getD k default).void))) e620 (fun hbp => (show _ = (.bool (!(((a.getD k default).void) == ((b.getD k default).void))) : Value) from (Eq.trans e621 (if_pos hbp)))) (fun vals' hv _ => ⟨rfl, hv⟩)
   ·intro k622 vals w623 h626 h627 hW625 hA624
    have e628 := hA624 24 (by decide)
    refine obl rfl ?_
    exact zb (v := .bool ((!(decide (((a.getD k default).ev) = ((b.getD k default).ev)))) || (!(((a.getD k default).void) == ((b.getD k default).void))))) e628 (fun vals' hv _ => ⟨rfl, hv⟩)
   ·intro k629 vals w630 h633 h634 hW632 hA631
    have e635 := hA631 25 (by decide)
    refine zy rfl rfl e635 (fun hb636 => ?_) (fun hb636 => fun vals' hv _ => ⟨trivial, hv.trans (if_neg hb636).symm⟩)
    have hl637 := hb636
    try simp only [zk] at hl637
    exact zb (v := va) rfl (fun vals' hv _ => ⟨rfl, hv.trans (if_pos hb636).symm⟩)
   ·intro k638 vals w639 h642 h643 hW641 hA640
    have e644 := hA640 25 (by decide)
    refine zy rfl rfl e644 (fun hb645 => ?_) (fun hb645 => fun vals' hv _ => ⟨trivial, hv.trans (if_neg hb645).symm⟩)
    have hl646 := hb645
    try simp only [zk] at hl646
    exact zb (v := .int .i64 ((k : Nat) : Int)) rfl (fun vals' hv _ => ⟨rfl, hv.trans (if_pos hb645).symm⟩)
   ·intro k647 vals w648 h651 h652 hW650 hA649
    obtain rfl : k647 = 1 := Nat.le_antisymm h652 h651
    obtain ⟨he108, hS653⟩ := hW650
    have e654 := hA649 25 (by decide)
    have e655 : vals 26 = (if ((!(decide (((a.getD k default).ev) = ((b.getD k default).ev)))) || (!(((a.getD k default).void) == ((b.getD k default).void)))) = false then (va : Value) else undef) := hA649 26 (by decide)
    have e656 : vals 27 = (if ((!(decide (((a.getD k default).ev) = ((b.getD k default).ev)))) || (!(((a.getD k default).void) == ((b.getD k default).void)))) = false then (.int .i64 ((k : Nat) : Int) : Value) else undef) := hA649 27 (by decide)
    refine zy rfl rfl e654 (fun hb657 => ?_) (fun hb657 => fun vals' hv _ => ⟨trivial, hv.trans (if_neg hb657).symm⟩)
    have hl658 := hb657
    try simp only [zk] at hl658
    have hi659 : k < a.length := (by first | omega | (simp only [lens]; omega))
    exact zm (k := 13) (i := k) Tryd.underlying66 Tryd.sizeOf62 (show _ = (va : Value) from (Eq.trans e655 (if_pos hb657))) ha.sl (show _ = (.int .i64 ((k : Nat) : Int) : Value) from (Eq.trans e656 (if_pos hb657))) hi659 (fun vals' hv _ => ⟨rfl, hv.trans (if_pos hb657).symm⟩)
   ·intro k660 vals w661 h664 h665 hW663 hA662
    have e666 := hA662 25 (by decide)
    have e667 : vals 28 = (if ((!(decide (((a.getD k default).ev) = ((b.getD k default).ev)))) || (!(((a.getD k default).void) == ((b.getD k default).void)))) = false then (.pointer (some ⟨sb va, so va + k * 13, none⟩) : Value) else undef) := hA662 28 (by decide)
    refine zy rfl rfl e666 (fun hb668 => ?_) (fun hb668 => fun vals' hv _ => ⟨trivial, hv.trans (if_neg hb668).symm⟩)
    have hl669 := hb668
    try simp only [zk] at hl669
    exact Yl (show _ = (.pointer (some ⟨sb va, so va + k * 13, none⟩) : Value) from (Eq.trans e667 (if_pos hb668))) (fun vals' hv _ => ⟨rfl, hv.trans (if_pos hb668).symm⟩)
   ·intro k670 vals w671 h674 h675 hW673 hA672
    obtain rfl : k670 = 1 := Nat.le_antisymm h675 h674
    obtain ⟨he108, hS676⟩ := hW673
    have e677 := hA672 25 (by decide)
    have e678 : vals 29 = (if ((!(decide (((a.getD k default).ev) = ((b.getD k default).ev)))) || (!(((a.getD k default).void) == ((b.getD k default).void)))) = false then (.pointer (some ⟨sb va, so va + k * 13 + 11, none⟩) : Value) else undef) := hA672 29 (by decide)
    refine zy rfl rfl e677 (fun hb679 => ?_) (fun hb679 => fun vals' hv _ => ⟨trivial, hv.trans (if_neg hb679).symm⟩)
    have hl680 := hb679
    try simp only [zk] at hl680
    have hi682 : k < a.length := (by first | omega | (simp only [lens]; omega))
    obtain ⟨hce681, hde681_0, hoke681⟩ := ha.ent hi682
    rw [← zn default hi682] at hce681 hde681_0 hoke681
    have hsm683 : ((a.getD k default).ev.deps).length * 8 ≤ 140737488355328 := hde681_0.small
    have hcw684 := hS676.cells hce681 (ha.foot (ne_of_lt hi682))
    exact zl (k := 2) (cs := [.int .i64 ((a.getD k default).byO), .int .i64 ((a.getD k default).byS)]) Tryd.isAgg57 Tryd.sizeOf57 rfl (show _ = (.pointer (some ⟨sb va, so va + k * 13 + 11, none⟩) : Value) from (Eq.trans e678 (if_pos hb679))) (CellsAt.sub hcw684 11 (cs2 := [.int .i64 ((a.getD k default).byO), .int .i64 ((a.getD k default).byS)]) rfl) (fun vals' hv _ => ⟨rfl, hv.trans (if_pos hb679).symm⟩)
   ·intro k685 vals w686 h689 h690 hW688 hA687
    have e691 := hA687 25 (by decide)
    refine zy rfl rfl e691 (fun hb692 => ?_) (fun hb692 => fun vals' hv _ => ⟨trivial, hv.trans (if_neg hb692).symm⟩)
    have hl693 := hb692
    try simp only [zk] at hl693
    exact zb (v := vb) rfl (fun vals' hv _ => ⟨rfl, hv.trans (if_pos hb692).symm⟩)
   ·intro k694 vals w695 h698 h699 hW697 hA696
    have e700 := hA696 25 (by decide)
    refine zy rfl rfl e700 (fun hb701 => ?_) (fun hb701 => fun vals' hv _ => ⟨trivial, hv.trans (if_neg hb701).symm⟩)
    have hl702 := hb701
    try simp only [zk] at hl702
    exact zb (v := .int .i64 ((k : Nat) : Int)) rfl (fun vals' hv _ => ⟨rfl, hv.trans (if_pos hb701).symm⟩)
   ·intro k703 vals w704 h707 h708 hW706 hA705
    obtain rfl : k703 = 1 := Nat.le_antisymm h708 h707
    obtain ⟨he108, hS709⟩ := hW706
    have e710 := hA705 25 (by decide)
    have e711 : vals 31 = (if ((!(decide (((a.getD k default).ev) = ((b.getD k default).ev)))) || (!(((a.getD k default).void) == ((b.getD k default).void)))) = false then (vb : Value) else undef) := hA705 31 (by decide)
    have e712 : vals 32 = (if ((!(decide (((a.getD k default).ev) = ((b.getD k default).ev)))) || (!(((a.getD k default).void) == ((b.getD k default).void)))) = false then (.int .i64 ((k : Nat) : Int) : Value) else undef) := hA705 32 (by decide)
    refine zy rfl rfl e710 (fun hb713 => ?_) (fun hb713 => fun vals' hv _ => ⟨trivial, hv.trans (if_neg hb713).symm⟩)
    have hl714 := hb713
    try simp only [zk] at hl714
    have hi715 : k < b.length := (by first | omega | (simp only [lens]; omega))
    exact zm (k := 13) (i := k) Tryd.underlying66 Tryd.sizeOf62 (show _ = (vb : Value) from (Eq.trans e711 (if_pos hb713))) hb.sl (show _ = (.int .i64 ((k : Nat) : Int) : Value) from (Eq.trans e712 (if_pos hb713))) hi715 (fun vals' hv _ => ⟨rfl, hv.trans (if_pos hb713).symm⟩)
   ·intro k716 vals w717 h720 h721 hW719 hA718
    have e722 := hA718 25 (by decide)
    have e723 : vals 33 = (if ((!(decide (((a.getD k default).ev) = ((b.getD k default).ev)))) || (!(((a.getD k default).void) == ((b.getD k default).void)))) = false then (.pointer (some ⟨sb vb, so vb + k * 13, none⟩) : Value) else undef) := hA718 33 (by decide)
    refine zy rfl rfl e722 (fun hb724 => ?_) (fun hb724 => fun vals' hv _ => ⟨trivial, hv.trans (if_neg hb724).symm⟩)
    have hl725 := hb724
    try simp only [zk] at hl725
    exact Yl (show _ = (.pointer (some ⟨sb vb, so vb + k * 13, none⟩) : Value) from (Eq.trans e723 (if_pos hb724))) (fun vals' hv _ => ⟨rfl, hv.trans (if_pos hb724).symm⟩)
   ·intro k726 vals w727 h730 h731 hW729 hA728
    obtain rfl : k726 = 1 := Nat.le_antisymm h731 h730
    obtain ⟨he108, hS732⟩ := hW729
    have e733 := hA728 25 (by decide)
    have e734 : vals 34 = (if ((!(decide (((a.getD k default).ev) = ((b.getD k default).ev)))) || (!(((a.getD k default).void) == ((b.getD k default).void)))) = false then (.pointer (some ⟨sb vb, so vb + k * 13 + 11, none⟩) : Value) else undef) := hA728 34 (by decide)
    refine zy rfl rfl e733 (fun hb735 => ?_) (fun hb735 => fun vals' hv _ => ⟨trivial, hv.trans (if_neg hb735).symm⟩)
    have hl736 := hb735
    try simp only [zk] at hl736
    have hi738 : k < b.length := (by first | omega | (simp only [lens]; omega))
    obtain ⟨hce737, hde737_0, hoke737⟩ := hb.ent hi738
    rw [← zn default hi738] at hce737 hde737_0 hoke737
    have hsm739 : ((b.getD k default).ev.deps).length * 8 ≤ 140737488355328 := hde737_0.small
    have hcw740 := hS732.cells hce737 (hb.foot (ne_of_lt hi738))
    exact zl (k := 2) (cs := [.int .i64 ((b.getD k default).byO), .int .i64 ((b.getD k default).byS)]) Tryd.isAgg57 Tryd.sizeOf57 rfl (show _ = (.pointer (some ⟨sb vb, so vb + k * 13 + 11, none⟩) : Value) from (Eq.trans e734 (if_pos hb735))) (CellsAt.sub hcw740 11 (cs2 := [.int .i64 ((b.getD k default).byO), .int .i64 ((b.getD k default).byS)]) rfl) (fun vals' hv _ => ⟨rfl, hv.trans (if_pos hb735).symm⟩)
   ·intro k741 vals w742 h745 h746 hW744 hA743
    obtain rfl : k741 = 1 := Nat.le_antisymm h746 h745
    obtain ⟨he108, hS747⟩ := hW744
    have e748 := hA743 25 (by decide)
    have e749 : vals 30 = (if ((!(decide (((a.getD k default).ev) = ((b.getD k default).ev)))) || (!(((a.getD k default).void) == ((b.getD k default).void)))) = false then (.agg #[.int .i64 ((a.getD k default).byO), .int .i64 ((a.getD k default).byS)] : Value) else undef) := hA743 30 (by decide)
    have e750 : vals 35 = (if ((!(decide (((a.getD k default).ev) = ((b.getD k default).ev)))) || (!(((a.getD k default).void) == ((b.getD k default).void)))) = false then (.agg #[.int .i64 ((b.getD k default).byO), .int .i64 ((b.getD k default).byS)] : Value) else undef) := hA743 35 (by decide)
    refine zy rfl rfl e748 (fun hb751 => ?_) (fun hb751 => fun vals' hv _ => ⟨trivial, hv.trans (if_neg hb751).symm⟩)
    have hl752 := hb751
    try simp only [zk] at hl752
    exact Yc (e := decide ((a.getD k default).byO = (b.getD k default).byO ∧ (a.getD k default).byS = (b.getD k default).byS)) (xs := #[.int .i64 ((a.getD k default).byO), .int .i64 ((a.getD k default).byS)]) (ys := #[.int .i64 ((b.getD k default).byO), .int .i64 ((b.getD k default).byS)]) Uu (show _ = (.agg #[.int .i64 ((a.getD k default).byO), .int .i64 ((a.getD k default).byS)] : Value) from (Eq.trans e749 (if_pos hb751))) (show _ = (.agg #[.int .i64 ((b.getD k default).byO), .int .i64 ((b.getD k default).byS)] : Value) from (Eq.trans e750 (if_pos hb751))) (fun vals' hv _ => ⟨rfl, hv.trans (if_pos hb751).symm⟩)
   ·intro k753 vals w754 h757 h758 hW756 hA755
    have e759 := hA755 25 (by decide)
    have e760 : vals 36 = (if ((!(decide (((a.getD k default).ev) = ((b.getD k default).ev)))) || (!(((a.getD k default).void) == ((b.getD k default).void)))) = false then (.bool (!decide ((a.getD k default).byO = (b.getD k default).byO ∧ (a.getD k default).byS = (b.getD k default).byS)) : Value) else undef) := hA755 36 (by decide)
    refine obl rfl ?_
    exact zz (b := (!(decide (((a.getD k default).ev) = ((b.getD k default).ev)))) || (!(((a.getD k default).void) == ((b.getD k default).void)))) (b' := !decide ((a.getD k default).byO = (b.getD k default).byO ∧ (a.getD k default).byS = (b.getD k default).byS)) e759 (fun hbp => (show _ = (.bool (!decide ((a.getD k default).byO = (b.getD k default).byO ∧ (a.getD k default).byS = (b.getD k default).byS)) : Value) from (Eq.trans e760 (if_pos hbp)))) (fun vals' hv _ => ⟨rfl, hv⟩)
   intro vals w761 hW762 hA763
   obtain ⟨he108, hS764⟩ := hW762
   have e765 := hA763 37 (by decide)
   refine yh (kv := [(0, va), (1, vb), (5, .int .i64 ((k : Nat) : Int)), (11, .int .i64 ((k : Nat) : Int)), (12, va), (13, .int .i64 ((a.length : Nat) : Int)), (14, .bool true), (54, .bool (((!(decide (((a.getD k default).ev) = ((b.getD k default).ev)))) || (!(((a.getD k default).void) == ((b.getD k default).void)))) || (!decide ((a.getD k default).byO = (b.getD k default).byO ∧ (a.getD k default).byS = (b.getD k default).byS))))]) ⟨rfl, rfl, rfl, rfl, rfl, rfl, rfl, (by exact e765), trivial⟩ (fun ρw761 => ?_)
   refine zg ?_
   cases hc766 : ((!(decide (((a.getD k default).ev) = ((b.getD k default).ev)))) || (!(((a.getD k default).void) == ((b.getD k default).void)))) || (!decide ((a.getD k default).byO = (b.getD k default).byO ∧ (a.getD k default).byS = (b.getD k default).byS))
   ·skip
    try simp only [zk] at hc766
    refine zo rfl ?_
    refine zw ?_
    refine za (by kernel_rfl) (fun _ => ?_)
    refine st (zb (v := .int .i64 ((k : Nat) : Int)) rfl ?_)
    have hr767 : InR ((k + 1 : Nat) : Int) := by first | omega | (simp only [lens]; omega)
    refine st (yj (r := ((k + 1 : Nat) : Int)) (k := .i64) (a := ((k : Nat) : Int)) (b := 1) rfl rfl (by rw [show (((k : Nat) : Int) + 1 : Int) = ((k + 1 : Nat) : Int) by first | omega | (simp only [lens]; omega)]; exact zY hr767) ?_)
    refine st (zd (v := .int .i64 ((k + 1 : Nat) : Int)) rfl ?_)
    refine zg ?_
    exact ⟨_, by omega, k + 1, _, rfl, zr ⟨rfl, rfl, rfl, trivial⟩, by omega, (yS hm (Un hc766)), hS764⟩
   ·skip
    try simp only [zk] at hc766
    refine zp rfl ?_
    refine ze ?_
    refine za (by kernel_rfl) (fun _ => ?_)
    refine st (zd (v := .bool false) rfl ?_)
    refine zg ?_
    refine zu ?_
    refine zX Tryd.results31 (show _ = (.bool false : Value) from rfl) ?_
    refine ⟨?_, hS764⟩
    rw [decide_eq_false (fun e => by subst e; first | omega | (simp at hc766))]
 ·skip
  have hc1 := zQ hc1
  refine zp rfl ?_
  refine ze ?_
  refine za (by kernel_rfl) (fun _ => ?_)
  refine st (zd (v := .bool false) rfl ?_)
  refine zg ?_
  refine zu ?_
  refine zX Tryd.results31 (show _ = (.bool false : Value) from rfl) ?_
  refine ⟨?_, hS0⟩
  rw [decide_eq_false (fun e => by subst e; first | omega | (simp at hc1))]

theorem Up {a b : Cel} (h1 : a.n = b.n) (h2 : a.set = b.set) : a = b := by cases a; cases b; simp_all
theorem Qh {a b : Sta} (h1 : a.ver = b.ver) (h2 : a.cls = b.cls) : a = b := by cases a; cases b; simp_all
theorem XT {G : Nat → Prop} {W w : World} {Rs : List HP} {x : Sta} {dx0 : Value} (hdx0 : RdS W G dx0 x.cls) (ox : x.Ok) {y : Sta} {dy0 : Value} (hdy0 : RdS W G dy0 y.cls) (oy : y.Ok) (hS0 : Sep G W Rs w) : Ret Tryd.prog 34 [.agg (x.cells dx0).toArray, .agg (y.cells dy0).toArray] w (fun r w' => r = (.bool (decide (x = y)) : Value) ∧ Sep G W Rs w') := by
 have hdx0s : _ * 32 ≤ _ := hdx0.small
 have hdy0s : _ * 32 ≤ _ := hdy0.small
 refine zq (args := [.agg (x.cells dx0).toArray, .agg (y.cells dy0).toArray]) Tryd.func34 rfl rfl ?_
 refine ze ?_
 refine za (by kernel_rfl) (fun _ => ?_)
 refine st (yc (v := .agg (x.cells dx0).toArray) rfl ?_)
 intro w3 b2 hn1
 have hS4 := hS0.new hn1
 refine st (yc (v := .agg (y.cells dy0).toArray) rfl ?_)
 intro w7 b6 hn5
 have hS8 := hS4.new hn5
 refine st (zd (v := .bool false) rfl ?_)
 refine zg ?_
 refine ze ?_
 refine ze ?_
 refine zD (by kernel_rfl) ?_
 refine st (Xz rfl ?_)
 refine st (zf (v := .int .i64 (x.ver)) Tryd.isAgg3 rfl (zh (hS8.blk (i := 1) rfl) rfl) ?_)
 refine st (Xz rfl ?_)
 refine st (zf (v := .int .i64 (y.ver)) Tryd.isAgg3 rfl (zh (hS8.blk (i := 0) rfl) rfl) ?_)
 refine st (yw (k := .i64) (a := x.ver) (b := y.ver) rfl rfl ?_)
 refine st (zb (v := .bool (!decide (x.ver = y.ver))) rfl ?_)
 refine stc (V := .pointer (some ⟨b2, 1, none⟩)) rfl rfl (fun hb9 => ?_) ?_
 ·have hl10 := hb9
  have hl10 := zx hl10
  exact yH rfl ⟨rfl, rfl⟩
 refine stc (V := dx0) rfl rfl (fun hb11 => ?_) ?_
 ·have hl12 := hb11
  have hl12 := zx hl12
  exact zf (v := dx0) Tryd.isAgg26 (show _ = (.pointer (some ⟨b2, 1, none⟩) : Value) from (if_pos hb11)) (zh (hS8.blk (i := 1) rfl) rfl) ⟨rfl, rfl⟩
 refine stc (V := .int .i64 ((x.cls.length : Nat) : Int)) rfl rfl (fun hb13 => ?_) ?_
 ·have hl14 := hb13
  have hl14 := zx hl14
  exact zK (n := x.cls.length) Tryd.underlying26 (show _ = (dx0 : Value) from (if_pos hb13)) hdx0.sl ⟨rfl, rfl⟩
 refine stc (V := .pointer (some ⟨b6, 1, none⟩)) rfl rfl (fun hb15 => ?_) ?_
 ·have hl16 := hb15
  have hl16 := zx hl16
  exact yH rfl ⟨rfl, rfl⟩
 refine stc (V := dy0) rfl rfl (fun hb17 => ?_) ?_
 ·have hl18 := hb17
  have hl18 := zx hl18
  exact zf (v := dy0) Tryd.isAgg26 (show _ = (.pointer (some ⟨b6, 1, none⟩) : Value) from (if_pos hb17)) (zh (hS8.blk (i := 0) rfl) rfl) ⟨rfl, rfl⟩
 refine stc (V := .int .i64 ((y.cls.length : Nat) : Int)) rfl rfl (fun hb19 => ?_) ?_
 ·have hl20 := hb19
  have hl20 := zx hl20
  exact zK (n := y.cls.length) Tryd.underlying26 (show _ = (dy0 : Value) from (if_pos hb19)) hdy0.sl ⟨rfl, rfl⟩
 refine stc (V := .bool (!decide (((x.cls.length : Nat) : Int) = ((y.cls.length : Nat) : Int)))) rfl rfl (fun hb21 => ?_) ?_
 ·have hl22 := hb21
  have hl22 := zx hl22
  exact yw (k := .i64) (a := ((x.cls.length : Nat) : Int)) (b := ((y.cls.length : Nat) : Int)) (show _ = (.int .i64 ((x.cls.length : Nat) : Int) : Value) from (if_pos hb21)) (show _ = (.int .i64 ((y.cls.length : Nat) : Int) : Value) from (if_pos hb21)) ⟨rfl, rfl⟩
 refine st (zz (b := !decide (x.ver = y.ver)) (b' := !decide (((x.cls.length : Nat) : Int) = ((y.cls.length : Nat) : Int))) rfl (fun hbp => (show _ = (.bool (!decide (((x.cls.length : Nat) : Int) = ((y.cls.length : Nat) : Int))) : Value) from (if_pos hbp))) ?_)
 refine zg ?_
 cases hc23 : (!decide (x.ver = y.ver)) || (!decide (((x.cls.length : Nat) : Int) = ((y.cls.length : Nat) : Int)))
 ·skip
  try simp only [zk] at hc23
  refine zo rfl ?_
  refine zw ?_
  refine ze ?_
  refine ze ?_
  refine za (by kernel_rfl) (fun _ => ?_)
  refine st (zd (v := .int .i64 (0)) rfl ?_)
  refine zg ?_
  refine zA ?_
  refine yu (fun mq σ wq => ∃ (k : Nat) (ρ : Env), mq = x.cls.length - k ∧ σ = yv ρ [(2, .pointer (some ⟨b2, 0, none⟩)), (3, .pointer (some ⟨b6, 0, none⟩)), (5, .int .i64 ((k : Nat) : Int))] ∧ (k ≤ x.cls.length) ∧ (∀ i, i < k → x.cls.getD i default = y.cls.getD i default) ∧ Sep G W ((Blk b6 (y.cells dy0).toArray 68) :: (Blk b2 (x.cells dx0).toArray 68) :: Rs) wq) ⟨0, _, rfl, zr ⟨rfl, rfl, rfl, trivial⟩, Nat.zero_le _, (fun i h => absurd h (Nat.not_lt_zero i)), hS8⟩ ?_
  rintro m25 σ26 w24 ⟨k, ρl1, rfl, rfl, hkk, hm, hS27⟩
  refine ze ?_
  refine ze ?_
  refine za (by kernel_rfl) (fun _ => ?_)
  refine st (zb (v := .int .i64 ((k : Nat) : Int)) rfl ?_)
  refine st (yH rfl ?_)
  refine st (zf (v := dx0) Tryd.isAgg26 rfl (zh (hS27.blk (i := 1) rfl) rfl) ?_)
  refine st (zK (n := x.cls.length) Tryd.underlying26 rfl hdx0.sl ?_)
  refine st (zU (k := .i64) (a := ((k : Nat) : Int)) (b := ((x.cls.length : Nat) : Int)) rfl rfl ?_)
  refine zg ?_
  cases hc28 : decide (((k : Nat) : Int) < ((x.cls.length : Nat) : Int))
  ·skip
   have hc28 := of_decide_eq_false hc28
   refine zo rfl ?_
   refine yt ?_
   refine yn ?_
   refine ze ?_
   refine za (by kernel_rfl) (fun _ => ?_)
   refine st (zd (v := .bool true) rfl ?_)
   refine zg ?_
   refine zu ?_
   refine zX Tryd.results34 (show _ = (.bool true : Value) from rfl) ?_
   have hS29 : Sep G W Rs w24 := hS27.sel 2 [] (Nat.le_add_left _ _) rfl rfl
   refine ⟨?_, hS29⟩
   rw [decide_eq_true (Qh (by omega) (Yh (by omega) (fun i hi => hm i (by omega))))]
  ·skip
   have hc28 := of_decide_eq_true hc28
   refine zp rfl ?_
   refine zw ?_
   refine ze ?_
   refine zA ?_
   refine ze ?_
   refine zP ((fun TT pp0 => WF [fun vals wq => Sep G W (pp0 :: TT) wq, fun vals wq => (vals 26 = (if (!decide (((x.cls.getD k default).n) = ((y.cls.getD k default).n))) = false then (.bool (decide (((x.cls.getD k default).set) = ((y.cls.getD k default).set))) : Value) else undef)) ∧ Sep G W (pp0 :: TT) wq]) ((Blk b2 (x.cells dx0).toArray 68) :: Rs) (Blk b6 (y.cells dy0).toArray 68)) (AF [Vl 0 (.pointer (some ⟨b2, 1, none⟩)), Vl 1 (dx0), Vl 2 (.int .i64 ((k : Nat) : Int)), Vl 3 (.pointer (some ⟨sb dx0, so dx0 + k * 2, none⟩)), Vl 4 (.pointer (some ⟨sb dx0, so dx0 + k * 2, none⟩)), Vl 5 (.int .i64 ((x.cls.getD k default).n)), Vl 6 (.pointer (some ⟨b6, 1, none⟩)), Vl 7 (dy0), Vl 8 (.int .i64 ((k : Nat) : Int)), Vl 9 (.pointer (some ⟨sb dy0, so dy0 + k * 2, none⟩)), Vl 10 (.pointer (some ⟨sb dy0, so dy0 + k * 2, none⟩)), Vl 11 (.int .i64 ((y.cls.getD k default).n)), Vl 12 (.bool (!decide (((x.cls.getD k default).n) = ((y.cls.getD k default).n)))), Vl 13 (.bool (!decide (((x.cls.getD k default).n) = ((y.cls.getD k default).n)))), Vl 14 (if (!decide (((x.cls.getD k default).n) = ((y.cls.getD k default).n))) = false then .pointer (some ⟨b2, 1, none⟩) else undef), Vl 15 (if (!decide (((x.cls.getD k default).n) = ((y.cls.getD k default).n))) = false then dx0 else undef), Vl 16 (if (!decide (((x.cls.getD k default).n) = ((y.cls.getD k default).n))) = false then .int .i64 ((k : Nat) : Int) else undef), Vl 17 (if (!decide (((x.cls.getD k default).n) = ((y.cls.getD k default).n))) = false then .pointer (some ⟨sb dx0, so dx0 + k * 2, none⟩) else undef), Vl 18 (if (!decide (((x.cls.getD k default).n) = ((y.cls.getD k default).n))) = false then .pointer (some ⟨sb dx0, so dx0 + k * 2 + 1, none⟩) else undef), Vl 19 (if (!decide (((x.cls.getD k default).n) = ((y.cls.getD k default).n))) = false then (zi W (sb dx0) (so dx0 + k * 2 + 1)) else undef), Vl 20 (if (!decide (((x.cls.getD k default).n) = ((y.cls.getD k default).n))) = false then .pointer (some ⟨b6, 1, none⟩) else undef), Vl 21 (if (!decide (((x.cls.getD k default).n) = ((y.cls.getD k default).n))) = false then dy0 else undef), Vl 22 (if (!decide (((x.cls.getD k default).n) = ((y.cls.getD k default).n))) = false then .int .i64 ((k : Nat) : Int) else undef), Vl 23 (if (!decide (((x.cls.getD k default).n) = ((y.cls.getD k default).n))) = false then .pointer (some ⟨sb dy0, so dy0 + k * 2, none⟩) else undef), Vl 24 (if (!decide (((x.cls.getD k default).n) = ((y.cls.getD k default).n))) = false then .pointer (some ⟨sb dy0, so dy0 + k * 2 + 1, none⟩) else undef), Vl 25 (if (!decide (((x.cls.getD k default).n) = ((y.cls.getD k default).n))) = false then (zi W (sb dy0) (so dy0 + k * 2 + 1)) else undef), fun _ => True, Vl 27 (if (!decide (((x.cls.getD k default).n) = ((y.cls.getD k default).n))) = false then .bool (!(decide (((x.cls.getD k default).set) = ((y.cls.getD k default).set)))) else undef), Vl 28 (.bool ((!decide (((x.cls.getD k default).n) = ((y.cls.getD k default).n))) || (!(decide (((x.cls.getD k default).set) = ((y.cls.getD k default).set))))))]) [[], [0], [], [0, 1, 2], [0, 1, 2, 3], [0, 1, 2, 3, 4], [], [6], [], [6, 7, 8], [6, 7, 8, 9], [6, 7, 8, 9, 10], [0, 1, 2, 3, 4, 5, 6, 7, 8, 9, 10, 11], [0, 1, 2, 3, 4, 5, 6, 7, 8, 9, 10, 11, 12], [0, 1, 2, 3, 4, 5, 6, 7, 8, 9, 10, 11, 12, 13], [0, 1, 2, 3, 4, 5, 6, 7, 8, 9, 10, 11, 12, 13, 14], [0, 1, 2, 3, 4, 5, 6, 7, 8, 9, 10, 11, 12, 13], [0, 1, 2, 3, 4, 5, 6, 7, 8, 9, 10, 11, 12, 13, 14, 15, 16], [0, 1, 2, 3, 4, 5, 6, 7, 8, 9, 10, 11, 12, 13, 14, 15, 16, 17], [0, 1, 2, 3, 4, 5, 6, 7, 8, 9, 10, 11, 12, 13, 14, 15, 16, 17, 18], [0, 1, 2, 3, 4, 5, 6, 7, 8, 9, 10, 11, 12, 13], [0, 1, 2, 3, 4, 5, 6, 7, 8, 9, 10, 11, 12, 13, 20], [0, 1, 2, 3, 4, 5, 6, 7, 8, 9, 10, 11, 12, 13], [0, 1, 2, 3, 4, 5, 6, 7, 8, 9, 10, 11, 12, 13, 20, 21, 22], [0, 1, 2, 3, 4, 5, 6, 7, 8, 9, 10, 11, 12, 13, 20, 21, 22, 23], [0, 1, 2, 3, 4, 5, 6, 7, 8, 9, 10, 11, 12, 13, 20, 21, 22, 23, 24], [0, 1, 2, 3, 4, 5, 6, 7, 8, 9, 10, 11, 12, 13, 14, 15, 16, 17, 18, 19, 20, 21, 22, 23, 24, 25], [0, 1, 2, 3, 4, 5, 6, 7, 8, 9, 10, 11, 12, 13, 14, 15, 16, 17, 18, 19, 20, 21, 22, 23, 24, 25, 26], [0, 1, 2, 3, 4, 5, 6, 7, 8, 9, 10, 11, 12, 13, 14, 15, 16, 17, 18, 19, 20, 21, 22, 23, 24, 25, 26, 27]] [26] [(0, 0), (0, 0), (0, 0), (0, 0), (0, 0), (0, 0), (0, 0), (0, 0), (0, 0), (0, 0), (0, 0), (0, 0), (0, 0), (0, 0), (0, 0), (0, 0), (0, 0), (0, 0), (0, 0), (0, 0), (0, 0), (0, 0), (0, 0), (0, 0), (0, 0), (0, 0), (0, 0), (1, 1), (1, 1)] (by kernel_rfl) (by kernel_rfl) (by kernel_rfl) rfl (by kernel_rfl) (by kernel_rfl) (fun _ h1 h2 h3 h4 _ => hS27.same h1 h2 h3 h4) ?_ (yi ⟨dA, dA, dA, dA, dA, dA, dA, dA, dA, dA, dA, dA, dA, dA, dA, dA, dA, dA, dA, dA, dA, dA, dA, dA, dA, dA, dT, dA, dA, trivial⟩) ⟨?_, ?_, ?_, ?_, ?_, ?_, ?_, ?_, ?_, ?_, ?_, ?_, ?_, ?_, ?_, ?_, ?_, ?_, ?_, ?_, ?_, ?_, ?_, ?_, ?_, ?_, ?_, ?_, ?_, trivial⟩ ?_
   ·intro k vals vals' w hv h
    have e : ∀ j ∈ ([26] : List Nat), vals' j = vals j := hv
    match k, h with
    | 0, h => exact h
    | 1, h => exact (by simpa only [WF, List.getElem?_cons_zero, List.getElem?_cons_succ, e 26 (by decide)] using h)
    | _ + 2, _ => trivial
   ·intro k319 vals w320 h323 h324 hW322 hA321
    refine obl rfl ?_
    exact yH rfl (fun vals' hv _ => ⟨rfl, hv⟩)
   ·intro k325 vals w326 h329 h330 hW328 hA327
    obtain rfl : k325 = 0 := Nat.le_antisymm h330 h329
    have hS331 : Sep _ _ _ _ := hW328
    have e332 := hA327 0 (by decide)
    refine obl rfl ?_
    exact zf (v := dx0) Tryd.isAgg26 e332 (zh (hS331.blk (i := 1) rfl) rfl) (fun vals' hv _ => ⟨rfl, hv⟩)
   ·intro k333 vals w334 h337 h338 hW336 hA335
    refine obl rfl ?_
    exact zb (v := .int .i64 ((k : Nat) : Int)) rfl (fun vals' hv _ => ⟨rfl, hv⟩)
   ·intro k339 vals w340 h343 h344 hW342 hA341
    obtain rfl : k339 = 0 := Nat.le_antisymm h344 h343
    have hS345 : Sep _ _ _ _ := hW342
    have e346 := hA341 1 (by decide)
    have e347 := hA341 2 (by decide)
    refine obl rfl ?_
    have hi348 : k < x.cls.length := (by first | omega | (simp only [lens]; omega))
    exact zm (k := 2) (i := k) Tryd.underlying26 Tryd.sizeOf42 e346 hdx0.sl e347 hi348 (fun vals' hv _ => ⟨rfl, hv⟩)
   ·intro k349 vals w350 h353 h354 hW352 hA351
    have e355 := hA351 3 (by decide)
    refine obl rfl ?_
    exact xx e355 (fun vals' hv _ => ⟨rfl, hv⟩)
   ·intro k356 vals w357 h360 h361 hW359 hA358
    obtain rfl : k356 = 0 := Nat.le_antisymm h361 h360
    have hS362 : Sep _ _ _ _ := hW359
    have e363 := hA358 4 (by decide)
    refine obl rfl ?_
    have hi365 : k < x.cls.length := (by first | omega | (simp only [lens]; omega))
    obtain ⟨hce364, hde364_0, hoke364⟩ := hdx0.cel hi365
    rw [← zn default hi365] at hce364 hde364_0 hoke364
    have hsm366 : ((x.cls.getD k default).set).length * 8 ≤ 140737488355328 := hde364_0.small
    have hcw367 := hS362.cells hce364 (hdx0.foot (ne_of_lt hi365))
    exact zf (v := .int .i64 ((x.cls.getD k default).n)) Tryd.isAgg3 e363 (hcw367.get (j := 0) rfl) (fun vals' hv _ => ⟨rfl, hv⟩)
   ·intro k368 vals w369 h372 h373 hW371 hA370
    refine obl rfl ?_
    exact yH rfl (fun vals' hv _ => ⟨rfl, hv⟩)
   ·intro k374 vals w375 h378 h379 hW377 hA376
    obtain rfl : k374 = 0 := Nat.le_antisymm h379 h378
    have hS380 : Sep _ _ _ _ := hW377
    have e381 := hA376 6 (by decide)
    refine obl rfl ?_
    exact zf (v := dy0) Tryd.isAgg26 e381 (zh (hS380.blk (i := 0) rfl) rfl) (fun vals' hv _ => ⟨rfl, hv⟩)
   ·intro k382 vals w383 h386 h387 hW385 hA384
    refine obl rfl ?_
    exact zb (v := .int .i64 ((k : Nat) : Int)) rfl (fun vals' hv _ => ⟨rfl, hv⟩)
   ·intro k388 vals w389 h392 h393 hW391 hA390
    obtain rfl : k388 = 0 := Nat.le_antisymm h393 h392
    have hS394 : Sep _ _ _ _ := hW391
    have e395 := hA390 7 (by decide)
    have e396 := hA390 8 (by decide)
    refine obl rfl ?_
    have hi397 : k < y.cls.length := (by first | omega | (simp only [lens]; omega))
    exact zm (k := 2) (i := k) Tryd.underlying26 Tryd.sizeOf42 e395 hdy0.sl e396 hi397 (fun vals' hv _ => ⟨rfl, hv⟩)
   ·intro k398 vals w399 h402 h403 hW401 hA400
    have e404 := hA400 9 (by decide)
    refine obl rfl ?_
    exact xx e404 (fun vals' hv _ => ⟨rfl, hv⟩)
   ·intro k405 vals w406 h409 h410 hW408 hA407
    obtain rfl : k405 = 0 := Nat.le_antisymm h410 h409
    have hS411 : Sep _ _ _ _ := hW408
    have e412 := hA407 10 (by decide)
    refine obl rfl ?_
    have hi414 : k < y.cls.length := (by first | omega | (simp only [lens]; omega))
    obtain ⟨hce413, hde413_0, hoke413⟩ := hdy0.cel hi414
    rw [← zn default hi414] at hce413 hde413_0 hoke413
    have hsm415 : ((y.cls.getD k default).set).length * 8 ≤ 140737488355328 := hde413_0.small
    have hcw416 := hS411.cells hce413 (hdy0.foot (ne_of_lt hi414))
    exact zf (v := .int .i64 ((y.cls.getD k default).n)) Tryd.isAgg3 e412 (hcw416.get (j := 0) rfl) (fun vals' hv _ => ⟨rfl, hv⟩)
   ·intro k417 vals w418 h421 h422 hW420 hA419
    obtain rfl : k417 = 0 := Nat.le_antisymm h422 h421
    have hS423 : Sep _ _ _ _ := hW420
    have e424 := hA419 5 (by decide)
    have e425 := hA419 11 (by decide)
    refine obl rfl ?_
    exact yw (k := .i64) (a := (x.cls.getD k default).n) (b := (y.cls.getD k default).n) e424 e425 (fun vals' hv _ => ⟨rfl, hv⟩)
   ·intro k426 vals w427 h430 h431 hW429 hA428
    have e432 := hA428 12 (by decide)
    refine obl rfl ?_
    exact zb (v := .bool (!decide (((x.cls.getD k default).n) = ((y.cls.getD k default).n)))) e432 (fun vals' hv _ => ⟨rfl, hv⟩)
   ·intro k433 vals w434 h437 h438 hW436 hA435
    have e439 := hA435 13 (by decide)
    refine zy rfl rfl e439 (fun hb440 => ?_) (fun hb440 => fun vals' hv _ => ⟨trivial, hv.trans (if_neg hb440).symm⟩)
    have hl441 := hb440
    have hl441 := zx hl441
    exact yH rfl (fun vals' hv _ => ⟨rfl, hv.trans (if_pos hb440).symm⟩)
   ·intro k442 vals w443 h446 h447 hW445 hA444
    obtain rfl : k442 = 0 := Nat.le_antisymm h447 h446
    have hS448 : Sep _ _ _ _ := hW445
    have e449 := hA444 13 (by decide)
    have e450 : vals 14 = (if (!decide (((x.cls.getD k default).n) = ((y.cls.getD k default).n))) = false then (.pointer (some ⟨b2, 1, none⟩) : Value) else undef) := hA444 14 (by decide)
    refine zy rfl rfl e449 (fun hb451 => ?_) (fun hb451 => fun vals' hv _ => ⟨trivial, hv.trans (if_neg hb451).symm⟩)
    have hl452 := hb451
    have hl452 := zx hl452
    exact zf (v := dx0) Tryd.isAgg26 (show _ = (.pointer (some ⟨b2, 1, none⟩) : Value) from (Eq.trans e450 (if_pos hb451))) (zh (hS448.blk (i := 1) rfl) rfl) (fun vals' hv _ => ⟨rfl, hv.trans (if_pos hb451).symm⟩)
   ·intro k453 vals w454 h457 h458 hW456 hA455
    have e459 := hA455 13 (by decide)
    refine zy rfl rfl e459 (fun hb460 => ?_) (fun hb460 => fun vals' hv _ => ⟨trivial, hv.trans (if_neg hb460).symm⟩)
    have hl461 := hb460
    have hl461 := zx hl461
    exact zb (v := .int .i64 ((k : Nat) : Int)) rfl (fun vals' hv _ => ⟨rfl, hv.trans (if_pos hb460).symm⟩)
   ·intro k462 vals w463 h466 h467 hW465 hA464
    obtain rfl : k462 = 0 := Nat.le_antisymm h467 h466
    have hS468 : Sep _ _ _ _ := hW465
    have e469 := hA464 13 (by decide)
    have e470 : vals 15 = (if (!decide (((x.cls.getD k default).n) = ((y.cls.getD k default).n))) = false then (dx0 : Value) else undef) := hA464 15 (by decide)
    have e471 : vals 16 = (if (!decide (((x.cls.getD k default).n) = ((y.cls.getD k default).n))) = false then (.int .i64 ((k : Nat) : Int) : Value) else undef) := hA464 16 (by decide)
    refine zy rfl rfl e469 (fun hb472 => ?_) (fun hb472 => fun vals' hv _ => ⟨trivial, hv.trans (if_neg hb472).symm⟩)
    have hl473 := hb472
    have hl473 := zx hl473
    have hi474 : k < x.cls.length := (by first | omega | (simp only [lens]; omega))
    exact zm (k := 2) (i := k) Tryd.underlying26 Tryd.sizeOf42 (show _ = (dx0 : Value) from (Eq.trans e470 (if_pos hb472))) hdx0.sl (show _ = (.int .i64 ((k : Nat) : Int) : Value) from (Eq.trans e471 (if_pos hb472))) hi474 (fun vals' hv _ => ⟨rfl, hv.trans (if_pos hb472).symm⟩)
   ·intro k475 vals w476 h479 h480 hW478 hA477
    have e481 := hA477 13 (by decide)
    have e482 : vals 17 = (if (!decide (((x.cls.getD k default).n) = ((y.cls.getD k default).n))) = false then (.pointer (some ⟨sb dx0, so dx0 + k * 2, none⟩) : Value) else undef) := hA477 17 (by decide)
    refine zy rfl rfl e481 (fun hb483 => ?_) (fun hb483 => fun vals' hv _ => ⟨trivial, hv.trans (if_neg hb483).symm⟩)
    have hl484 := hb483
    have hl484 := zx hl484
    exact xc (show _ = (.pointer (some ⟨sb dx0, so dx0 + k * 2, none⟩) : Value) from (Eq.trans e482 (if_pos hb483))) (fun vals' hv _ => ⟨rfl, hv.trans (if_pos hb483).symm⟩)
   ·intro k485 vals w486 h489 h490 hW488 hA487
    obtain rfl : k485 = 0 := Nat.le_antisymm h490 h489
    have hS491 : Sep _ _ _ _ := hW488
    have e492 := hA487 13 (by decide)
    have e493 : vals 18 = (if (!decide (((x.cls.getD k default).n) = ((y.cls.getD k default).n))) = false then (.pointer (some ⟨sb dx0, so dx0 + k * 2 + 1, none⟩) : Value) else undef) := hA487 18 (by decide)
    refine zy rfl rfl e492 (fun hb494 => ?_) (fun hb494 => fun vals' hv _ => ⟨trivial, hv.trans (if_neg hb494).symm⟩)
    have hl495 := hb494
    have hl495 := zx hl495
    have hi497 : k < x.cls.length := (by first | omega | (simp only [lens]; omega))
    obtain ⟨hce496, hde496_0, hoke496⟩ := hdx0.cel hi497
    rw [← zn default hi497] at hce496 hde496_0 hoke496
    have hsm498 : ((x.cls.getD k default).set).length * 8 ≤ 140737488355328 := hde496_0.small
    have hcw499 := hS491.cells hce496 (hdx0.foot (ne_of_lt hi497))
    exact zf (v := (zi W (sb dx0) (so dx0 + k * 2 + 1))) Tryd.isAgg40 (show _ = (.pointer (some ⟨sb dx0, so dx0 + k * 2 + 1, none⟩) : Value) from (Eq.trans e493 (if_pos hb494))) (hcw499.get (j := 1) rfl) (fun vals' hv _ => ⟨rfl, hv.trans (if_pos hb494).symm⟩)
   ·intro k500 vals w501 h504 h505 hW503 hA502
    have e506 := hA502 13 (by decide)
    refine zy rfl rfl e506 (fun hb507 => ?_) (fun hb507 => fun vals' hv _ => ⟨trivial, hv.trans (if_neg hb507).symm⟩)
    have hl508 := hb507
    have hl508 := zx hl508
    exact yH rfl (fun vals' hv _ => ⟨rfl, hv.trans (if_pos hb507).symm⟩)
   ·intro k509 vals w510 h513 h514 hW512 hA511
    obtain rfl : k509 = 0 := Nat.le_antisymm h514 h513
    have hS515 : Sep _ _ _ _ := hW512
    have e516 := hA511 13 (by decide)
    have e517 : vals 20 = (if (!decide (((x.cls.getD k default).n) = ((y.cls.getD k default).n))) = false then (.pointer (some ⟨b6, 1, none⟩) : Value) else undef) := hA511 20 (by decide)
    refine zy rfl rfl e516 (fun hb518 => ?_) (fun hb518 => fun vals' hv _ => ⟨trivial, hv.trans (if_neg hb518).symm⟩)
    have hl519 := hb518
    have hl519 := zx hl519
    exact zf (v := dy0) Tryd.isAgg26 (show _ = (.pointer (some ⟨b6, 1, none⟩) : Value) from (Eq.trans e517 (if_pos hb518))) (zh (hS515.blk (i := 0) rfl) rfl) (fun vals' hv _ => ⟨rfl, hv.trans (if_pos hb518).symm⟩)
   ·intro k520 vals w521 h524 h525 hW523 hA522
    have e526 := hA522 13 (by decide)
    refine zy rfl rfl e526 (fun hb527 => ?_) (fun hb527 => fun vals' hv _ => ⟨trivial, hv.trans (if_neg hb527).symm⟩)
    have hl528 := hb527
    have hl528 := zx hl528
    exact zb (v := .int .i64 ((k : Nat) : Int)) rfl (fun vals' hv _ => ⟨rfl, hv.trans (if_pos hb527).symm⟩)
   ·intro k529 vals w530 h533 h534 hW532 hA531
    obtain rfl : k529 = 0 := Nat.le_antisymm h534 h533
    have hS535 : Sep _ _ _ _ := hW532
    have e536 := hA531 13 (by decide)
    have e537 : vals 21 = (if (!decide (((x.cls.getD k default).n) = ((y.cls.getD k default).n))) = false then (dy0 : Value) else undef) := hA531 21 (by decide)
    have e538 : vals 22 = (if (!decide (((x.cls.getD k default).n) = ((y.cls.getD k default).n))) = false then (.int .i64 ((k : Nat) : Int) : Value) else undef) := hA531 22 (by decide)
    refine zy rfl rfl e536 (fun hb539 => ?_) (fun hb539 => fun vals' hv _ => ⟨trivial, hv.trans (if_neg hb539).symm⟩)
    have hl540 := hb539
    have hl540 := zx hl540
    have hi541 : k < y.cls.length := (by first | omega | (simp only [lens]; omega))
    exact zm (k := 2) (i := k) Tryd.underlying26 Tryd.sizeOf42 (show _ = (dy0 : Value) from (Eq.trans e537 (if_pos hb539))) hdy0.sl (show _ = (.int .i64 ((k : Nat) : Int) : Value) from (Eq.trans e538 (if_pos hb539))) hi541 (fun vals' hv _ => ⟨rfl, hv.trans (if_pos hb539).symm⟩)
   ·intro k542 vals w543 h546 h547 hW545 hA544
    have e548 := hA544 13 (by decide)
    have e549 : vals 23 = (if (!decide (((x.cls.getD k default).n) = ((y.cls.getD k default).n))) = false then (.pointer (some ⟨sb dy0, so dy0 + k * 2, none⟩) : Value) else undef) := hA544 23 (by decide)
    refine zy rfl rfl e548 (fun hb550 => ?_) (fun hb550 => fun vals' hv _ => ⟨trivial, hv.trans (if_neg hb550).symm⟩)
    have hl551 := hb550
    have hl551 := zx hl551
    exact xc (show _ = (.pointer (some ⟨sb dy0, so dy0 + k * 2, none⟩) : Value) from (Eq.trans e549 (if_pos hb550))) (fun vals' hv _ => ⟨rfl, hv.trans (if_pos hb550).symm⟩)
   ·intro k552 vals w553 h556 h557 hW555 hA554
    obtain rfl : k552 = 0 := Nat.le_antisymm h557 h556
    have hS558 : Sep _ _ _ _ := hW555
    have e559 := hA554 13 (by decide)
    have e560 : vals 24 = (if (!decide (((x.cls.getD k default).n) = ((y.cls.getD k default).n))) = false then (.pointer (some ⟨sb dy0, so dy0 + k * 2 + 1, none⟩) : Value) else undef) := hA554 24 (by decide)
    refine zy rfl rfl e559 (fun hb561 => ?_) (fun hb561 => fun vals' hv _ => ⟨trivial, hv.trans (if_neg hb561).symm⟩)
    have hl562 := hb561
    have hl562 := zx hl562
    have hi564 : k < y.cls.length := (by first | omega | (simp only [lens]; omega))
    obtain ⟨hce563, hde563_0, hoke563⟩ := hdy0.cel hi564
    rw [← zn default hi564] at hce563 hde563_0 hoke563
    have hsm565 : ((y.cls.getD k default).set).length * 8 ≤ 140737488355328 := hde563_0.small
    have hcw566 := hS558.cells hce563 (hdy0.foot (ne_of_lt hi564))
    exact zf (v := (zi W (sb dy0) (so dy0 + k * 2 + 1))) Tryd.isAgg40 (show _ = (.pointer (some ⟨sb dy0, so dy0 + k * 2 + 1, none⟩) : Value) from (Eq.trans e560 (if_pos hb561))) (hcw566.get (j := 1) rfl) (fun vals' hv _ => ⟨rfl, hv.trans (if_pos hb561).symm⟩)
   ·intro k278 vals w279 h282 h283 hW281 hA280
    obtain rfl : k278 = 0 := Nat.le_antisymm h283 h282
    have hS284 : Sep _ _ _ _ := hW281
    have e285 := hA280 13 (by decide)
    have e286 : vals 19 = (if (!decide (((x.cls.getD k default).n) = ((y.cls.getD k default).n))) = false then ((zi W (sb dx0) (so dx0 + k * 2 + 1)) : Value) else undef) := hA280 19 (by decide)
    have e287 : vals 25 = (if (!decide (((x.cls.getD k default).n) = ((y.cls.getD k default).n))) = false then ((zi W (sb dy0) (so dy0 + k * 2 + 1)) : Value) else undef) := hA280 25 (by decide)
    refine zy rfl rfl e285 (fun hb288 => ?_) (fun hb288 vals' hv hv' => ?_)
    ·skip
     have hl289 := hb288
     have hl289 := zx hl289
     have hi291 : k < x.cls.length := (by first | omega | (simp only [lens]; omega))
     obtain ⟨hce290, hde290_0, hoke290⟩ := hdx0.cel hi291
     rw [← zn default hi291] at hce290 hde290_0 hoke290
     have hsm292 : ((x.cls.getD k default).set).length * 8 ≤ 140737488355328 := hde290_0.small
     have hcw293 := hS284.cells hce290 (hdx0.foot (ne_of_lt hi291))
     have hi295 : k < y.cls.length := (by first | omega | (simp only [lens]; omega))
     obtain ⟨hce294, hde294_0, hoke294⟩ := hdy0.cel hi295
     rw [← zn default hi295] at hce294 hde294_0 hoke294
     have hsm296 : ((y.cls.getD k default).set).length * 8 ≤ 140737488355328 := hde294_0.small
     have hcw297 := hS284.cells hce294 (hdy0.foot (ne_of_lt hi295))
     refine (zt (f := 19) (vals := [(zi W (sb dx0) (so dx0 + k * 2 + 1)), (zi W (sb dy0) (so dy0 + k * 2 + 1))]) (cap := []) rfl (yX ⟨(show _ = ((zi W (sb dx0) (so dx0 + k * 2 + 1)) : Value) from (Eq.trans e286 (if_pos hb288))), (show _ = ((zi W (sb dy0) (so dy0 + k * 2 + 1)) : Value) from (Eq.trans e287 (if_pos hb288))), trivial⟩) Tryd.call19 (Yp (a := (x.cls.getD k default).set) (va := (zi W (sb dx0) (so dx0 + k * 2 + 1))) (b := (y.cls.getD k default).set) (vb := (zi W (sb dy0) (so dy0 + k * 2 + 1))) hde290_0 hde294_0 hS284) ?_)
     rintro _ w298 ⟨rfl, hS299⟩
     intro vals' hv hv'
     refine ⟨?_, trivial⟩
     show (vals' 26 = (if (!decide (((x.cls.getD k default).n) = ((y.cls.getD k default).n))) = false then (.bool (decide (((x.cls.getD k default).set) = ((y.cls.getD k default).set))) : Value) else undef)) ∧ Sep G W ((Blk b6 (y.cells dy0).toArray 68) :: (Blk b2 (x.cells dx0).toArray 68) :: Rs) w298
     exact ⟨(hv.trans (if_pos hb288).symm), hS299⟩
    ·skip
     refine ⟨?_, trivial⟩
     show (vals' 26 = (if (!decide (((x.cls.getD k default).n) = ((y.cls.getD k default).n))) = false then (.bool (decide (((x.cls.getD k default).set) = ((y.cls.getD k default).set))) : Value) else undef)) ∧ Sep G W ((Blk b6 (y.cells dy0).toArray 68) :: (Blk b2 (x.cells dx0).toArray 68) :: Rs) w279
     exact ⟨(hv.trans (if_neg hb288).symm), hS284⟩
   ·intro k567 vals w568 h571 h572 hW570 hA569
    obtain rfl : k567 = 1 := Nat.le_antisymm h572 h571
    obtain ⟨he300, hS573⟩ := hW570
    have e574 := hA569 13 (by decide)
    refine zy rfl rfl e574 (fun hb575 => ?_) (fun hb575 => fun vals' hv _ => ⟨trivial, hv.trans (if_neg hb575).symm⟩)
    have hl576 := hb575
    have hl576 := zx hl576
    exact yz (a := decide (((x.cls.getD k default).set) = ((y.cls.getD k default).set))) (show _ = (.bool (decide (((x.cls.getD k default).set) = ((y.cls.getD k default).set))) : Value) from (Eq.trans he300 (if_pos hb575))) (fun vals' hv _ => ⟨rfl, hv.trans (if_pos hb575).symm⟩)
   ·intro k577 vals w578 h581 h582 hW580 hA579
    have e583 := hA579 13 (by decide)
    have e584 : vals 27 = (if (!decide (((x.cls.getD k default).n) = ((y.cls.getD k default).n))) = false then (.bool (!(decide (((x.cls.getD k default).set) = ((y.cls.getD k default).set)))) : Value) else undef) := hA579 27 (by decide)
    refine obl rfl ?_
    exact zz (b := !decide (((x.cls.getD k default).n) = ((y.cls.getD k default).n))) (b' := !(decide (((x.cls.getD k default).set) = ((y.cls.getD k default).set)))) e583 (fun hbp => (show _ = (.bool (!(decide (((x.cls.getD k default).set) = ((y.cls.getD k default).set)))) : Value) from (Eq.trans e584 (if_pos hbp)))) (fun vals' hv _ => ⟨rfl, hv⟩)
   intro vals w585 hW586 hA587
   obtain ⟨he300, hS588⟩ := hW586
   have e589 := hA587 28 (by decide)
   refine yh (kv := [(2, .pointer (some ⟨b2, 0, none⟩)), (3, .pointer (some ⟨b6, 0, none⟩)), (5, .int .i64 ((k : Nat) : Int)), (20, .int .i64 ((k : Nat) : Int)), (21, .pointer (some ⟨b2, 1, none⟩)), (22, dx0), (23, .int .i64 ((x.cls.length : Nat) : Int)), (24, .bool true), (55, .bool ((!decide (((x.cls.getD k default).n) = ((y.cls.getD k default).n))) || (!(decide (((x.cls.getD k default).set) = ((y.cls.getD k default).set))))))]) ⟨rfl, rfl, rfl, rfl, rfl, rfl, rfl, rfl, (by exact e589), trivial⟩ (fun ρw585 => ?_)
   refine zg ?_
   cases hc590 : (!decide (((x.cls.getD k default).n) = ((y.cls.getD k default).n))) || (!(decide (((x.cls.getD k default).set) = ((y.cls.getD k default).set))))
   ·skip
    try simp only [zk] at hc590
    refine zo rfl ?_
    refine zw ?_
    refine za (by kernel_rfl) (fun _ => ?_)
    refine st (zb (v := .int .i64 ((k : Nat) : Int)) rfl ?_)
    have hr591 : InR ((k + 1 : Nat) : Int) := by first | omega | (simp only [lens]; omega)
    refine st (yj (r := ((k + 1 : Nat) : Int)) (k := .i64) (a := ((k : Nat) : Int)) (b := 1) rfl rfl (by rw [show (((k : Nat) : Int) + 1 : Int) = ((k + 1 : Nat) : Int) by first | omega | (simp only [lens]; omega)]; exact zY hr591) ?_)
    refine st (zd (v := .int .i64 ((k + 1 : Nat) : Int)) rfl ?_)
    refine zg ?_
    exact ⟨_, by omega, k + 1, _, rfl, zr ⟨rfl, rfl, rfl, trivial⟩, by omega, (yS hm (Up hc590.1 hc590.2)), hS588⟩
   ·skip
    try simp only [zk] at hc590
    refine zp rfl ?_
    refine ze ?_
    refine za (by kernel_rfl) (fun _ => ?_)
    refine st (zd (v := .bool false) rfl ?_)
    refine zg ?_
    refine zu ?_
    refine zX Tryd.results34 (show _ = (.bool false : Value) from rfl) ?_
    have hS592 : Sep G W Rs w585 := hS588.sel 2 [] (Nat.le_add_left _ _) rfl rfl
    refine ⟨?_, hS592⟩
    rw [decide_eq_false (fun e => by subst e; first | omega | (simp at hc590))]
 ·skip
  try simp only [zk] at hc23
  refine zp rfl ?_
  refine ze ?_
  refine za (by kernel_rfl) (fun _ => ?_)
  refine st (zd (v := .bool false) rfl ?_)
  refine zg ?_
  refine zu ?_
  refine zX Tryd.results34 (show _ = (.bool false : Value) from rfl) ?_
  have hS593 : Sep G W Rs w7 := hS8.sel 2 [] (Nat.le_add_left _ _) rfl rfl
  refine ⟨?_, hS593⟩
  rw [decide_eq_false (fun e => by subst e; first | omega | (simp at hc23))]

end Go.Proofs.YtlblilbmpdejgaaDoor
/- Steps of the proofs of this seat: part F12. -/
set_option maxRecDepth 8000
set_option maxHeartbeats 4000000
namespace Go.Proofs.YtlblilbmpdejgaaDoor
open Go.Proofs Go.RowKit

theorem YS (d : Dcl) (l : List Ev) (n : Nat) : zM d (l.take n) = (zM d l).take n := by
  induction l using xP with
  | h0 => rw [List.take_nil, show zM d [] = [] from rfl, List.take_nil]
  | h1 l e ih =>
    rcases Nat.lt_or_ge l.length n with h | h
    · rw [List.take_of_length_le (by rw [List.length_append, List.length_singleton]; omega), List.take_of_length_le (by rw [yL, List.length_append, List.length_singleton]; omega)]
    · rw [List.take_append_of_le_length h, ih, xk, List.take_append_of_le_length (by rw [yL]; exact h)]
def qE (ty ag : Int) (e : Ev) : Bool := decide (e.typ = ty ∧ e.agg = ag)
def qX (ty ag : Int) (x : Ent) : Bool := qE ty ag x.ev
theorem xp {α : Type} (p : α → Bool) (l : List α) (x : α) : (l ++ [x]).filter p = if p x then l.filter p ++ [x] else l.filter p := by
  rw [List.filter_append, List.filter_cons]; split <;> simp
theorem Xr (ty ag f : Int) (L : List Ent) : zB (ty, ag, f) (L.filter (qX ty ag)) = zB (ty, ag, f) L := by
  unfold zB
  rw [List.filter_filter]
  congr 1
  refine List.filter_congr (fun x _ => ?_)
  unfold on3 qX qE
  cases x.void <;> simp <;> omega
theorem UF {ty ag : Int} {x : Ent} (h : onL (ty, ag) x = true) : qX ty ag x = true := by
  unfold onL at h; unfold qX qE; simp at h ⊢; exact h.2
theorem xD (d : Dcl) (ty ag : Int) (L : List Ent) : yx d (ty, ag) (L.filter (qX ty ag)) = yx d (ty, ag) L := by
  induction L using xP with
  | h0 => rfl
  | h1 L x ih =>
    rw [xp, yZ]
    by_cases hq : qX ty ag x = true
    · rw [if_pos hq, yZ, ih]
    · rw [if_neg hq, ih, if_neg (fun h => hq (UF h))]
theorem xW (ty ag : Int) (L : List Ent) : zW (ty, ag) (L.filter (qX ty ag)) = zW (ty, ag) L := by
  unfold zW
  rw [List.filter_filter]
  congr 1
  refine List.filter_congr (fun x _ => ?_)
  cases h : onL (ty, ag) x
  · rfl
  · rw [UF h]; rfl
theorem ZM (d : Dcl) (ty ag : Int) (l : List Ev) : zM d (l.filter (qE ty ag)) = (zM d l).filter (qX ty ag) := by
  induction l using xP with
  | h0 => rfl
  | h1 l e ih =>
    rw [xp, xk, xp]
    by_cases hq : qE ty ag e = true
    · have hq2 : qX ty ag (zV d (zM d l) e) = true := hq
      rw [if_pos hq, if_pos hq2, xk, ih]
      congr 2
      unfold qE at hq
      obtain ⟨rfl, rfl⟩ := of_decide_eq_true hq
      unfold zV ya
      rw [Xr, xD]
    · have hq2 : ¬ qX ty ag (zV d (zM d l) e) = true := hq
      rw [if_neg hq, if_neg hq2, ih]
theorem Wy (d : Dcl) (ty ag : Int) (L : List Ent) : stL d (ty, ag) (L.filter (qX ty ag)) = stL d (ty, ag) L := by unfold stL; rw [xW, xD]
theorem XW (d : Dcl) (ty ag : Int) (L : List Ent) : yE d (ty, ag) (L.filter (qX ty ag)) = yE d (ty, ag) L := by unfold yE; rw [xW, Wy]
theorem Yi (d : Dcl) (ty ag : Int) (L : List Ent) : zj d (L.filter (qX ty ag)) (ty, ag) = zj d L (ty, ag) := by unfold zj; rw [xW, xD]
theorem Uh {α : Type} [Inhabited α] {l : List α} {k : Nat} {q : α → Bool} (hk : k < l.length) (h : q (l.getD k default) = true) : (l.take (k + 1)).filter q = (l.take k).filter q ++ [l.getD k default] := by
  have e : l.take (k + 1) = l.take k ++ [l.getD k default] := by rw [List.take_add_one, List.getElem?_eq_getElem hk, List.getD_eq_getElem?_getD, List.getElem?_eq_getElem hk]; rfl
  rw [e, xp, if_pos h]
theorem VP {α : Type} [Inhabited α] {l : List α} {k : Nat} {q : α → Bool} (hk : k < l.length) (h : q (l.getD k default) = false) : (l.take (k + 1)).filter q = (l.take k).filter q := by
  have e : l.take (k + 1) = l.take k ++ [l.getD k default] := by rw [List.take_add_one, List.getElem?_eq_getElem hk, List.getD_eq_getElem?_getD, List.getElem?_eq_getElem hk]; rfl
  rw [e, xp, h]; rfl
theorem UJ {d : Dcl} {k : Int × Int} {L : List Ent} (h : L.length ≤ 1000000) : Sta.Ok (yE d k L) := ⟨show InR ((zW k L : Nat) : Int) by have := Xn k L; omega⟩
theorem Uk {d : Dcl} {ty ag : Int} {l : List Ev} {k : Nat} (h : l.length ≤ k) : zM d ((l.take k).filter (qE ty ag)) = (zM d l).filter (qX ty ag) := by rw [List.take_of_length_le h, ZM]
theorem VR {d : Dcl} {l : List Ev} {k : Nat} (h : k < l.length) : ((zM d l).getD k default).ev = l.getD k default := by
  induction l using xP with
  | h0 => cases h
  | h1 l e ih =>
    rw [xk]
    rcases Nat.lt_or_ge k l.length with h1 | h1
    · rw [List.getD_eq_getElem?_getD, List.getD_eq_getElem?_getD, List.getElem?_append_left (by rw [yL]; exact h1), List.getElem?_append_left h1, ← List.getD_eq_getElem?_getD, ← List.getD_eq_getElem?_getD, ih h1]
    · have e1 : k = l.length := by rw [List.length_append, List.length_singleton] at h; omega
      subst e1
      rw [List.getD_eq_getElem?_getD, List.getD_eq_getElem?_getD, List.getElem?_append_right (by rw [yL]; exact Nat.le_refl _), List.getElem?_append_right (Nat.le_refl _), yL, Nat.sub_self]; rfl
theorem VS {d : Dcl} {ty ag : Int} {l : List Ev} {k : Nat} {b : Bool} (h : k < l.length) (hq : qE ty ag (l.getD k default) = b) : qX ty ag ((zM d l).getD k default) = b := by unfold qX; rw [VR h]; exact hq
set_option maxHeartbeats 8000000 in
theorem Xj {G : Nat → Prop} {W w : World} {Rs : List HP} {d : Dcl} {dd0 : Value} (hdd0 : RdS W G dd0 d.types) {dd1 : Value} (hdd1 : RdS W G dd1 d.projs) (od : d.Ok) {n : Int} (hn : InR n) {vl : Value} {l : List Ev} (hl : RdS W G vl l) {no : Int} (hno : InR no) {ty : Int} (hty : InR ty) {ag : Int} (hag : InR ag) (hKN : RdS W G (.slice (some ⟨0, 0, none⟩) 6 6) kindsL) (hS0 : Sep G W Rs w) : Ret Tryd.prog 7 [.agg (d.cells dd0 dd1).toArray, .int .i64 (n), vl, .int .i64 (no), .int .i64 (ty), .int .i64 (ag)] w (fun r w' => r = (.bool true : Value) ∧ Sep G W Rs w') := by
 have hdd0s : _ * 24 ≤ _ := hdd0.small
 have hdd1s : _ * 40 ≤ _ := hdd1.small
 have hls : _ * 96 ≤ _ := hl.small
 have hKNs : _ * 8 ≤ _ := hKN.small
 refine zq (args := [.agg (d.cells dd0 dd1).toArray, .int .i64 (n), vl, .int .i64 (no), .int .i64 (ty), .int .i64 (ag)]) Tryd.func7 rfl rfl ?_
 refine ze ?_
 refine za (by kernel_rfl) (fun _ => ?_)
 refine st (yc (v := .agg (d.cells dd0 dd1).toArray) rfl ?_)
 intro w3 b2 hn1
 have hS4 := hS0.new hn1
 refine st (zd (v := .bool false) rfl ?_)
 refine zg ?_
 refine ze ?_
 refine ze ?_
 refine za (by kernel_rfl) (fun _ => ?_)
 refine st (zl (k := 2) Tryd.isAgg25 Tryd.sizeOf25 rfl rfl (CellsAt.all (hS4.blk (i := 0) rfl)) ?_)
 refine st (zt (f := 20) (vals := [.agg (d.cells dd0 dd1).toArray]) (cap := []) rfl rfl Tryd.call20 (UP (d := d) hdd0 hdd1 od hS4) ?_)
 rintro _ w7 ⟨b5, rfl, hb6, hS8⟩
 refine st (yz (a := b5) rfl ?_)
 refine zg ?_
 cases hc9 : !b5
 ·skip
  try simp only [zk] at hc9
  have hdo := hb6 hc9
  refine zo rfl ?_
  refine zw ?_
  refine ze ?_
  refine za (by kernel_rfl) (fun _ => ?_)
  refine st (zb (v := .int .i64 (n)) rfl ?_)
  refine st (zt (f := 13) (vals := [.int .i64 (n), .int .i64 (64)]) (cap := []) rfl rfl Tryd.call13 (VY (x := n) (n := 64) hn (by first | omega | (refine ⟨?_, ?_⟩ <;> omega)) hS8) ?_)
  rintro _ w12 ⟨q10, rfl, hq11, hS13⟩
  have hr14 : InR ((1 + q10 : Nat) : Int) := by first | omega | (simp only [lens]; omega)
  refine st (yj (r := ((1 + q10 : Nat) : Int)) (k := .i64) (a := 1) (b := ((q10 : Nat) : Int)) rfl rfl (by rw [show (1 + ((q10 : Nat) : Int) : Int) = ((1 + q10 : Nat) : Int) by first | omega | (simp only [lens]; omega)]; exact zY hr14) ?_)
  refine st (zb (v := vl) rfl ?_)
  refine st (zt (f := 22) (vals := [.int .i64 ((1 + q10 : Nat) : Int), vl]) (cap := []) rfl rfl Tryd.call22 (Uz (n := ((1 + q10 : Nat) : Int)) (l := l) (vl := vl) hr14 hl hS13) ?_)
  rintro v15 w19 ⟨_, l216, rfl, h6017, hft18, hS20⟩
  have hr21 := hS20.row (i := 0) rfl
  have hr21s : _ * 96 ≤ _ := hr21.2
  refine st (zd (v := v15) rfl ?_)
  refine zg ?_
  refine ze ?_
  have h60 := h6017
  obtain ⟨G22, hA24, hB25, hS26, hk27⟩ := hS20.lend
  have hrd28 := RowE.rdB hA24 hB25
  have hrd28s : _ * 96 ≤ _ := hrd28.small
  refine za (by kernel_rfl) (fun _ => ?_)
  refine st (zb (v := .int .i64 (no)) rfl ?_)
  refine st (zb (v := v15) rfl ?_)
  refine st (zK (n := l216.length) Tryd.underlying47 rfl hrd28.sl ?_)
  have hr29 : InR ((l216.length + 1 : Nat) : Int) := by first | omega | (simp only [lens]; omega)
  refine st (yj (r := ((l216.length + 1 : Nat) : Int)) (k := .i64) (a := ((l216.length : Nat) : Int)) (b := 1) rfl rfl (by rw [show (((l216.length : Nat) : Int) + 1 : Int) = ((l216.length + 1 : Nat) : Int) by first | omega | (simp only [lens]; omega)]; exact zY hr29) ?_)
  refine st (zt (f := 13) (vals := [.int .i64 (no), .int .i64 ((l216.length + 1 : Nat) : Int)]) (cap := []) rfl rfl Tryd.call13 (VY (x := no) (n := l216.length + 1) hno (by first | omega | (refine ⟨?_, ?_⟩ <;> omega)) hS26) ?_)
  rintro _ w32 ⟨q30, rfl, hq31, hS33⟩
  refine st (zd (v := .int .i64 ((q30 : Nat) : Int)) rfl ?_)
  refine zg ?_
  refine ze ?_
  refine za (by kernel_rfl) (fun _ => ?_)
  refine st (zl (k := 2) Tryd.isAgg25 Tryd.sizeOf25 rfl rfl (CellsAt.all (hS33.blk (i := 0) rfl)) ?_)
  refine st (zb (v := v15) rfl ?_)
  refine st (zt (f := 38) (vals := [.agg (d.cells dd0 dd1).toArray, v15]) (cap := []) rfl rfl Tryd.call38 (Wj (d := d) (l := l216) (vl := v15) (RdS.base hdd0 hB25) (RdS.base hdd1 hB25) od hrd28 (RdS.base hKN hB25) hS33 (hdo) ((by first | omega | (rw [List.length_take]; omega) | exact Nat.le_trans (List.length_filter_le _ _) (by rw [List.length_take]; omega)))) ?_)
  rintro _ w35 ⟨b34, rfl, hS36⟩
  refine st (zd (v := .pointer (some ⟨b34, 0, none⟩)) rfl ?_)
  refine zg ?_
  refine ze ?_
  refine zP ((fun TT pp0 => WF [fun vals wq => Sep G22 w19 (pp0 :: TT) wq, fun vals wq => ∃ (b75 : Nat), (vals 4 = (.pointer (some ⟨b75, 0, none⟩) : Value)) ∧ Sep G22 w19 ((ViewO b75 d (zM d (l216.take q30)) (zM d (l216.take q30))) :: pp0 :: TT) wq]) ((Blk b2 (d.cells dd0 dd1).toArray 25) :: Rs) (ViewO b34 d (zM d l216) (zM d l216))) (AF [Vl 0 (.agg (d.cells dd0 dd1).toArray), Vl 1 (v15), Vl 2 (.int .i64 ((q30 : Nat) : Int)), Vl 3 ((ZC 10 v15 0 q30)), fun _ => True, fun vals => ∀ (b75 : Nat), vals 4 = (.pointer (some ⟨b75, 0, none⟩) : Value) → vals 5 = (.pointer (some ⟨b75, 0, none⟩) : Value)]) [[], [], [], [1, 2], [0, 1, 2, 3], [0, 1, 2, 3, 4]] [4] [(0, 0), (0, 0), (0, 0), (0, 0), (0, 0), (1, 1)] (by kernel_rfl) (by kernel_rfl) (by kernel_rfl) rfl (by kernel_rfl) (by kernel_rfl) (fun _ h1 h2 h3 h4 _ => hS36.same h1 h2 h3 h4) ?_ (yi ⟨dA, dA, dA, dA, dT, fun vals vals' hv h => fun b75 hq0 => (hv 5 (.inl rfl)).trans (h b75 ((hv 4 (.inr (by decide))).symm.trans hq0)), trivial⟩) ⟨?_, ?_, ?_, ?_, ?_, ?_, trivial⟩ ?_
  ·intro k vals vals' w hv h
   have e : ∀ j ∈ ([4] : List Nat), vals' j = vals j := hv
   match k, h with
   | 0, h => exact h
   | 1, h => exact (by simpa only [WF, List.getElem?_cons_zero, List.getElem?_cons_succ, e 4 (by decide)] using h)
   | _ + 2, _ => trivial
  ·intro k86 vals w87 h90 h91 hW89 hA88
   obtain rfl : k86 = 0 := Nat.le_antisymm h91 h90
   have hS92 : Sep _ _ _ _ := hW89
   refine obl rfl ?_
   exact zl (k := 2) Tryd.isAgg25 Tryd.sizeOf25 rfl rfl (CellsAt.all (hS92.blk (i := 1) rfl)) (fun vals' hv _ => ⟨rfl, hv⟩)
  ·intro k93 vals w94 h97 h98 hW96 hA95
   refine obl rfl ?_
   exact zb (v := v15) rfl (fun vals' hv _ => ⟨rfl, hv⟩)
  ·intro k99 vals w100 h103 h104 hW102 hA101
   refine obl rfl ?_
   exact zb (v := .int .i64 ((q30 : Nat) : Int)) rfl (fun vals' hv _ => ⟨rfl, hv⟩)
  ·intro k105 vals w106 h109 h110 hW108 hA107
   obtain rfl : k105 = 0 := Nat.le_antisymm h110 h109
   have hS111 : Sep _ _ _ _ := hW108
   have e112 := hA107 1 (by decide)
   have e113 := hA107 2 (by decide)
   refine obl rfl ?_
   exact Zt (j := q30) (k := 10) (n := l216.length) Tryd.underlying47 Tryd.sizeOf59 e112 hrd28.sl e113 (by first | omega | (simp only [lens]; omega)) (fun vals' hv _ => ⟨rfl, hv⟩)
  ·intro k65 vals w66 h69 h70 hW68 hA67
   obtain rfl : k65 = 0 := Nat.le_antisymm h70 h69
   have hS71 : Sep _ _ _ _ := hW68
   have e72 := hA67 0 (by decide)
   have e73 := hA67 3 (by decide)
   refine obl rfl ?_
   have h74 := RdS.sub_hi (j := q30) hrd28 (by first | omega | (simp only [List.length_drop, List.length_take]; omega))
   have h74s : _ * 96 ≤ _ := h74.small
   refine (zt (f := 38) (vals := [.agg (d.cells dd0 dd1).toArray, (ZC 10 v15 0 q30)]) (cap := []) rfl (yX ⟨e72, e73, trivial⟩) Tryd.call38 (Wj (d := d) (l := l216.take q30) (vl := (ZC 10 v15 0 q30)) (RdS.base hdd0 hB25) (RdS.base hdd1 hB25) od h74 (RdS.base hKN hB25) hS71 (hdo) ((by first | omega | (rw [List.length_take]; omega) | exact Nat.le_trans (List.length_filter_le _ _) (by rw [List.length_take]; omega)))) ?_)
   rintro _ w76 ⟨b75, rfl, hS77⟩
   intro vals' hv hv'
   refine ⟨?_, trivial⟩
   show ∃ (b75 : Nat), (vals' 4 = (.pointer (some ⟨b75, 0, none⟩) : Value)) ∧ Sep G22 w19 ((ViewO b75 d (zM d (l216.take q30)) (zM d (l216.take q30))) :: (ViewO b34 d (zM d l216) (zM d l216)) :: (Blk b2 (d.cells dd0 dd1).toArray 25) :: Rs) w76
   exact ⟨b75, hv, hS77⟩
  ·intro k114 vals w115 h118 h119 hW117 hA116
   obtain rfl : k114 = 1 := Nat.le_antisymm h119 h118
   obtain ⟨b75, he78, hS120⟩ := hW117
   refine obl rfl ?_
   refine zd (v := .pointer (some ⟨b75, 0, none⟩)) he78 (fun vals' hv hv' => ⟨rfl, ?_⟩)
   intro b75q hq0
   rw [hv' 4 (by decide)] at hq0; cases he78.symm.trans hq0
   exact hv
  intro vals w121 hW122 hA123
  obtain ⟨b75, he78, hS124⟩ := hW122
  have e125 : vals 5 = (.pointer (some ⟨b75, 0, none⟩) : Value) := hA123 5 (by decide) b75 he78
  refine yh (kv := [(0, .agg (d.cells dd0 dd1).toArray), (1, .int .i64 (n)), (2, v15), (3, .int .i64 ((q30 : Nat) : Int)), (4, .int .i64 (ty)), (5, .int .i64 (ag)), (6, .pointer (some ⟨b2, 0, none⟩)), (12, .bool false), (24, .agg (d.cells dd0 dd1).toArray), (25, .bool b5), (26, .bool false), (28, .int .i64 (n)), (29, .int .i64 ((q10 : Nat) : Int)), (30, .int .i64 ((1 + q10 : Nat) : Int)), (31, vl), (32, v15), (33, .int .i64 (no)), (34, v15), (35, .int .i64 ((l216.length : Nat) : Int)), (36, .int .i64 ((l216.length + 1 : Nat) : Int)), (37, .int .i64 ((q30 : Nat) : Int)), (38, .agg (d.cells dd0 dd1).toArray), (39, v15), (40, .pointer (some ⟨b34, 0, none⟩)), (13, .pointer (some ⟨b34, 0, none⟩)), (14, .pointer (some ⟨b75, 0, none⟩))]) ⟨rfl, rfl, rfl, rfl, rfl, rfl, rfl, rfl, rfl, rfl, rfl, rfl, rfl, rfl, rfl, rfl, rfl, rfl, rfl, rfl, rfl, rfl, rfl, rfl, rfl, (by exact e125), trivial⟩ (fun ρw121 => ?_)
  refine zg ?_
  refine ze ?_
  refine ze ?_
  refine zD (by kernel_rfl) ?_
  refine st (zb (v := .pointer (some ⟨b34, 0, none⟩)) rfl ?_)
  refine st (xE (b := b34) (o := 0) Tryd.underlying51 rfl ?_)
  refine st (zb (v := .bool false) rfl ?_)
  refine sty rfl rfl (zb (v := .pointer (some ⟨b75, 0, none⟩)) rfl ?_)
  refine sty rfl rfl (xE (b := b75) (o := 0) Tryd.underlying51 rfl ?_)
  refine st (zT (v := .bool false) rfl rfl ?_)
  refine zg ?_
  refine zo rfl ?_
  refine zw ?_
  refine ze ?_
  refine za (by kernel_rfl) (fun _ => ?_)
  refine st (zb (v := .pointer (some ⟨b34, 0, none⟩)) rfl ?_)
  have hS126 := hS124.mv1
  refine st (zt (f := 36) (vals := [.pointer (some ⟨b34, 0, none⟩)]) (cap := []) rfl rfl Tryd.call36 (xH  hS126) ?_)
  rintro v127 w128 ⟨_, rfl, hS129⟩
  have hr130 := hS129.row (i := 1) rfl
  have hr130s : _ * 120 ≤ _ := hr130.2
  refine st (zd (v := v127) rfl ?_)
  refine zg ?_
  refine ze ?_
  refine ze ?_
  have hS131 := hS129.mv1
  have hXl : ((zM d l216)).length = l216.length := yL _ _
  obtain ⟨X, hX⟩ : ∃ z, z = (zM d l216) := ⟨_, rfl⟩
  rw [← hX] at hS131 hXl
  have hr132 := hS131.row (i := 0) rfl
  have hr132s : _ * 120 ≤ _ := hr132.2
  obtain ⟨G133, hA135, hB136, hS137, hk138⟩ := hS131.lend
  have hrd139 := RowE.rd hA135
  have hrd139s : _ * 120 ≤ _ := hrd139.small
  refine zP ((fun TT pp0 pp1 => WF [fun vals wq => Sep G133 w128 (pp0 :: pp1 :: TT) wq, fun vals wq => ∃ (v202 : Value), (vals 7 = (v202 : Value)) ∧ Sep G133 w128 (pp1 :: (RwN v202 (zM d (l216.take q30))) :: pp0 :: TT) wq, fun vals wq => ∃ (v202 : Value), (vals 7 = (v202 : Value)) ∧ (vals 11 = (.bool (decide ((zM d (l216.take q30)) = (X.take q30))) : Value)) ∧ Sep G133 w128 ((RwN v202 (zM d (l216.take q30))) :: pp1 :: pp0 :: TT) wq]) ((Blk b2 (d.cells dd0 dd1).toArray 25) :: Rs) (ViewO b34 d X X) (ViewO b75 d (zM d (l216.take q30)) (zM d (l216.take q30)))) (AF [Vl 0 (v127), Vl 1 (.int .i64 ((X.length : Nat) : Int)), Vl 2 (v15), Vl 3 (.int .i64 ((l216.length : Nat) : Int)), Vl 4 (.bool false), Vl 5 (.bool false), Vl 6 (.pointer (some ⟨b75, 0, none⟩)), fun _ => True, Vl 8 (v127), Vl 9 (.int .i64 ((q30 : Nat) : Int)), Vl 10 ((ZC 13 v127 0 q30)), fun _ => True, Vl 12 (.bool false), Vl 13 (.bool false)]) [[], [0], [], [2], [0, 1, 2, 3], [0, 1, 2, 3, 4], [0, 1, 2, 3, 4, 5], [0, 1, 2, 3, 4, 5, 6], [0, 1, 2, 3, 4, 5], [0, 1, 2, 3, 4, 5], [0, 1, 2, 3, 4, 5, 8, 9], [0, 1, 2, 3, 4, 5, 6, 7, 8, 9, 10], [0, 1, 2, 3, 4, 5, 6, 7, 8, 9, 10, 11], [0, 1, 2, 3, 4, 5, 6, 7, 8, 9, 10, 11, 12]] [7, 11] [(0, 0), (0, 0), (0, 0), (0, 0), (0, 0), (0, 0), (0, 0), (0, 0), (0, 1), (0, 1), (0, 1), (1, 1), (2, 2), (2, 2)] (by kernel_rfl) (by kernel_rfl) (by kernel_rfl) rfl (by kernel_rfl) (by kernel_rfl) (fun _ h1 h2 h3 h4 _ => hS137.same h1 h2 h3 h4) ?_ (yi ⟨dA, dA, dA, dA, dA, dA, dA, dT, dA, dA, dA, dT, dA, dA, trivial⟩) ⟨?_, ?_, ?_, ?_, ?_, ?_, ?_, ?_, ?_, ?_, ?_, ?_, ?_, ?_, trivial⟩ ?_
  ·intro k vals vals' w hv h
   have e : ∀ j ∈ ([7, 11] : List Nat), vals' j = vals j := hv
   match k, h with
   | 0, h => exact h
   | 1, h => exact (by simpa only [WF, List.getElem?_cons_zero, List.getElem?_cons_succ, e 7 (by decide)] using h)
   | 2, h => exact (by simpa only [WF, List.getElem?_cons_zero, List.getElem?_cons_succ, e 7 (by decide), e 11 (by decide)] using h)
   | _ + 3, _ => trivial
  ·intro k270 vals w271 h274 h275 hW273 hA272
   refine obl rfl ?_
   exact zb (v := v127) rfl (fun vals' hv _ => ⟨rfl, hv⟩)
  ·intro k276 vals w277 h280 h281 hW279 hA278
   obtain rfl : k276 = 0 := Nat.le_antisymm h281 h280
   have hS282 : Sep _ _ _ _ := hW279
   have e283 := hA278 0 (by decide)
   refine obl rfl ?_
   exact zK (n := X.length) Tryd.underlying66 e283 hrd139.sl (fun vals' hv _ => ⟨rfl, hv⟩)
  ·intro k284 vals w285 h288 h289 hW287 hA286
   refine obl rfl ?_
   exact zb (v := v15) rfl (fun vals' hv _ => ⟨rfl, hv⟩)
  ·intro k290 vals w291 h294 h295 hW293 hA292
   obtain rfl : k290 = 0 := Nat.le_antisymm h295 h294
   have hS296 : Sep _ _ _ _ := hW293
   have e297 := hA292 2 (by decide)
   refine obl rfl ?_
   exact zK (n := l216.length) Tryd.underlying47 e297 (RdS.base hrd28 hB136).sl (fun vals' hv _ => ⟨rfl, hv⟩)
  ·intro k298 vals w299 h302 h303 hW301 hA300
   obtain rfl : k298 = 0 := Nat.le_antisymm h303 h302
   have hS304 : Sep _ _ _ _ := hW301
   have e305 := hA300 1 (by decide)
   have e306 := hA300 3 (by decide)
   refine obl rfl ?_
   have hl307 : (!decide (((X.length : Nat) : Int) = ((l216.length : Nat) : Int))) = false := (by rw [hXl]; simp)
   exact yw (k := .i64) (a := ((X.length : Nat) : Int)) (b := ((l216.length : Nat) : Int)) e305 e306 (fun vals' hv _ => ⟨rfl, hv.trans (congrArg Value.bool hl307)⟩)
  ·intro k308 vals w309 h312 h313 hW311 hA310
   have e314 := hA310 4 (by decide)
   refine obl rfl ?_
   exact zb (v := .bool false) e314 (fun vals' hv _ => ⟨rfl, hv⟩)
  ·intro k315 vals w316 h319 h320 hW318 hA317
   have e321 := hA317 5 (by decide)
   refine zy rfl rfl e321 (fun _ => ?_) (fun hb => absurd rfl hb)
   exact zb (v := .pointer (some ⟨b75, 0, none⟩)) rfl (fun vals' hv _ => ⟨rfl, hv⟩)
  ·intro k192 vals w193 h196 h197 hW195 hA194
   obtain rfl : k192 = 0 := Nat.le_antisymm h197 h196
   have hS198 : Sep _ _ _ _ := hW195
   have e199 := hA194 5 (by decide)
   have e200 := hA194 6 (by decide)
   refine zy rfl rfl e199 (fun _ => ?_) (fun hb => absurd rfl hb)
   have hS201 := hS198.mv1
   refine (zt (f := 36) (vals := [.pointer (some ⟨b75, 0, none⟩)]) (cap := []) rfl (yX ⟨e200, trivial⟩) Tryd.call36 (xH  hS201) ?_)
   rintro v202 w203 ⟨_, rfl, hS204⟩
   have hr205 := hS204.row (i := 1) rfl
   have hr205s : _ * 120 ≤ _ := hr205.2
   intro vals' hv hv'
   refine ⟨?_, trivial⟩
   show ∃ (v202 : Value), (vals' 7 = (v202 : Value)) ∧ Sep G133 w128 ((ViewO b75 d (zM d (l216.take q30)) (zM d (l216.take q30))) :: (RwN v202 (zM d (l216.take q30))) :: (ViewO b34 d X X) :: (Blk b2 (d.cells dd0 dd1).toArray 25) :: Rs) w203
   exact ⟨v202, hv, hS204⟩
  ·intro k322 vals w323 h326 h327 hW325 hA324
   have e328 := hA324 5 (by decide)
   refine zy rfl rfl e328 (fun _ => ?_) (fun hb => absurd rfl hb)
   exact zb (v := v127) rfl (fun vals' hv _ => ⟨rfl, hv⟩)
  ·intro k329 vals w330 h333 h334 hW332 hA331
   have e335 := hA331 5 (by decide)
   refine zy rfl rfl e335 (fun _ => ?_) (fun hb => absurd rfl hb)
   exact zb (v := .int .i64 ((q30 : Nat) : Int)) rfl (fun vals' hv _ => ⟨rfl, hv⟩)
  ·intro k336 vals w337 h340 h341 hW339 hA338
   have hkk : k336 = 0 ∨ k336 = 1 := by have h1 : 0 ≤ k336 := h340; have h2 : k336 ≤ 1 := h341; omega
   rcases hkk with rfl | rfl
   ·skip
    have hS342 : Sep _ _ _ _ := hW339
    have e343 := hA338 5 (by decide)
    have e344 := hA338 8 (by decide)
    have e345 := hA338 9 (by decide)
    refine zy rfl rfl e343 (fun _ => ?_) (fun hb => absurd rfl hb)
    exact Zt (j := q30) (k := 13) (n := X.length) Tryd.underlying66 Tryd.sizeOf62 e344 hrd139.sl e345 (by first | omega | (simp only [lens]; omega)) (fun vals' hv _ => ⟨rfl, hv⟩)
   ·skip
    obtain ⟨v202, he206, hS346⟩ := hW339
    have e347 := hA338 5 (by decide)
    have e348 := hA338 8 (by decide)
    have e349 := hA338 9 (by decide)
    refine zy rfl rfl e347 (fun _ => ?_) (fun hb => absurd rfl hb)
    exact Zt (j := q30) (k := 13) (n := X.length) Tryd.underlying66 Tryd.sizeOf62 e348 hrd139.sl e349 (by first | omega | (simp only [lens]; omega)) (fun vals' hv _ => ⟨rfl, hv⟩)
  ·intro k231 vals w232 h235 h236 hW234 hA233
   obtain rfl : k231 = 1 := Nat.le_antisymm h236 h235
   obtain ⟨v202, he206, hS237⟩ := hW234
   have e238 := hA233 5 (by decide)
   have e239 := hA233 10 (by decide)
   refine zy rfl rfl e238 (fun _ => ?_) (fun hb => absurd rfl hb)
   have hS240 := hS237.mv1
   obtain ⟨G241, hA243, hB244, hS245, hk246⟩ := hS240.lend
   have hrd247 := RowE.rd hA243
   have hrd247s : _ * 120 ≤ _ := hrd247.small
   have h248 := RdS.sub_hi (j := q30) (RdS.base hrd139 hB244) (by first | omega | (simp only [List.length_drop, List.length_take]; omega))
   have h248s : _ * 120 ≤ _ := h248.small
   refine (zt (f := 31) (vals := [v202, (ZC 13 v127 0 q30)]) (cap := []) rfl (yX ⟨he206, e239, trivial⟩) Tryd.call31 (Zk (a := (zM d (l216.take q30))) (va := v202) (b := X.take q30) (vb := (ZC 13 v127 0 q30)) hrd247 h248 hS245) ?_)
   rintro _ w249 ⟨rfl, hS250⟩
   have hS251 := hk246 _ _ hS250
   intro vals' hv hv'
   refine ⟨?_, trivial⟩
   show ∃ (v202 : Value), (vals' 7 = (v202 : Value)) ∧ (vals' 11 = (.bool (decide ((zM d (l216.take q30)) = (X.take q30))) : Value)) ∧ Sep G133 w128 ((RwN v202 (zM d (l216.take q30))) :: (ViewO b75 d (zM d (l216.take q30)) (zM d (l216.take q30))) :: (ViewO b34 d X X) :: (Blk b2 (d.cells dd0 dd1).toArray 25) :: Rs) w249
   exact ⟨v202, (by rw [hv' 7 (by decide)]; exact he206), hv, hS251⟩
  ·intro k350 vals w351 h354 h355 hW353 hA352
   obtain rfl : k350 = 2 := Nat.le_antisymm h355 h354
   obtain ⟨v202, he206, he252, hS356⟩ := hW353
   have e357 := hA352 5 (by decide)
   refine zy rfl rfl e357 (fun _ => ?_) (fun hb => absurd rfl hb)
   have hl358 : (!(decide ((zM d (l216.take q30)) = (X.take q30)))) = false := (by rw [hX, YS]; simp)
   exact yz (a := decide ((zM d (l216.take q30)) = (X.take q30))) he252 (fun vals' hv _ => ⟨rfl, hv.trans (congrArg Value.bool hl358)⟩)
  ·intro k359 vals w360 h363 h364 hW362 hA361
   have e365 := hA361 5 (by decide)
   have e366 := hA361 12 (by decide)
   refine obl rfl ?_
   exact zT (v := .bool false) e365 e366 (fun vals' hv _ => ⟨rfl, hv⟩)
  intro vals w367 hW368 hA369
  obtain ⟨v202, he206, he252, hS370⟩ := hW368
  have e371 := hA369 13 (by decide)
  refine yh (kv := [(0, .agg (d.cells dd0 dd1).toArray), (1, .int .i64 (n)), (2, v15), (3, .int .i64 ((q30 : Nat) : Int)), (4, .int .i64 (ty)), (5, .int .i64 (ag)), (6, .pointer (some ⟨b2, 0, none⟩)), (12, .bool false), (24, .agg (d.cells dd0 dd1).toArray), (25, .bool b5), (26, .bool false), (28, .int .i64 (n)), (29, .int .i64 ((q10 : Nat) : Int)), (30, .int .i64 ((1 + q10 : Nat) : Int)), (31, vl), (32, v15), (33, .int .i64 (no)), (34, v15), (35, .int .i64 ((l216.length : Nat) : Int)), (36, .int .i64 ((l216.length + 1 : Nat) : Int)), (37, .int .i64 ((q30 : Nat) : Int)), (38, .agg (d.cells dd0 dd1).toArray), (39, v15), (40, .pointer (some ⟨b34, 0, none⟩)), (13, .pointer (some ⟨b34, 0, none⟩)), (14, .pointer (some ⟨b75, 0, none⟩)), (46, .pointer (some ⟨b34, 0, none⟩)), (47, .bool false), (48, .bool false), (49, .pointer (some ⟨b75, 0, none⟩)), (50, .bool false), (51, .bool false), (52, .pointer (some ⟨b34, 0, none⟩)), (53, v127), (15, v127), (67, .bool false)]) ⟨rfl, rfl, rfl, rfl, rfl, rfl, rfl, rfl, rfl, rfl, rfl, rfl, rfl, rfl, rfl, rfl, rfl, rfl, rfl, rfl, rfl, rfl, rfl, rfl, rfl, rfl, rfl, rfl, rfl, rfl, rfl, rfl, rfl, rfl, rfl, (by exact e371), trivial⟩ (fun ρw367 => ?_)
  refine zg ?_
  refine zo rfl ?_
  refine zw ?_
  refine ze ?_
  refine za (by kernel_rfl) (fun _ => ?_)
  refine st (zd (v := (.slice none 0 0)) rfl ?_)
  refine zg ?_
  refine ze ?_
  refine za (by kernel_rfl) (fun _ => ?_)
  refine st (zd (v := (.slice none 0 0)) rfl ?_)
  refine zg ?_
  refine ze ?_
  refine ze ?_
  refine za (by kernel_rfl) (fun _ => ?_)
  refine st (zd (v := .int .i64 (0)) rfl ?_)
  refine zg ?_
  refine zA ?_
  have hS372 : Sep G133 w128 ((RowE (α := Ev) (shr G133 w128) 59 (.slice none 0 0) ([] : List Ev)) :: (RwN v202 (zM d (l216.take q30))) :: (ViewO b75 d (zM d (l216.take q30)) (zM d (l216.take q30))) :: (ViewO b34 d X X) :: (Blk b2 (d.cells dd0 dd1).toArray 25) :: Rs) w367 := hS370.rowNil (shr G133 w128) 59
  have hS373 : Sep G133 w128 ((RowE (α := Ent) (shr G133 w128) 62 (.slice none 0 0) ([] : List Ent)) :: (RowE (α := Ev) (shr G133 w128) 59 (.slice none 0 0) ([] : List Ev)) :: (RwN v202 (zM d (l216.take q30))) :: (ViewO b75 d (zM d (l216.take q30)) (zM d (l216.take q30))) :: (ViewO b34 d X X) :: (Blk b2 (d.cells dd0 dd1).toArray 25) :: Rs) w367 := hS372.rowNil (shr G133 w128) 62
  refine yu (fun mq σ wq => ∃ (k : Nat) (vo : Value) (vw : Value) (ρ : Env), mq = l216.length - k ∧ σ = yv ρ [(2, v15), (3, .int .i64 ((q30 : Nat) : Int)), (4, .int .i64 (ty)), (5, .int .i64 (ag)), (6, .pointer (some ⟨b2, 0, none⟩)), (13, .pointer (some ⟨b34, 0, none⟩)), (14, .pointer (some ⟨b75, 0, none⟩)), (15, v127), (18, .int .i64 ((k : Nat) : Int)), (16, vo), (17, vw)] ∧ (k ≤ l216.length) ∧ Sep G133 w128 ((RowE (α := Ent) (shr G133 w128) 62 vw ((X.take k).filter (qX ty ag))) :: (RowE (α := Ev) (shr G133 w128) 59 vo ((l216.take k).filter (qE ty ag))) :: (RwN v202 (zM d (l216.take q30))) :: (ViewO b75 d (zM d (l216.take q30)) (zM d (l216.take q30))) :: (ViewO b34 d X X) :: (Blk b2 (d.cells dd0 dd1).toArray 25) :: Rs) wq) ⟨0, (.slice none 0 0), (.slice none 0 0), _, rfl, zr ⟨rfl, rfl, rfl, rfl, rfl, rfl, rfl, rfl, rfl, rfl, rfl, trivial⟩, Nat.zero_le _, hS373⟩ ?_
  rintro m375 σ376 w374 ⟨k, vo, vw, ρl1, rfl, rfl, hkk, hS377⟩
  have hr378 := hS377.row (i := 0) rfl
  have hr378s : _ * 120 ≤ _ := hr378.2
  have hr379 := hS377.row (i := 1) rfl
  have hr379s : _ * 96 ≤ _ := hr379.2
  refine ze ?_
  refine ze ?_
  refine za (by kernel_rfl) (fun _ => ?_)
  refine st (zb (v := .int .i64 ((k : Nat) : Int)) rfl ?_)
  refine st (zb (v := v15) rfl ?_)
  refine st (zK (n := l216.length) Tryd.underlying47 rfl (RdS.base hrd28 hB136).sl ?_)
  refine st (zU (k := .i64) (a := ((k : Nat) : Int)) (b := ((l216.length : Nat) : Int)) rfl rfl ?_)
  refine zg ?_
  cases hc380 : decide (((k : Nat) : Int) < ((l216.length : Nat) : Int))
  ·skip
   have hc380 := of_decide_eq_false hc380
   refine zo rfl ?_
   refine yt ?_
   refine yn ?_
   refine ze ?_
   refine za (by kernel_rfl) (fun _ => ?_)
   refine st (zl (k := 2) Tryd.isAgg25 Tryd.sizeOf25 rfl rfl (CellsAt.all (hS377.blk (i := 5) rfl)) ?_)
   refine st (zb (v := vo) rfl ?_)
   have hS381 := hS377.mv1
   obtain ⟨G382, hA384, hB385, hS386, hk387⟩ := hS381.lend
   have hrd388 := RowE.rdB hA384 hB385
   have hrd388s : _ * 96 ≤ _ := hrd388.small
   refine st (zt (f := 38) (vals := [.agg (d.cells dd0 dd1).toArray, vo]) (cap := []) rfl rfl Tryd.call38 (Wj (d := d) (l := ((l216.take k).filter (qE ty ag))) (vl := vo) (RdS.base (RdS.base (RdS.base hdd0 hB25) hB136) hB385) (RdS.base (RdS.base (RdS.base hdd1 hB25) hB136) hB385) od hrd388 (RdS.base (RdS.base (RdS.base hKN hB25) hB136) hB385) hS386 (hdo) ((by first | omega | (rw [List.length_take]; omega) | exact Nat.le_trans (List.length_filter_le _ _) (by rw [List.length_take]; omega)))) ?_)
   rintro _ w390 ⟨b389, rfl, hS391⟩
   have hS392 := hk387 _ _ hS391
   refine st (zd (v := .pointer (some ⟨b389, 0, none⟩)) rfl ?_)
   refine zg ?_
   refine ze ?_
   refine ze ?_
   refine zD (by kernel_rfl) ?_
   refine st (zb (v := .pointer (some ⟨b389, 0, none⟩)) rfl ?_)
   refine st (xE (b := b389) (o := 0) Tryd.underlying51 rfl ?_)
   refine st (zb (v := .bool false) rfl ?_)
   refine sty rfl rfl (zb (v := .pointer (some ⟨b389, 0, none⟩)) rfl ?_)
   have hS393 := hS392.mv1
   refine sty rfl rfl (zt (f := 36) (vals := [.pointer (some ⟨b389, 0, none⟩)]) (cap := []) rfl rfl Tryd.call36 (xH  hS393) ?_)
   rintro v394 w395 ⟨_, rfl, hS396⟩
   have hr397 := hS396.row (i := 1) rfl
   have hr397s : _ * 120 ≤ _ := hr397.2
   refine sty rfl rfl (zb (v := vw) rfl ?_)
   have hS398 := hS396.mv1
   obtain ⟨G399, hA401, hB402, hS403, hk404⟩ := hS398.lend
   have hrd405 := RowE.rd hA401
   have hrd405s : _ * 120 ≤ _ := hrd405.small
   have hS406 := hS403.mv2
   have hS413 : Sep G399 w395 ((RowE (α := Ent) (shr G399 w395) 62 vw ((X.take k).filter (qX ty ag))) :: (ViewO b389 d (zM d ((l216.take k).filter (qE ty ag))) (zM d ((l216.take k).filter (qE ty ag)))) :: (RowE (α := Ev) (shr G133 w128) 59 vo ((l216.take k).filter (qE ty ag))) :: (RwN v202 (zM d (l216.take q30))) :: (ViewO b75 d (zM d (l216.take q30)) (zM d (l216.take q30))) :: (ViewO b34 d X X) :: (Blk b2 (d.cells dd0 dd1).toArray 25) :: Rs) w395 := hS406.rebase (i := 0) rfl hB402
   obtain ⟨G407, hA409, hB410, hS411, hk412⟩ := hS413.lend
   have hrd414 := RowE.rdB hA409 hB410
   have hrd414s : _ * 120 ≤ _ := hrd414.small
   refine sty rfl rfl (zt (f := 31) (vals := [v394, vw]) (cap := []) rfl rfl Tryd.call31 (Zk (a := (zM d ((l216.take k).filter (qE ty ag)))) (va := v394) (b := ((X.take k).filter (qX ty ag))) (vb := vw) (RdS.base hrd405 hB410) hrd414 hS411) ?_)
   rintro _ w415 ⟨rfl, hS416⟩
   have hS417 := hk412 _ _ hS416
   have hS418 := hk404 _ _ hS417
   have hS419 : Sep G133 w128 ((RwN v394 (zM d ((l216.take k).filter (qE ty ag)))) :: (ViewO b389 d (zM d ((l216.take k).filter (qE ty ag))) (zM d ((l216.take k).filter (qE ty ag)))) :: (RowE (α := Ev) (shr G133 w128) 59 vo ((l216.take k).filter (qE ty ag))) :: (RwN v202 (zM d (l216.take q30))) :: (ViewO b75 d (zM d (l216.take q30)) (zM d (l216.take q30))) :: (ViewO b34 d X X) :: (Blk b2 (d.cells dd0 dd1).toArray 25) :: Rs) w415 := hS418.sel 8 [0, 2, 3, 4, 5, 6, 7] (Nat.le_add_left _ _) rfl rfl
   have hkn420 : (decide ((zM d ((l216.take k).filter (qE ty ag))) = ((X.take k).filter (qX ty ag)))) = true := (decide_eq_true (by rw [ZM, YS, hX]))
   rw [hkn420]
   refine sty rfl rfl (yz (a := true) rfl ?_)
   refine st (zT (v := .bool false) rfl rfl ?_)
   refine zg ?_
   refine zo rfl ?_
   refine zw ?_
   refine ze ?_
   refine za (by kernel_rfl) (fun _ => ?_)
   refine st (zb (v := .pointer (some ⟨b389, 0, none⟩)) rfl ?_)
   refine st (zb (v := .int .i64 (ty)) rfl ?_)
   refine st (zb (v := .int .i64 (ag)) rfl ?_)
   have hS421 := hS419.mv1
   refine st (zt (f := 32) (vals := [.pointer (some ⟨b389, 0, none⟩), .int .i64 (ty), .int .i64 (ag)]) (cap := []) rfl rfl Tryd.call32 (Ya (ty := ty) (no := ag) hty hag hS421) ?_)
   rintro _ w423 ⟨v422, rfl, hS424⟩
   have hr425 := hS424.row (i := 1) rfl
   have hr425s : _ * 32 ≤ _ := hr425.2
   refine st (zb (v := .tuple #[.agg ((yE d (ty, ag) (zM d ((l216.take k).filter (qE ty ag)))).cells v422).toArray, .bool ((zj d (zM d ((l216.take k).filter (qE ty ag))) (ty, ag)).isSome)]) rfl ?_)
   refine st (zF (vs := [.agg ((yE d (ty, ag) (zM d ((l216.take k).filter (qE ty ag)))).cells v422).toArray, .bool ((zj d (zM d ((l216.take k).filter (qE ty ag))) (ty, ag)).isSome)]) (i := 0) (v := .agg ((yE d (ty, ag) (zM d ((l216.take k).filter (qE ty ag)))).cells v422).toArray) rfl rfl ?_)
   refine st (zF (vs := [.agg ((yE d (ty, ag) (zM d ((l216.take k).filter (qE ty ag)))).cells v422).toArray, .bool ((zj d (zM d ((l216.take k).filter (qE ty ag))) (ty, ag)).isSome)]) (i := 1) (v := .bool ((zj d (zM d ((l216.take k).filter (qE ty ag))) (ty, ag)).isSome)) rfl rfl ?_)
   refine st (zI Tryd.zeroValue68 ?_)
   intro w428 b427 hn426
   have hS429 := hS424.new hn426
   refine stn (zE (v := .agg ((yE d (ty, ag) (zM d ((l216.take k).filter (qE ty ag)))).cells v422).toArray) (c' := ((yE d (ty, ag) (zM d ((l216.take k).filter (qE ty ag)))).cells v422).toArray) Tryd.sizeOf68 rfl rfl (hS429.blk (i := 0) rfl) (yp ⟨rfl, hr425.1.one, trivial⟩) (Nat.le_of_ble_eq_true rfl) rfl ?_)
   intro w430 hp431
   have hS432 := hS429.pt0 hp431
   refine st (zd (v := .bool ((zj d (zM d ((l216.take k).filter (qE ty ag))) (ty, ag)).isSome)) rfl ?_)
   refine zg ?_
   refine ze ?_
   refine za (by kernel_rfl) (fun _ => ?_)
   refine st (zb (v := .pointer (some ⟨b34, 0, none⟩)) rfl ?_)
   refine st (zb (v := .int .i64 (ty)) rfl ?_)
   refine st (zb (v := .int .i64 (ag)) rfl ?_)
   have hS433 := hS432.mv7
   refine st (zt (f := 32) (vals := [.pointer (some ⟨b34, 0, none⟩), .int .i64 (ty), .int .i64 (ag)]) (cap := []) rfl rfl Tryd.call32 (Ya (ty := ty) (no := ag) hty hag hS433) ?_)
   rintro _ w435 ⟨v434, rfl, hS436⟩
   have hr437 := hS436.row (i := 1) rfl
   have hr437s : _ * 32 ≤ _ := hr437.2
   refine st (zb (v := .tuple #[.agg ((yE d (ty, ag) X).cells v434).toArray, .bool ((zj d X (ty, ag)).isSome)]) rfl ?_)
   refine st (zF (vs := [.agg ((yE d (ty, ag) X).cells v434).toArray, .bool ((zj d X (ty, ag)).isSome)]) (i := 0) (v := .agg ((yE d (ty, ag) X).cells v434).toArray) rfl rfl ?_)
   refine st (zF (vs := [.agg ((yE d (ty, ag) X).cells v434).toArray, .bool ((zj d X (ty, ag)).isSome)]) (i := 1) (v := .bool ((zj d X (ty, ag)).isSome)) rfl rfl ?_)
   refine st (zI Tryd.zeroValue68 ?_)
   intro w440 b439 hn438
   have hS441 := hS436.new hn438
   refine stn (zE (v := .agg ((yE d (ty, ag) X).cells v434).toArray) (c' := ((yE d (ty, ag) X).cells v434).toArray) Tryd.sizeOf68 rfl rfl (hS441.blk (i := 0) rfl) (yp ⟨rfl, hr437.1.one, trivial⟩) (Nat.le_of_ble_eq_true rfl) rfl ?_)
   intro w442 hp443
   have hS444 := hS441.pt0 hp443
   refine st (zd (v := .bool ((zj d X (ty, ag)).isSome)) rfl ?_)
   refine zg ?_
   refine ze ?_
   refine zD (by kernel_rfl) ?_
   refine st (zb (v := .bool ((zj d (zM d ((l216.take k).filter (qE ty ag))) (ty, ag)).isSome)) rfl ?_)
   refine st (zb (v := .bool ((zj d X (ty, ag)).isSome)) rfl ?_)
   refine st (WY (a := (zj d (zM d ((l216.take k).filter (qE ty ag))) (ty, ag)).isSome) (b := (zj d X (ty, ag)).isSome) Tryd.underlying4 rfl rfl ?_)
   have hkn445 : (((zj d (zM d ((l216.take k).filter (qE ty ag))) (ty, ag)).isSome) == ((zj d X (ty, ag)).isSome)) = true := (by rw [Uk (by omega), Yi, hX]; simp)
   rw [hkn445]
   refine st (zb (v := .bool true) rfl ?_)
   refine sty rfl rfl (zl (k := 2) Tryd.isAgg68 Tryd.sizeOf68 rfl rfl (CellsAt.all (hS444.blk (i := 3) rfl)) ?_)
   refine sty rfl rfl (zl (k := 2) Tryd.isAgg68 Tryd.sizeOf68 rfl rfl (CellsAt.all (hS444.blk (i := 0) rfl)) ?_)
   have hS446 := hS444.mv5
   obtain ⟨G447, hA449, hB450, hS451, hk452⟩ := hS446.lend
   have hrd453 := RowE.rd hA449
   have hrd453s : _ * 32 ≤ _ := hrd453.small
   have hS454 := hS451.mv2
   obtain ⟨G455, hA457, hB458, hS459, hk460⟩ := hS454.lend
   have hrd461 := RowE.rd hA457
   have hrd461s : _ * 32 ≤ _ := hrd461.small
   refine sty rfl rfl (zt (f := 34) (vals := [.agg ((yE d (ty, ag) (zM d ((l216.take k).filter (qE ty ag)))).cells v422).toArray, .agg ((yE d (ty, ag) X).cells v434).toArray]) (cap := []) rfl rfl Tryd.call34 (XT (x := (yE d (ty, ag) (zM d ((l216.take k).filter (qE ty ag))))) (y := (yE d (ty, ag) X)) (RdS.base hrd453 hB458) (UJ (by first | omega | (rw [yL]; omega) | (rw [yL]; exact Nat.le_trans (List.length_filter_le _ _) (by rw [List.length_take]; omega)))) hrd461 (UJ (by first | omega | (rw [yL]; omega) | (rw [yL]; exact Nat.le_trans (List.length_filter_le _ _) (by rw [List.length_take]; omega)))) hS459) ?_)
   rintro _ w462 ⟨rfl, hS463⟩
   have hS464 := hk460 _ _ hS463
   have hS465 := hk452 _ _ hS464
   have hkn466 : (decide ((yE d (ty, ag) (zM d ((l216.take k).filter (qE ty ag)))) = (yE d (ty, ag) X))) = true := (by rw [Uk (by omega), XW, hX]; simp)
   rw [hkn466]
   refine st (zR (v := .bool true) rfl rfl ?_)
   refine st (zb (v := .bool true) rfl ?_)
   refine sty rfl rfl (zt (f := 21) (vals := []) (cap := []) rfl rfl Tryd.call21 (Xb  (RdS.base (RdS.base hKN hB25) hB136) hS465) ?_)
   rintro _ w467 ⟨rfl, hS468⟩
   refine st (zR (v := .bool true) rfl rfl ?_)
   refine st (zd (v := .bool true) rfl ?_)
   refine zg ?_
   refine zu ?_
   refine zX Tryd.results7 (show _ = (.bool true : Value) from rfl) ?_
   have hS469 := hk138 _ _ hS468
   have hS470 := hk27 _ _ hS469
   have hS471 : Sep G W Rs w467 := hS470.sel 13 [] (Nat.le_add_left _ _) rfl rfl
   refine ⟨rfl, hS471⟩
  ·skip
   have hc380 := of_decide_eq_true hc380
   refine zp rfl ?_
   refine zw ?_
   refine ze ?_
   refine zA ?_
   refine ze ?_
   refine zD (by kernel_rfl) ?_
   refine st (zb (v := v15) rfl ?_)
   refine st (zb (v := .int .i64 ((k : Nat) : Int)) rfl ?_)
   have hi472 : k < l216.length := (by first | omega | (simp only [lens]; omega))
   refine st (zm (k := 10) (i := k) Tryd.underlying47 Tryd.sizeOf59 rfl (RdS.base hrd28 hB136).sl rfl hi472 ?_)
   refine st (Zb rfl ?_)
   have hi474 : k < l216.length := (by first | omega | (simp only [lens]; omega))
   obtain ⟨hce473, hde473_0, hoke473⟩ := (RdS.base hrd28 hB136).ev hi474
   rw [← zn default hi474] at hce473 hde473_0 hoke473
   have hsm475 : ((l216.getD k default).deps).length * 8 ≤ 140737488355328 := hde473_0.small
   have hcw476 := hS377.cells hce473 ((RdS.base hrd28 hB136).foot (ne_of_lt hi474))
   refine st (zf (v := .int .i64 ((l216.getD k default).typ)) Tryd.isAgg3 rfl (hcw476.get (j := 4) rfl) ?_)
   refine st (zb (v := .int .i64 (ty)) rfl ?_)
   refine st (yf (k := .i64) (a := (l216.getD k default).typ) (b := ty) rfl rfl ?_)
   refine st (zb (v := .bool (decide (((l216.getD k default).typ) = ty))) rfl ?_)
   refine stc (V := v15) rfl rfl (fun hb477 => ?_) ?_
   ·have hl478 := hb477
    have hl478 := of_decide_eq_true hl478
    exact zb (v := v15) rfl ⟨rfl, rfl⟩
   refine stc (V := .int .i64 ((k : Nat) : Int)) rfl rfl (fun hb479 => ?_) ?_
   ·have hl480 := hb479
    have hl480 := of_decide_eq_true hl480
    exact zb (v := .int .i64 ((k : Nat) : Int)) rfl ⟨rfl, rfl⟩
   refine stc (V := .pointer (some ⟨sb v15, so v15 + k * 10, none⟩)) rfl rfl (fun hb481 => ?_) ?_
   ·have hl482 := hb481
    have hl482 := of_decide_eq_true hl482
    have hi483 : k < l216.length := (by first | omega | (simp only [lens]; omega))
    exact zm (k := 10) (i := k) Tryd.underlying47 Tryd.sizeOf59 (show _ = (v15 : Value) from (if_pos hb481)) (RdS.base hrd28 hB136).sl (show _ = (.int .i64 ((k : Nat) : Int) : Value) from (if_pos hb481)) hi483 ⟨rfl, rfl⟩
   refine stc (V := .pointer (some ⟨sb v15, so v15 + k * 10 + 5, none⟩)) rfl rfl (fun hb484 => ?_) ?_
   ·have hl485 := hb484
    have hl485 := of_decide_eq_true hl485
    exact Yr (show _ = (.pointer (some ⟨sb v15, so v15 + k * 10, none⟩) : Value) from (if_pos hb484)) ⟨rfl, rfl⟩
   refine stc (V := .int .i64 ((l216.getD k default).agg)) rfl rfl (fun hb486 => ?_) ?_
   ·have hl487 := hb486
    have hl487 := of_decide_eq_true hl487
    have hcw489 := hS377.cells hce473 ((RdS.base hrd28 hB136).foot (ne_of_lt hi474))
    exact zf (v := .int .i64 ((l216.getD k default).agg)) Tryd.isAgg3 (show _ = (.pointer (some ⟨sb v15, so v15 + k * 10 + 5, none⟩) : Value) from (if_pos hb486)) (hcw489.get (j := 5) rfl) ⟨rfl, rfl⟩
   refine stc (V := .int .i64 (ag)) rfl rfl (fun hb490 => ?_) ?_
   ·have hl491 := hb490
    have hl491 := of_decide_eq_true hl491
    exact zb (v := .int .i64 (ag)) rfl ⟨rfl, rfl⟩
   refine stc (V := .bool (decide (((l216.getD k default).agg) = ag))) rfl rfl (fun hb492 => ?_) ?_
   ·have hl493 := hb492
    have hl493 := of_decide_eq_true hl493
    exact yf (k := .i64) (a := (l216.getD k default).agg) (b := ag) (show _ = (.int .i64 ((l216.getD k default).agg) : Value) from (if_pos hb492)) (show _ = (.int .i64 (ag) : Value) from (if_pos hb492)) ⟨rfl, rfl⟩
   refine st (zC (b := decide (((l216.getD k default).typ) = ty)) (b' := decide (((l216.getD k default).agg) = ag)) rfl (fun hbp => (show _ = (.bool (decide (((l216.getD k default).agg) = ag)) : Value) from (if_pos hbp))) ?_)
   refine zg ?_
   cases hc494 : (decide (((l216.getD k default).typ) = ty)) && (decide (((l216.getD k default).agg) = ag))
   ·skip
    try simp only [zk] at hc494
    have hc494q : qE ty ag (l216.getD k default) = false := by unfold qE; exact decide_eq_false (fun h9 => hc494.elim (fun h8 => h8 h9.1) (fun h8 => h8 h9.2))
    have hc494x : qX ty ag (X.getD k default) = false := by rw [hX]; exact VS (by omega) hc494q
    refine zo rfl ?_
    refine zw ?_
    refine za (by kernel_rfl) (fun _ => ?_)
    refine st (zb (v := .int .i64 ((k : Nat) : Int)) rfl ?_)
    have hr495 : InR ((k + 1 : Nat) : Int) := by first | omega | (simp only [lens]; omega)
    refine st (yj (r := ((k + 1 : Nat) : Int)) (k := .i64) (a := ((k : Nat) : Int)) (b := 1) rfl rfl (by rw [show (((k : Nat) : Int) + 1 : Int) = ((k + 1 : Nat) : Int) by first | omega | (simp only [lens]; omega)]; exact zY hr495) ?_)
    refine st (zd (v := .int .i64 ((k + 1 : Nat) : Int)) rfl ?_)
    refine zg ?_
    have hL496 : ((l216.take (k + 1)).filter (qE ty ag)) = ((l216.take k).filter (qE ty ag)) := (VP (by omega) hc494q)
    rw [← hL496] at hS377
    have hL497 : ((X.take (k + 1)).filter (qX ty ag)) = ((X.take k).filter (qX ty ag)) := (VP (by omega) hc494x)
    rw [← hL497] at hS377
    exact ⟨_, by omega, k + 1, vo, vw, _, rfl, zr ⟨rfl, rfl, rfl, rfl, rfl, rfl, rfl, rfl, rfl, rfl, rfl, trivial⟩, by omega, hS377⟩
   ·skip
    try simp only [zk] at hc494
    have hc494q : qE ty ag (l216.getD k default) = true := by unfold qE; exact decide_eq_true hc494
    have hc494x : qX ty ag (X.getD k default) = true := by rw [hX]; exact VS (by omega) hc494q
    have hc494a := List.length_filter_le (qE ty ag) (l216.take k)
    have hc494b := List.length_filter_le (qX ty ag) (X.take k)
    rw [List.length_take] at hc494a hc494b
    refine zp rfl ?_
    refine ze ?_
    refine za (by kernel_rfl) (fun _ => ?_)
    refine st (zb (v := vo) rfl ?_)
    refine st (zb (v := v15) rfl ?_)
    refine st (zb (v := .int .i64 ((k : Nat) : Int)) rfl ?_)
    have hi498 : k < l216.length := (by first | omega | (simp only [lens]; omega))
    refine st (zm (k := 10) (i := k) Tryd.underlying47 Tryd.sizeOf59 rfl (RdS.base hrd28 hB136).sl rfl hi498 ?_)
    have hcw500 := hS377.cells hce473 ((RdS.base hrd28 hB136).foot (ne_of_lt hi474))
    refine st (zl (k := 10) Tryd.isAgg59 Tryd.sizeOf59 rfl rfl hcw500 ?_)
    refine st (zG (k := 10) (parts' := [(0, .agg ((l216.getD k default).cells (zi w128 (sb v15) (so v15 + k * 10 + 3))).toArray)]) (c := ((l216.getD k default).cells (zi w128 (sb v15) (so v15 + k * 10 + 3))).toArray) Tryd.underlying47 Tryd.sizeOf59 Tryd.zeroValue59 (by decide) rfl (by kernel_rfl) ?_)
    intro w503 b502 hn501
    have hS504 := hS377.new hn501
    have hbk508 := hS504.blk (i := 0) rfl
    have hS509 : Sep G133 w128 ((RowE (α := Ev) (shr G133 w128) 59 vo ((l216.take k).filter (qE ty ag))) :: (RowE (α := Ent) (shr G133 w128) 62 vw ((X.take k).filter (qX ty ag))) :: (RwN v202 (zM d (l216.take q30))) :: (ViewO b75 d (zM d (l216.take q30)) (zM d (l216.take q30))) :: (ViewO b34 d X X) :: (Blk b2 (d.cells dd0 dd1).toArray 25) :: Rs) w503 := hS504.sel 7 [2, 1, 3, 4, 5, 6] (Nat.le_add_left _ _) rfl rfl
    have hS510 : Sep G133 w128 ((RowE (α := Ev) (shr G133 w128) 59 vo ((l216.take k).filter (qE ty ag))) :: Emp :: (RowE (α := Ent) (shr G133 w128) 62 vw ((X.take k).filter (qX ty ag))) :: (RwN v202 (zM d (l216.take q30))) :: (ViewO b75 d (zM d (l216.take q30)) (zM d (l216.take q30))) :: (ViewO b34 d X X) :: (Blk b2 (d.cells dd0 dd1).toArray 25) :: Rs) w503 := hS509.emp1
    refine st (yN (src := (shr G133 w128)) (bytes := 96) (x1 := (l216.getD k default)) hS510 QZ rfl rfl hbk508 (fun _ _ _ => (show _ from ⟨_, rfl, hde473_0, hoke473⟩)) (by first | omega | (simp only [List.length_append, List.length_cons, List.length_nil, List.length_take, List.length_drop]; omega)) rfl ?_)
    intro v506 w505 hS507
    have hr511 := hS507.row (i := 0) rfl
    have hr511s : _ * 96 ≤ _ := hr511.2
    refine st (zd (v := v506) rfl ?_)
    refine zg ?_
    refine za (by kernel_rfl) (fun _ => ?_)
    refine st (zb (v := vw) rfl ?_)
    refine st (zb (v := v127) rfl ?_)
    refine st (zb (v := .int .i64 ((k : Nat) : Int)) rfl ?_)
    have hi512 : k < X.length := (by first | omega | (simp only [lens]; omega))
    refine st (zm (k := 13) (i := k) Tryd.underlying66 Tryd.sizeOf62 rfl hrd139.sl rfl hi512 ?_)
    have hi514 : k < X.length := (by first | omega | (simp only [lens]; omega))
    obtain ⟨hce513, hde513_0, hoke513⟩ := hrd139.ent hi514
    rw [← zn default hi514] at hce513 hde513_0 hoke513
    have hsm515 : ((X.getD k default).ev.deps).length * 8 ≤ 140737488355328 := hde513_0.small
    have hcw516 := hS507.cells hce513 (hrd139.foot (ne_of_lt hi514))
    refine st (zl (k := 13) Tryd.isAgg62 Tryd.sizeOf62 rfl rfl hcw516 ?_)
    refine st (zG (k := 13) (parts' := [(0, .agg ((X.getD k default).cells (zi w128 (sb v127) (so v127 + k * 13 + 3))).toArray)]) (c := ((X.getD k default).cells (zi w128 (sb v127) (so v127 + k * 13 + 3))).toArray) Tryd.underlying66 Tryd.sizeOf62 Tryd.zeroValue62 (by decide) rfl (by kernel_rfl) ?_)
    intro w519 b518 hn517
    have hS520 := hS507.new hn517
    have hbk524 := hS520.blk (i := 0) rfl
    have hS525 : Sep G133 w128 ((RowE (α := Ent) (shr G133 w128) 62 vw ((X.take k).filter (qX ty ag))) :: (RowE (α := Ev) (shr G133 w128) 59 v506 (((l216.take k).filter (qE ty ag)) ++ [(l216.getD k default)])) :: (RwN v202 (zM d (l216.take q30))) :: (ViewO b75 d (zM d (l216.take q30)) (zM d (l216.take q30))) :: (ViewO b34 d X X) :: (Blk b2 (d.cells dd0 dd1).toArray 25) :: Rs) w519 := hS520.sel 7 [2, 1, 3, 4, 5, 6] (Nat.le_add_left _ _) rfl rfl
    have hS526 : Sep G133 w128 ((RowE (α := Ent) (shr G133 w128) 62 vw ((X.take k).filter (qX ty ag))) :: Emp :: (RowE (α := Ev) (shr G133 w128) 59 v506 (((l216.take k).filter (qE ty ag)) ++ [(l216.getD k default)])) :: (RwN v202 (zM d (l216.take q30))) :: (ViewO b75 d (zM d (l216.take q30)) (zM d (l216.take q30))) :: (ViewO b34 d X X) :: (Blk b2 (d.cells dd0 dd1).toArray 25) :: Rs) w519 := hS525.emp1
    refine st (yN (src := (shr G133 w128)) (bytes := 120) (x1 := (X.getD k default)) hS526 Qu rfl rfl hbk524 (fun _ _ _ => (show _ from ⟨_, rfl, hde513_0, hoke513⟩)) (by first | omega | (simp only [List.length_append, List.length_cons, List.length_nil, List.length_take, List.length_drop]; omega)) rfl ?_)
    intro v522 w521 hS523
    have hr527 := hS523.row (i := 0) rfl
    have hr527s : _ * 120 ≤ _ := hr527.2
    refine st (zd (v := v522) rfl ?_)
    refine zg ?_
    refine za (by kernel_rfl) (fun _ => ?_)
    refine st (zb (v := .int .i64 ((k : Nat) : Int)) rfl ?_)
    have hr528 : InR ((k + 1 : Nat) : Int) := by first | omega | (simp only [lens]; omega)
    refine st (yj (r := ((k + 1 : Nat) : Int)) (k := .i64) (a := ((k : Nat) : Int)) (b := 1) rfl rfl (by rw [show (((k : Nat) : Int) + 1 : Int) = ((k + 1 : Nat) : Int) by first | omega | (simp only [lens]; omega)]; exact zY hr528) ?_)
    refine st (zd (v := .int .i64 ((k + 1 : Nat) : Int)) rfl ?_)
    refine zg ?_
    have hL529 : ((l216.take (k + 1)).filter (qE ty ag)) = ((l216.take k).filter (qE ty ag)) ++ [(l216.getD k default)] := (Uh (by omega) hc494q)
    rw [← hL529] at hS523
    have hL530 : ((X.take (k + 1)).filter (qX ty ag)) = ((X.take k).filter (qX ty ag)) ++ [(X.getD k default)] := (Uh (by omega) hc494x)
    rw [← hL530] at hS523
    exact ⟨_, by omega, k + 1, v506, v522, _, rfl, zr ⟨rfl, rfl, rfl, rfl, rfl, rfl, rfl, rfl, rfl, rfl, rfl, trivial⟩, by omega, hS523⟩
 ·skip
  try simp only [zk] at hc9
  refine zp rfl ?_
  refine ze ?_
  refine za (by kernel_rfl) (fun _ => ?_)
  refine st (zt (f := 21) (vals := []) (cap := []) rfl rfl Tryd.call21 (Xb  hKN hS8) ?_)
  rintro _ w531 ⟨rfl, hS532⟩
  refine st (zd (v := .bool true) rfl ?_)
  refine zg ?_
  refine zu ?_
  refine zX Tryd.results7 (show _ = (.bool true : Value) from rfl) ?_
  have hS533 : Sep G W Rs w531 := hS532.sel 1 [] (Nat.le_add_left _ _) rfl rfl
  refine ⟨rfl, hS533⟩

end Go.Proofs.YtlblilbmpdejgaaDoor
/- Steps of the proofs of this seat: part F13. -/
set_option maxRecDepth 8000
set_option maxHeartbeats 4000000
namespace Go.Proofs.YtlblilbmpdejgaaDoor
open Go.Proofs Go.RowKit

theorem Xk {w : World} {d : Dcl} {dd0 dd1 : Value} (h0 : RdS w (yV w) dd0 d.types) (h1 : RdS w (yV w) dd1 d.projs) (od : d.Ok) {n : Int} (hn : InR n) {vl : Value} {l : List Ev} (hl : RdS w (yV w) vl l) {no : Int} (hno : InR no) {ty : Int} (hty : InR ty) {ag : Int} (hag : InR ag) (hK : RdS w (yV w) (.slice (some ⟨0, 0, none⟩) 6 6) kindsL) : Ret Tryd.prog 7 [.agg (d.cells dd0 dd1).toArray, .int .i64 n, vl, .int .i64 no, .int .i64 ty, .int .i64 ag] w (fun r w' => r = .bool true ∧ Ext w w') :=
  Ret.mono (Xj h0 h1 od hn hl hno hty hag hK (Sep.start w)) (fun r w' h => ⟨h.1, h.2.fin⟩)
end Go.Proofs.YtlblilbmpdejgaaDoor
