import Derived.Test.YtlblilbmpdejgaaDoorX11
set_option linter.unusedSimpArgs false
set_option linter.unusedVariables false
set_option linter.unusedSectionVars false
set_option linter.deprecated false
/- Steps of the proofs of this seat: part F11. -/
set_option maxRecDepth 8000
set_option maxHeartbeats 4000000
namespace Go.Proofs.YtlblilbmpdejgaaDoor
open Go.Proofs Go.RowKit

theorem UZ {a b : Ent} (h1 : a.ev = b.ev) (h2 : (a.void == b.void) = true) (h3 : a.byO = b.byO ∧ a.byS = b.byS) : a = b := by
  rw [Ent.eq_iff]; exact ⟨h1, by simpa using h2, h3.1, h3.2⟩
theorem VK {a b : Ent} (h : (a.ev = b.ev ∧ (a.void == b.void) = true) ∧ a.byO = b.byO ∧ a.byS = b.byS) : a = b := UZ h.1.1 h.1.2 h.2
theorem YI {G : Nat → Prop} {W w : World} {Rs : List HP} {va : Value} {a : List Ent} (ha : RdS W G va a) {vb : Value} {b : List Ent} (hb : RdS W G vb b) (hS0 : Sep G W Rs w) : Ret Tryd.prog 31 [va, vb] w (fun r w' => r = (.bool (decide (a = b)) : Value) ∧ Sep G W Rs w') := by
 have has : _ * 120 ≤ _ := ha.small
 have hbs : _ * 120 ≤ _ := hb.small
 refine zr (args := [va, vb]) Tryd.func31 rfl rfl ?_
 refine ze ?_
 refine za (by kernel_rfl) (fun _ => ?_)
 refine st (zd (v := .bool false) rfl ?_)
 refine zg ?_
 refine ze ?_
 refine ze ?_
 refine za (by kernel_rfl) (fun _ => ?_)
 refine st (zb (v := va) rfl ?_)
 refine st (zK (n := a.length) Tryd.underlying66 rfl ha.sl ?_)
 refine st (zb (v := vb) rfl ?_)
 refine st (zK (n := b.length) Tryd.underlying66 rfl hb.sl ?_)
 refine st (yy (k := .i64) (a := ((a.length : Nat) : Int)) (b := ((b.length : Nat) : Int)) rfl rfl ?_)
 refine zg ?_
 cases hc1 : !decide (((a.length : Nat) : Int) = ((b.length : Nat) : Int))
 ·skip
  have hc1 := zz hc1
  refine zo rfl ?_
  refine zx ?_
  refine ze ?_
  refine ze ?_
  refine za (by kernel_rfl) (fun _ => ?_)
  refine st (zd (v := .int .i64 (0)) rfl ?_)
  refine zg ?_
  refine zC ?_
  refine yw (fun mq σ wq => ∃ (k : Nat) (ρ : Env), mq = a.length - k ∧ σ = yx ρ [(0, va), (1, vb), (5, .int .i64 ((k : Nat) : Int))] ∧ (k ≤ a.length) ∧ (∀ i, i < k → a.getD i default = b.getD i default) ∧ Sep G W Rs wq) ⟨0, _, rfl, zu ⟨rfl, rfl, rfl, trivial⟩, Nat.zero_le _, (fun i h => absurd h (Nat.not_lt_zero i)), hS0⟩ ?_
  rintro m3 σ4 w2 ⟨k, ρl1, rfl, rfl, hkk, hm, hS5⟩
  refine ze ?_
  refine ze ?_
  refine za (by kernel_rfl) (fun _ => ?_)
  refine st (zb (v := .int .i64 ((k : Nat) : Int)) rfl ?_)
  refine st (zb (v := va) rfl ?_)
  refine st (zK (n := a.length) Tryd.underlying66 rfl ha.sl ?_)
  refine st (zU (k := .i64) (a := ((k : Nat) : Int)) (b := ((a.length : Nat) : Int)) rfl rfl ?_)
  refine zg ?_
  cases hc6 : decide (((k : Nat) : Int) < ((a.length : Nat) : Int))
  ·skip
   have hc6 := of_decide_eq_false hc6
   refine zo rfl ?_
   refine yv ?_
   refine yo ?_
   refine ze ?_
   refine za (by kernel_rfl) (fun _ => ?_)
   refine st (zd (v := .bool true) rfl ?_)
   refine zg ?_
   refine zv ?_
   refine zX Tryd.results31 (show _ = (.bool true : Value) from rfl) ?_
   refine ⟨?_, hS5⟩
   rw [decide_eq_true (Ye (by omega) (fun i hi => hm i (by omega)))]
  ·skip
   have hc6 := of_decide_eq_true hc6
   refine zp rfl ?_
   refine zx ?_
   refine ze ?_
   refine zC ?_
   refine ze ?_
   refine zT (WF [fun vals wq => Sep G W Rs wq, fun vals wq => (vals 10 = (.bool (decide (((a.getD k default).ev) = ((b.getD k default).ev))) : Value)) ∧ Sep G W Rs wq]) (AF [Vl 0 (va), Vl 1 (.int .i64 ((k : Nat) : Int)), Vl 2 (.pointer (some ⟨sb va, so va + k * 13, none⟩)), Vl 3 (.pointer (some ⟨sb va, so va + k * 13, none⟩)), Vl 4 (.agg (((a.getD k default).ev).cells (zk W (sb va) (so va + k * 13 + 3))).toArray), Vl 5 (vb), Vl 6 (.int .i64 ((k : Nat) : Int)), Vl 7 (.pointer (some ⟨sb vb, so vb + k * 13, none⟩)), Vl 8 (.pointer (some ⟨sb vb, so vb + k * 13, none⟩)), Vl 9 (.agg (((b.getD k default).ev).cells (zk W (sb vb) (so vb + k * 13 + 3))).toArray), fun _ => True, Vl 11 (.bool (!(decide (((a.getD k default).ev) = ((b.getD k default).ev))))), Vl 12 (.bool (!(decide (((a.getD k default).ev) = ((b.getD k default).ev))))), Vl 13 (if (!(decide (((a.getD k default).ev) = ((b.getD k default).ev)))) = false then va else undef), Vl 14 (if (!(decide (((a.getD k default).ev) = ((b.getD k default).ev)))) = false then .int .i64 ((k : Nat) : Int) else undef), Vl 15 (if (!(decide (((a.getD k default).ev) = ((b.getD k default).ev)))) = false then .pointer (some ⟨sb va, so va + k * 13, none⟩) else undef), Vl 16 (if (!(decide (((a.getD k default).ev) = ((b.getD k default).ev)))) = false then .pointer (some ⟨sb va, so va + k * 13 + 10, none⟩) else undef), Vl 17 (if (!(decide (((a.getD k default).ev) = ((b.getD k default).ev)))) = false then .bool ((a.getD k default).void) else undef), Vl 18 (if (!(decide (((a.getD k default).ev) = ((b.getD k default).ev)))) = false then vb else undef), Vl 19 (if (!(decide (((a.getD k default).ev) = ((b.getD k default).ev)))) = false then .int .i64 ((k : Nat) : Int) else undef), Vl 20 (if (!(decide (((a.getD k default).ev) = ((b.getD k default).ev)))) = false then .pointer (some ⟨sb vb, so vb + k * 13, none⟩) else undef), Vl 21 (if (!(decide (((a.getD k default).ev) = ((b.getD k default).ev)))) = false then .pointer (some ⟨sb vb, so vb + k * 13 + 10, none⟩) else undef), Vl 22 (if (!(decide (((a.getD k default).ev) = ((b.getD k default).ev)))) = false then .bool ((b.getD k default).void) else undef), Vl 23 (if (!(decide (((a.getD k default).ev) = ((b.getD k default).ev)))) = false then .bool (!(((a.getD k default).void) == ((b.getD k default).void))) else undef), Vl 24 (.bool ((!(decide (((a.getD k default).ev) = ((b.getD k default).ev)))) || (!(((a.getD k default).void) == ((b.getD k default).void))))), Vl 25 (.bool ((!(decide (((a.getD k default).ev) = ((b.getD k default).ev)))) || (!(((a.getD k default).void) == ((b.getD k default).void))))), Vl 26 (if ((!(decide (((a.getD k default).ev) = ((b.getD k default).ev)))) || (!(((a.getD k default).void) == ((b.getD k default).void)))) = false then va else undef), Vl 27 (if ((!(decide (((a.getD k default).ev) = ((b.getD k default).ev)))) || (!(((a.getD k default).void) == ((b.getD k default).void)))) = false then .int .i64 ((k : Nat) : Int) else undef), Vl 28 (if ((!(decide (((a.getD k default).ev) = ((b.getD k default).ev)))) || (!(((a.getD k default).void) == ((b.getD k default).void)))) = false then .pointer (some ⟨sb va, so va + k * 13, none⟩) else undef), Vl 29 (if ((!(decide (((a.getD k default).ev) = ((b.getD k default).ev)))) || (!(((a.getD k default).void) == ((b.getD k default).void)))) = false then .pointer (some ⟨sb va, so va + k * 13 + 11, none⟩) else undef), Vl 30 (if ((!(decide (((a.getD k default).ev) = ((b.getD k default).ev)))) || (!(((a.getD k default).void) == ((b.getD k default).void)))) = false then .agg #[.int .i64 ((a.getD k default).byO), .int .i64 ((a.getD k default).byS)] else undef), Vl 31 (if ((!(decide (((a.getD k default).ev) = ((b.getD k default).ev)))) || (!(((a.getD k default).void) == ((b.getD k default).void)))) = false then vb else undef), Vl 32 (if ((!(decide (((a.getD k default).ev) = ((b.getD k default).ev)))) || (!(((a.getD k default).void) == ((b.getD k default).void)))) = false then .int .i64 ((k : Nat) : Int) else undef), Vl 33 (if ((!(decide (((a.getD k default).ev) = ((b.getD k default).ev)))) || (!(((a.getD k default).void) == ((b.getD k default).void)))) = false then .pointer (some ⟨sb vb, so vb + k * 13, none⟩) else undef), Vl 34 (if ((!(decide (((a.getD k default).ev) = ((b.getD k default).ev)))) || (!(((a.getD k default).void) == ((b.getD k default).void)))) = false then .pointer (some ⟨sb vb, so vb + k * 13 + 11, none⟩) else undef), Vl 35 (if ((!(decide (((a.getD k default).ev) = ((b.getD k default).ev)))) || (!(((a.getD k default).void) == ((b.getD k default).void)))) = false then .agg #[.int .i64 ((b.getD k default).byO), .int .i64 ((b.getD k default).byS)] else undef), Vl 36 (if ((!(decide (((a.getD k default).ev) = ((b.getD k default).ev)))) || (!(((a.getD k default).void) == ((b.getD k default).void)))) = false then .bool (!decide ((a.getD k default).byO = (b.getD k default).byO ∧ (a.getD k default).byS = (b.getD k default).byS)) else undef), Vl 37 (.bool (((!(decide (((a.getD k default).ev) = ((b.getD k default).ev)))) || (!(((a.getD k default).void) == ((b.getD k default).void)))) || (!decide ((a.getD k default).byO = (b.getD k default).byO ∧ (a.getD k default).byS = (b.getD k default).byS))))]) [[], [], [0, 1], [0, 1, 2], [0, 1, 2, 3], [], [], [5, 6], [5, 6, 7], [5, 6, 7, 8], [0, 1, 2, 3, 4, 5, 6, 7, 8, 9], [0, 1, 2, 3, 4, 5, 6, 7, 8, 9, 10], [0, 1, 2, 3, 4, 5, 6, 7, 8, 9, 10, 11], [0, 1, 2, 3, 4, 5, 6, 7, 8, 9, 10, 11, 12], [0, 1, 2, 3, 4, 5, 6, 7, 8, 9, 10, 11, 12], [0, 1, 2, 3, 4, 5, 6, 7, 8, 9, 10, 11, 12, 13, 14], [0, 1, 2, 3, 4, 5, 6, 7, 8, 9, 10, 11, 12, 13, 14, 15], [0, 1, 2, 3, 4, 5, 6, 7, 8, 9, 10, 11, 12, 13, 14, 15, 16], [0, 1, 2, 3, 4, 5, 6, 7, 8, 9, 10, 11, 12], [0, 1, 2, 3, 4, 5, 6, 7, 8, 9, 10, 11, 12], [0, 1, 2, 3, 4, 5, 6, 7, 8, 9, 10, 11, 12, 18, 19], [0, 1, 2, 3, 4, 5, 6, 7, 8, 9, 10, 11, 12, 18, 19, 20], [0, 1, 2, 3, 4, 5, 6, 7, 8, 9, 10, 11, 12, 18, 19, 20, 21], [0, 1, 2, 3, 4, 5, 6, 7, 8, 9, 10, 11, 12, 13, 14, 15, 16, 17, 18, 19, 20, 21, 22], [0, 1, 2, 3, 4, 5, 6, 7, 8, 9, 10, 11, 12, 13, 14, 15, 16, 17, 18, 19, 20, 21, 22, 23], [0, 1, 2, 3, 4, 5, 6, 7, 8, 9, 10, 11, 12, 13, 14, 15, 16, 17, 18, 19, 20, 21, 22, 23, 24], [0, 1, 2, 3, 4, 5, 6, 7, 8, 9, 10, 11, 12, 13, 14, 15, 16, 17, 18, 19, 20, 21, 22, 23, 24, 25], [0, 1, 2, 3, 4, 5, 6, 7, 8, 9, 10, 11, 12, 13, 14, 15, 16, 17, 18, 19, 20, 21, 22, 23, 24, 25], [0, 1, 2, 3, 4, 5, 6, 7, 8, 9, 10, 11, 12, 13, 14, 15, 16, 17, 18, 19, 20, 21, 22, 23, 24, 25, 26, 27], [0, 1, 2, 3, 4, 5, 6, 7, 8, 9, 10, 11, 12, 13, 14, 15, 16, 17, 18, 19, 20, 21, 22, 23, 24, 25, 26, 27, 28], [0, 1, 2, 3, 4, 5, 6, 7, 8, 9, 10, 11, 12, 13, 14, 15, 16, 17, 18, 19, 20, 21, 22, 23, 24, 25, 26, 27, 28, 29], [0, 1, 2, 3, 4, 5, 6, 7, 8, 9, 10, 11, 12, 13, 14, 15, 16, 17, 18, 19, 20, 21, 22, 23, 24, 25], [0, 1, 2, 3, 4, 5, 6, 7, 8, 9, 10, 11, 12, 13, 14, 15, 16, 17, 18, 19, 20, 21, 22, 23, 24, 25], [0, 1, 2, 3, 4, 5, 6, 7, 8, 9, 10, 11, 12, 13, 14, 15, 16, 17, 18, 19, 20, 21, 22, 23, 24, 25, 31, 32], [0, 1, 2, 3, 4, 5, 6, 7, 8, 9, 10, 11, 12, 13, 14, 15, 16, 17, 18, 19, 20, 21, 22, 23, 24, 25, 31, 32, 33], [0, 1, 2, 3, 4, 5, 6, 7, 8, 9, 10, 11, 12, 13, 14, 15, 16, 17, 18, 19, 20, 21, 22, 23, 24, 25, 31, 32, 33, 34], [0, 1, 2, 3, 4, 5, 6, 7, 8, 9, 10, 11, 12, 13, 14, 15, 16, 17, 18, 19, 20, 21, 22, 23, 24, 25, 26, 27, 28, 29, 30, 31, 32, 33, 34, 35], [0, 1, 2, 3, 4, 5, 6, 7, 8, 9, 10, 11, 12, 13, 14, 15, 16, 17, 18, 19, 20, 21, 22, 23, 24, 25, 26, 27, 28, 29, 30, 31, 32, 33, 34, 35, 36]] [10] [(0, 0), (0, 0), (0, 0), (0, 0), (0, 0), (0, 0), (0, 0), (0, 0), (0, 0), (0, 0), (0, 0), (1, 1), (1, 1), (1, 1), (1, 1), (1, 1), (1, 1), (1, 1), (1, 1), (1, 1), (1, 1), (1, 1), (1, 1), (1, 1), (1, 1), (1, 1), (1, 1), (1, 1), (1, 1), (1, 1), (1, 1), (1, 1), (1, 1), (1, 1), (1, 1), (1, 1), (1, 1), (1, 1)] (by kernel_rfl) (by kernel_rfl) (by kernel_rfl) rfl (by kernel_rfl) (by kernel_rfl) (fun _ h1 h2 h3 h4 _ => hS5.same h1 h2 h3 h4) ?_ (yj ⟨dA, dA, dA, dA, dA, dA, dA, dA, dA, dA, dT, dA, dA, dA, dA, dA, dA, dA, dA, dA, dA, dA, dA, dA, dA, dA, dA, dA, dA, dA, dA, dA, dA, dA, dA, dA, dA, dA, trivial⟩) ⟨?_, ?_, ?_, ?_, ?_, ?_, ?_, ?_, ?_, ?_, ?_, ?_, ?_, ?_, ?_, ?_, ?_, ?_, ?_, ?_, ?_, ?_, ?_, ?_, ?_, ?_, ?_, ?_, ?_, ?_, ?_, ?_, ?_, ?_, ?_, ?_, ?_, ?_, trivial⟩ ?_
   ·intro k vals vals' w hv h
    have e : ∀ j ∈ ([10] : List Nat), vals' j = vals j := hv
    match k, h with
    | 0, h => exact h
    | 1, h => exact (by simpa only [WF, List.getElem?_cons_zero, List.getElem?_cons_succ, e 10 (by decide)] using h)
    | _ + 2, _ => trivial
   ·intro k394 vals w395 h398 h399 hW397 hA396
    refine obl rfl ?_
    exact zb (v := va) rfl (fun vals' hv _ => ⟨rfl, hv⟩)
   ·intro k400 vals w401 h404 h405 hW403 hA402
    refine obl rfl ?_
    exact zb (v := .int .i64 ((k : Nat) : Int)) rfl (fun vals' hv _ => ⟨rfl, hv⟩)
   ·intro k406 vals w407 h410 h411 hW409 hA408
    obtain rfl : k406 = 0 := Nat.le_antisymm h411 h410
    have hS412 : Sep _ _ _ _ := hW409
    have e413 := hA408 0 (by decide)
    have e414 := hA408 1 (by decide)
    refine obl rfl ?_
    have hi415 : k < a.length := (by first | omega | (simp only [zq]; omega))
    exact zj (k := 13) (i := k) Tryd.underlying66 Tryd.sizeOf62 e413 ha.sl e414 hi415 (fun vals' hv _ => ⟨rfl, hv⟩)
   ·intro k416 vals w417 h420 h421 hW419 hA418
    have e422 := hA418 2 (by decide)
    refine obl rfl ?_
    exact Xm e422 (fun vals' hv _ => ⟨rfl, hv⟩)
   ·intro k423 vals w424 h427 h428 hW426 hA425
    obtain rfl : k423 = 0 := Nat.le_antisymm h428 h427
    have hS429 : Sep _ _ _ _ := hW426
    have e430 := hA425 3 (by decide)
    refine obl rfl ?_
    have hi432 : k < a.length := (by first | omega | (simp only [zq]; omega))
    obtain ⟨hce431, hde431_0, hoke431⟩ := ha.ent hi432
    rw [← zl default hi432] at hce431 hde431_0 hoke431
    have hsm433 : ((a.getD k default).ev.deps).length * 8 ≤ 140737488355328 := hde431_0.small
    have hcw434 := hS429.cells hce431 (ha.foot (ne_of_lt hi432))
    exact zn (k := 10) (cs := [.int .i64 ((a.getD k default).ev.origin), .int .i64 ((a.getD k default).ev.seq), .int .i64 ((a.getD k default).ev.lam), (zk W (sb va) (so va + k * 13 + 3)), .int .i64 ((a.getD k default).ev.typ), .int .i64 ((a.getD k default).ev.agg), .int .i64 ((a.getD k default).ev.field), .int .i64 ((a.getD k default).ev.op), .int .i64 ((a.getD k default).ev.arg), .int .i64 ((a.getD k default).ev.key)]) Tryd.isAgg59 Tryd.sizeOf59 rfl e430 (CellsAt.sub hcw434 0 (cs2 := [.int .i64 ((a.getD k default).ev.origin), .int .i64 ((a.getD k default).ev.seq), .int .i64 ((a.getD k default).ev.lam), (zk W (sb va) (so va + k * 13 + 3)), .int .i64 ((a.getD k default).ev.typ), .int .i64 ((a.getD k default).ev.agg), .int .i64 ((a.getD k default).ev.field), .int .i64 ((a.getD k default).ev.op), .int .i64 ((a.getD k default).ev.arg), .int .i64 ((a.getD k default).ev.key)]) rfl) (fun vals' hv _ => ⟨rfl, hv⟩)
   ·intro k435 vals w436 h439 h440 hW438 hA437
    refine obl rfl ?_
    exact zb (v := vb) rfl (fun vals' hv _ => ⟨rfl, hv⟩)
   ·intro k441 vals w442 h445 h446 hW444 hA443
    refine obl rfl ?_
    exact zb (v := .int .i64 ((k : Nat) : Int)) rfl (fun vals' hv _ => ⟨rfl, hv⟩)
   ·intro k447 vals w448 h451 h452 hW450 hA449
    obtain rfl : k447 = 0 := Nat.le_antisymm h452 h451
    have hS453 : Sep _ _ _ _ := hW450
    have e454 := hA449 5 (by decide)
    have e455 := hA449 6 (by decide)
    refine obl rfl ?_
    have hi456 : k < b.length := (by first | omega | (simp only [zq]; omega))
    exact zj (k := 13) (i := k) Tryd.underlying66 Tryd.sizeOf62 e454 hb.sl e455 hi456 (fun vals' hv _ => ⟨rfl, hv⟩)
   ·intro k457 vals w458 h461 h462 hW460 hA459
    have e463 := hA459 7 (by decide)
    refine obl rfl ?_
    exact Xm e463 (fun vals' hv _ => ⟨rfl, hv⟩)
   ·intro k464 vals w465 h468 h469 hW467 hA466
    obtain rfl : k464 = 0 := Nat.le_antisymm h469 h468
    have hS470 : Sep _ _ _ _ := hW467
    have e471 := hA466 8 (by decide)
    refine obl rfl ?_
    have hi473 : k < b.length := (by first | omega | (simp only [zq]; omega))
    obtain ⟨hce472, hde472_0, hoke472⟩ := hb.ent hi473
    rw [← zl default hi473] at hce472 hde472_0 hoke472
    have hsm474 : ((b.getD k default).ev.deps).length * 8 ≤ 140737488355328 := hde472_0.small
    have hcw475 := hS470.cells hce472 (hb.foot (ne_of_lt hi473))
    exact zn (k := 10) (cs := [.int .i64 ((b.getD k default).ev.origin), .int .i64 ((b.getD k default).ev.seq), .int .i64 ((b.getD k default).ev.lam), (zk W (sb vb) (so vb + k * 13 + 3)), .int .i64 ((b.getD k default).ev.typ), .int .i64 ((b.getD k default).ev.agg), .int .i64 ((b.getD k default).ev.field), .int .i64 ((b.getD k default).ev.op), .int .i64 ((b.getD k default).ev.arg), .int .i64 ((b.getD k default).ev.key)]) Tryd.isAgg59 Tryd.sizeOf59 rfl e471 (CellsAt.sub hcw475 0 (cs2 := [.int .i64 ((b.getD k default).ev.origin), .int .i64 ((b.getD k default).ev.seq), .int .i64 ((b.getD k default).ev.lam), (zk W (sb vb) (so vb + k * 13 + 3)), .int .i64 ((b.getD k default).ev.typ), .int .i64 ((b.getD k default).ev.agg), .int .i64 ((b.getD k default).ev.field), .int .i64 ((b.getD k default).ev.op), .int .i64 ((b.getD k default).ev.arg), .int .i64 ((b.getD k default).ev.key)]) rfl) (fun vals' hv _ => ⟨rfl, hv⟩)
   ·intro k89 vals w90 h93 h94 hW92 hA91
    obtain rfl : k89 = 0 := Nat.le_antisymm h94 h93
    have hS95 : Sep _ _ _ _ := hW92
    have e96 := hA91 4 (by decide)
    have e97 := hA91 9 (by decide)
    refine obl rfl ?_
    have hi99 : k < a.length := (by first | omega | (simp only [zq]; omega))
    obtain ⟨hce98, hde98_0, hoke98⟩ := ha.ent hi99
    rw [← zl default hi99] at hce98 hde98_0 hoke98
    have hsm100 : ((a.getD k default).ev.deps).length * 8 ≤ 140737488355328 := hde98_0.small
    have hcw101 := hS95.cells hce98 (ha.foot (ne_of_lt hi99))
    have hi103 : k < b.length := (by first | omega | (simp only [zq]; omega))
    obtain ⟨hce102, hde102_0, hoke102⟩ := hb.ent hi103
    rw [← zl default hi103] at hce102 hde102_0 hoke102
    have hsm104 : ((b.getD k default).ev.deps).length * 8 ≤ 140737488355328 := hde102_0.small
    have hcw105 := hS95.cells hce102 (hb.foot (ne_of_lt hi103))
    refine (zt (f := 39) (vals := [.agg (((a.getD k default).ev).cells (zk W (sb va) (so va + k * 13 + 3))).toArray, .agg (((b.getD k default).ev).cells (zk W (sb vb) (so vb + k * 13 + 3))).toArray]) (cap := []) rfl (yV ⟨e96, e97, trivial⟩) Tryd.call39 (XY (a := ((a.getD k default).ev)) (b := ((b.getD k default).ev)) hde98_0 hoke98.ev hde102_0 hoke102.ev hS95) ?_)
    rintro _ w106 ⟨rfl, hS107⟩
    intro vals' hv hv'
    refine ⟨?_, trivial⟩
    show (vals' 10 = (.bool (decide (((a.getD k default).ev) = ((b.getD k default).ev))) : Value)) ∧ Sep G W Rs w106
    exact ⟨hv, hS107⟩
   ·intro k476 vals w477 h480 h481 hW479 hA478
    obtain rfl : k476 = 1 := Nat.le_antisymm h481 h480
    obtain ⟨he108, hS482⟩ := hW479
    refine obl rfl ?_
    exact yB (a := decide (((a.getD k default).ev) = ((b.getD k default).ev))) he108 (fun vals' hv _ => ⟨rfl, hv⟩)
   ·intro k483 vals w484 h487 h488 hW486 hA485
    have e489 := hA485 11 (by decide)
    refine obl rfl ?_
    exact zb (v := .bool (!(decide (((a.getD k default).ev) = ((b.getD k default).ev))))) e489 (fun vals' hv _ => ⟨rfl, hv⟩)
   ·intro k490 vals w491 h494 h495 hW493 hA492
    have e496 := hA492 12 (by decide)
    refine zy rfl rfl e496 (fun hb497 => ?_) (fun hb497 => fun vals' hv _ => ⟨trivial, hv.trans (if_neg hb497).symm⟩)
    have hl498 := hb497
    have hl498 := zz hl498
    exact zb (v := va) rfl (fun vals' hv _ => ⟨rfl, hv.trans (if_pos hb497).symm⟩)
   ·intro k499 vals w500 h503 h504 hW502 hA501
    have e505 := hA501 12 (by decide)
    refine zy rfl rfl e505 (fun hb506 => ?_) (fun hb506 => fun vals' hv _ => ⟨trivial, hv.trans (if_neg hb506).symm⟩)
    have hl507 := hb506
    have hl507 := zz hl507
    exact zb (v := .int .i64 ((k : Nat) : Int)) rfl (fun vals' hv _ => ⟨rfl, hv.trans (if_pos hb506).symm⟩)
   ·intro k508 vals w509 h512 h513 hW511 hA510
    obtain rfl : k508 = 1 := Nat.le_antisymm h513 h512
    obtain ⟨he108, hS514⟩ := hW511
    have e515 := hA510 12 (by decide)
    have e516 : vals 13 = (if (!(decide (((a.getD k default).ev) = ((b.getD k default).ev)))) = false then (va : Value) else undef) := hA510 13 (by decide)
    have e517 : vals 14 = (if (!(decide (((a.getD k default).ev) = ((b.getD k default).ev)))) = false then (.int .i64 ((k : Nat) : Int) : Value) else undef) := hA510 14 (by decide)
    refine zy rfl rfl e515 (fun hb518 => ?_) (fun hb518 => fun vals' hv _ => ⟨trivial, hv.trans (if_neg hb518).symm⟩)
    have hl519 := hb518
    have hl519 := zz hl519
    have hi520 : k < a.length := (by first | omega | (simp only [zq]; omega))
    exact zj (k := 13) (i := k) Tryd.underlying66 Tryd.sizeOf62 (show _ = (va : Value) from (Eq.trans e516 (if_pos hb518))) ha.sl (show _ = (.int .i64 ((k : Nat) : Int) : Value) from (Eq.trans e517 (if_pos hb518))) hi520 (fun vals' hv _ => ⟨rfl, hv.trans (if_pos hb518).symm⟩)
   ·intro k521 vals w522 h525 h526 hW524 hA523
    have e527 := hA523 12 (by decide)
    have e528 : vals 15 = (if (!(decide (((a.getD k default).ev) = ((b.getD k default).ev)))) = false then (.pointer (some ⟨sb va, so va + k * 13, none⟩) : Value) else undef) := hA523 15 (by decide)
    refine zy rfl rfl e527 (fun hb529 => ?_) (fun hb529 => fun vals' hv _ => ⟨trivial, hv.trans (if_neg hb529).symm⟩)
    have hl530 := hb529
    have hl530 := zz hl530
    exact xP (show _ = (.pointer (some ⟨sb va, so va + k * 13, none⟩) : Value) from (Eq.trans e528 (if_pos hb529))) (fun vals' hv _ => ⟨rfl, hv.trans (if_pos hb529).symm⟩)
   ·intro k531 vals w532 h535 h536 hW534 hA533
    obtain rfl : k531 = 1 := Nat.le_antisymm h536 h535
    obtain ⟨he108, hS537⟩ := hW534
    have e538 := hA533 12 (by decide)
    have e539 : vals 16 = (if (!(decide (((a.getD k default).ev) = ((b.getD k default).ev)))) = false then (.pointer (some ⟨sb va, so va + k * 13 + 10, none⟩) : Value) else undef) := hA533 16 (by decide)
    refine zy rfl rfl e538 (fun hb540 => ?_) (fun hb540 => fun vals' hv _ => ⟨trivial, hv.trans (if_neg hb540).symm⟩)
    have hl541 := hb540
    have hl541 := zz hl541
    have hi543 : k < a.length := (by first | omega | (simp only [zq]; omega))
    obtain ⟨hce542, hde542_0, hoke542⟩ := ha.ent hi543
    rw [← zl default hi543] at hce542 hde542_0 hoke542
    have hsm544 : ((a.getD k default).ev.deps).length * 8 ≤ 140737488355328 := hde542_0.small
    have hcw545 := hS537.cells hce542 (ha.foot (ne_of_lt hi543))
    exact zf (v := .bool ((a.getD k default).void)) Tryd.isAgg4 (show _ = (.pointer (some ⟨sb va, so va + k * 13 + 10, none⟩) : Value) from (Eq.trans e539 (if_pos hb540))) (hcw545.get (j := 10) rfl) (fun vals' hv _ => ⟨rfl, hv.trans (if_pos hb540).symm⟩)
   ·intro k546 vals w547 h550 h551 hW549 hA548
    have e552 := hA548 12 (by decide)
    refine zy rfl rfl e552 (fun hb553 => ?_) (fun hb553 => fun vals' hv _ => ⟨trivial, hv.trans (if_neg hb553).symm⟩)
    have hl554 := hb553
    have hl554 := zz hl554
    exact zb (v := vb) rfl (fun vals' hv _ => ⟨rfl, hv.trans (if_pos hb553).symm⟩)
   ·intro k555 vals w556 h559 h560 hW558 hA557
    have e561 := hA557 12 (by decide)
    refine zy rfl rfl e561 (fun hb562 => ?_) (fun hb562 => fun vals' hv _ => ⟨trivial, hv.trans (if_neg hb562).symm⟩)
    have hl563 := hb562
    have hl563 := zz hl563
    exact zb (v := .int .i64 ((k : Nat) : Int)) rfl (fun vals' hv _ => ⟨rfl, hv.trans (if_pos hb562).symm⟩)
   ·intro k564 vals w565 h568 h569 hW567 hA566
    obtain rfl : k564 = 1 := Nat.le_antisymm h569 h568
    obtain ⟨he108, hS570⟩ := hW567
    have e571 := hA566 12 (by decide)
    have e572 : vals 18 = (if (!(decide (((a.getD k default).ev) = ((b.getD k default).ev)))) = false then (vb : Value) else undef) := hA566 18 (by decide)
    have e573 : vals 19 = (if (!(decide (((a.getD k default).ev) = ((b.getD k default).ev)))) = false then (.int .i64 ((k : Nat) : Int) : Value) else undef) := hA566 19 (by decide)
    refine zy rfl rfl e571 (fun hb574 => ?_) (fun hb574 => fun vals' hv _ => ⟨trivial, hv.trans (if_neg hb574).symm⟩)
    have hl575 := hb574
    have hl575 := zz hl575
    have hi576 : k < b.length := (by first | omega | (simp only [zq]; omega))
    exact zj (k := 13) (i := k) Tryd.underlying66 Tryd.sizeOf62 (show _ = (vb : Value) from (Eq.trans e572 (if_pos hb574))) hb.sl (show _ = (.int .i64 ((k : Nat) : Int) : Value) from (Eq.trans e573 (if_pos hb574))) hi576 (fun vals' hv _ => ⟨rfl, hv.trans (if_pos hb574).symm⟩)
   ·intro k577 vals w578 h581 h582 hW580 hA579
    have e583 := hA579 12 (by decide)
    have e584 : vals 20 = (if (!(decide (((a.getD k default).ev) = ((b.getD k default).ev)))) = false then (.pointer (some ⟨sb vb, so vb + k * 13, none⟩) : Value) else undef) := hA579 20 (by decide)
    refine zy rfl rfl e583 (fun hb585 => ?_) (fun hb585 => fun vals' hv _ => ⟨trivial, hv.trans (if_neg hb585).symm⟩)
    have hl586 := hb585
    have hl586 := zz hl586
    exact xP (show _ = (.pointer (some ⟨sb vb, so vb + k * 13, none⟩) : Value) from (Eq.trans e584 (if_pos hb585))) (fun vals' hv _ => ⟨rfl, hv.trans (if_pos hb585).symm⟩)
   ·intro k587 vals w588 h591 h592 hW590 hA589
    obtain rfl : k587 = 1 := Nat.le_antisymm h592 h591
    obtain ⟨he108, hS593⟩ := hW590
    have e594 := hA589 12 (by decide)
    have e595 : vals 21 = (if (!(decide (((a.getD k default).ev) = ((b.getD k default).ev)))) = false then (.pointer (some ⟨sb vb, so vb + k * 13 + 10, none⟩) : Value) else undef) := hA589 21 (by decide)
    refine zy rfl rfl e594 (fun hb596 => ?_) (fun hb596 => fun vals' hv _ => ⟨trivial, hv.trans (if_neg hb596).symm⟩)
    have hl597 := hb596
    have hl597 := zz hl597
    have hi599 : k < b.length := (by first | omega | (simp only [zq]; omega))
    obtain ⟨hce598, hde598_0, hoke598⟩ := hb.ent hi599
    rw [← zl default hi599] at hce598 hde598_0 hoke598
    have hsm600 : ((b.getD k default).ev.deps).length * 8 ≤ 140737488355328 := hde598_0.small
    have hcw601 := hS593.cells hce598 (hb.foot (ne_of_lt hi599))
    exact zf (v := .bool ((b.getD k default).void)) Tryd.isAgg4 (show _ = (.pointer (some ⟨sb vb, so vb + k * 13 + 10, none⟩) : Value) from (Eq.trans e595 (if_pos hb596))) (hcw601.get (j := 10) rfl) (fun vals' hv _ => ⟨rfl, hv.trans (if_pos hb596).symm⟩)
   ·intro k602 vals w603 h606 h607 hW605 hA604
    obtain rfl : k602 = 1 := Nat.le_antisymm h607 h606
    obtain ⟨he108, hS608⟩ := hW605
    have e609 := hA604 12 (by decide)
    have e610 : vals 17 = (if (!(decide (((a.getD k default).ev) = ((b.getD k default).ev)))) = false then (.bool ((a.getD k default).void) : Value) else undef) := hA604 17 (by decide)
    have e611 : vals 22 = (if (!(decide (((a.getD k default).ev) = ((b.getD k default).ev)))) = false then (.bool ((b.getD k default).void) : Value) else undef) := hA604 22 (by decide)
    refine zy rfl rfl e609 (fun hb612 => ?_) (fun hb612 => fun vals' hv _ => ⟨trivial, hv.trans (if_neg hb612).symm⟩)
    have hl613 := hb612
    have hl613 := zz hl613
    exact WQ (a := (a.getD k default).void) (b := (b.getD k default).void) Tryd.underlying4 (show _ = (.bool ((a.getD k default).void) : Value) from (Eq.trans e610 (if_pos hb612))) (show _ = (.bool ((b.getD k default).void) : Value) from (Eq.trans e611 (if_pos hb612))) (fun vals' hv _ => ⟨rfl, hv.trans (if_pos hb612).symm⟩)
   ·intro k614 vals w615 h618 h619 hW617 hA616
    have e620 := hA616 12 (by decide)
    have e621 : vals 23 = (if (!(decide (((a.getD k default).ev) = ((b.getD k default).ev)))) = false then (.bool (!(((a.getD k default).void) == ((b.getD k default).void))) : Value) else undef) := hA616 23 (by decide)
    refine obl rfl ?_
    exact zB (b := !(decide (((a.getD k default).ev) = ((b.getD k default).ev)))) (b' := !(((a.getD k default).void) == ((b.getD k default).void))) e620 (fun hbp => (show _ = (.bool (!(((a.getD k default).void) == ((b.getD k default).void))) : Value) from (Eq.trans e621 (if_pos hbp)))) (fun vals' hv _ => ⟨rfl, hv⟩)
   ·intro k622 vals w623 h626 h627 hW625 hA624
    have e628 := hA624 24 (by decide)
    refine obl rfl ?_
    exact zb (v := .bool ((!(decide (((a.getD k default).ev) = ((b.getD k default).ev)))) || (!(((a.getD k default).void) == ((b.getD k default).void))))) e628 (fun vals' hv _ => ⟨rfl, hv⟩)
   ·intro k629 vals w630 h633 h634 hW632 hA631
    have e635 := hA631 25 (by decide)
    refine zy rfl rfl e635 (fun hb636 => ?_) (fun hb636 => fun vals' hv _ => ⟨trivial, hv.trans (if_neg hb636).symm⟩)
    have hl637 := hb636
    try simp only [zm] at hl637
    exact zb (v := va) rfl (fun vals' hv _ => ⟨rfl, hv.trans (if_pos hb636).symm⟩)
   ·intro k638 vals w639 h642 h643 hW641 hA640
    have e644 := hA640 25 (by decide)
    refine zy rfl rfl e644 (fun hb645 => ?_) (fun hb645 => fun vals' hv _ => ⟨trivial, hv.trans (if_neg hb645).symm⟩)
    have hl646 := hb645
    try simp only [zm] at hl646
    exact zb (v := .int .i64 ((k : Nat) : Int)) rfl (fun vals' hv _ => ⟨rfl, hv.trans (if_pos hb645).symm⟩)
   ·intro k647 vals w648 h651 h652 hW650 hA649
    obtain rfl : k647 = 1 := Nat.le_antisymm h652 h651
    obtain ⟨he108, hS653⟩ := hW650
    have e654 := hA649 25 (by decide)
    have e655 : vals 26 = (if ((!(decide (((a.getD k default).ev) = ((b.getD k default).ev)))) || (!(((a.getD k default).void) == ((b.getD k default).void)))) = false then (va : Value) else undef) := hA649 26 (by decide)
    have e656 : vals 27 = (if ((!(decide (((a.getD k default).ev) = ((b.getD k default).ev)))) || (!(((a.getD k default).void) == ((b.getD k default).void)))) = false then (.int .i64 ((k : Nat) : Int) : Value) else undef) := hA649 27 (by decide)
    refine zy rfl rfl e654 (fun hb657 => ?_) (fun hb657 => fun vals' hv _ => ⟨trivial, hv.trans (if_neg hb657).symm⟩)
    have hl658 := hb657
    try simp only [zm] at hl658
    have hi659 : k < a.length := (by first | omega | (simp only [zq]; omega))
    exact zj (k := 13) (i := k) Tryd.underlying66 Tryd.sizeOf62 (show _ = (va : Value) from (Eq.trans e655 (if_pos hb657))) ha.sl (show _ = (.int .i64 ((k : Nat) : Int) : Value) from (Eq.trans e656 (if_pos hb657))) hi659 (fun vals' hv _ => ⟨rfl, hv.trans (if_pos hb657).symm⟩)
   ·intro k660 vals w661 h664 h665 hW663 hA662
    have e666 := hA662 25 (by decide)
    have e667 : vals 28 = (if ((!(decide (((a.getD k default).ev) = ((b.getD k default).ev)))) || (!(((a.getD k default).void) == ((b.getD k default).void)))) = false then (.pointer (some ⟨sb va, so va + k * 13, none⟩) : Value) else undef) := hA662 28 (by decide)
    refine zy rfl rfl e666 (fun hb668 => ?_) (fun hb668 => fun vals' hv _ => ⟨trivial, hv.trans (if_neg hb668).symm⟩)
    have hl669 := hb668
    try simp only [zm] at hl669
    exact Yp (show _ = (.pointer (some ⟨sb va, so va + k * 13, none⟩) : Value) from (Eq.trans e667 (if_pos hb668))) (fun vals' hv _ => ⟨rfl, hv.trans (if_pos hb668).symm⟩)
   ·intro k670 vals w671 h674 h675 hW673 hA672
    obtain rfl : k670 = 1 := Nat.le_antisymm h675 h674
    obtain ⟨he108, hS676⟩ := hW673
    have e677 := hA672 25 (by decide)
    have e678 : vals 29 = (if ((!(decide (((a.getD k default).ev) = ((b.getD k default).ev)))) || (!(((a.getD k default).void) == ((b.getD k default).void)))) = false then (.pointer (some ⟨sb va, so va + k * 13 + 11, none⟩) : Value) else undef) := hA672 29 (by decide)
    refine zy rfl rfl e677 (fun hb679 => ?_) (fun hb679 => fun vals' hv _ => ⟨trivial, hv.trans (if_neg hb679).symm⟩)
    have hl680 := hb679
    try simp only [zm] at hl680
    have hi682 : k < a.length := (by first | omega | (simp only [zq]; omega))
    obtain ⟨hce681, hde681_0, hoke681⟩ := ha.ent hi682
    rw [← zl default hi682] at hce681 hde681_0 hoke681
    have hsm683 : ((a.getD k default).ev.deps).length * 8 ≤ 140737488355328 := hde681_0.small
    have hcw684 := hS676.cells hce681 (ha.foot (ne_of_lt hi682))
    exact zn (k := 2) (cs := [.int .i64 ((a.getD k default).byO), .int .i64 ((a.getD k default).byS)]) Tryd.isAgg57 Tryd.sizeOf57 rfl (show _ = (.pointer (some ⟨sb va, so va + k * 13 + 11, none⟩) : Value) from (Eq.trans e678 (if_pos hb679))) (CellsAt.sub hcw684 11 (cs2 := [.int .i64 ((a.getD k default).byO), .int .i64 ((a.getD k default).byS)]) rfl) (fun vals' hv _ => ⟨rfl, hv.trans (if_pos hb679).symm⟩)
   ·intro k685 vals w686 h689 h690 hW688 hA687
    have e691 := hA687 25 (by decide)
    refine zy rfl rfl e691 (fun hb692 => ?_) (fun hb692 => fun vals' hv _ => ⟨trivial, hv.trans (if_neg hb692).symm⟩)
    have hl693 := hb692
    try simp only [zm] at hl693
    exact zb (v := vb) rfl (fun vals' hv _ => ⟨rfl, hv.trans (if_pos hb692).symm⟩)
   ·intro k694 vals w695 h698 h699 hW697 hA696
    have e700 := hA696 25 (by decide)
    refine zy rfl rfl e700 (fun hb701 => ?_) (fun hb701 => fun vals' hv _ => ⟨trivial, hv.trans (if_neg hb701).symm⟩)
    have hl702 := hb701
    try simp only [zm] at hl702
    exact zb (v := .int .i64 ((k : Nat) : Int)) rfl (fun vals' hv _ => ⟨rfl, hv.trans (if_pos hb701).symm⟩)
   ·intro k703 vals w704 h707 h708 hW706 hA705
    obtain rfl : k703 = 1 := Nat.le_antisymm h708 h707
    obtain ⟨he108, hS709⟩ := hW706
    have e710 := hA705 25 (by decide)
    have e711 : vals 31 = (if ((!(decide (((a.getD k default).ev) = ((b.getD k default).ev)))) || (!(((a.getD k default).void) == ((b.getD k default).void)))) = false then (vb : Value) else undef) := hA705 31 (by decide)
    have e712 : vals 32 = (if ((!(decide (((a.getD k default).ev) = ((b.getD k default).ev)))) || (!(((a.getD k default).void) == ((b.getD k default).void)))) = false then (.int .i64 ((k : Nat) : Int) : Value) else undef) := hA705 32 (by decide)
    refine zy rfl rfl e710 (fun hb713 => ?_) (fun hb713 => fun vals' hv _ => ⟨trivial, hv.trans (if_neg hb713).symm⟩)
    have hl714 := hb713
    try simp only [zm] at hl714
    have hi715 : k < b.length := (by first | omega | (simp only [zq]; omega))
    exact zj (k := 13) (i := k) Tryd.underlying66 Tryd.sizeOf62 (show _ = (vb : Value) from (Eq.trans e711 (if_pos hb713))) hb.sl (show _ = (.int .i64 ((k : Nat) : Int) : Value) from (Eq.trans e712 (if_pos hb713))) hi715 (fun vals' hv _ => ⟨rfl, hv.trans (if_pos hb713).symm⟩)
   ·intro k716 vals w717 h720 h721 hW719 hA718
    have e722 := hA718 25 (by decide)
    have e723 : vals 33 = (if ((!(decide (((a.getD k default).ev) = ((b.getD k default).ev)))) || (!(((a.getD k default).void) == ((b.getD k default).void)))) = false then (.pointer (some ⟨sb vb, so vb + k * 13, none⟩) : Value) else undef) := hA718 33 (by decide)
    refine zy rfl rfl e722 (fun hb724 => ?_) (fun hb724 => fun vals' hv _ => ⟨trivial, hv.trans (if_neg hb724).symm⟩)
    have hl725 := hb724
    try simp only [zm] at hl725
    exact Yp (show _ = (.pointer (some ⟨sb vb, so vb + k * 13, none⟩) : Value) from (Eq.trans e723 (if_pos hb724))) (fun vals' hv _ => ⟨rfl, hv.trans (if_pos hb724).symm⟩)
   ·intro k726 vals w727 h730 h731 hW729 hA728
    obtain rfl : k726 = 1 := Nat.le_antisymm h731 h730
    obtain ⟨he108, hS732⟩ := hW729
    have e733 := hA728 25 (by decide)
    have e734 : vals 34 = (if ((!(decide (((a.getD k default).ev) = ((b.getD k default).ev)))) || (!(((a.getD k default).void) == ((b.getD k default).void)))) = false then (.pointer (some ⟨sb vb, so vb + k * 13 + 11, none⟩) : Value) else undef) := hA728 34 (by decide)
    refine zy rfl rfl e733 (fun hb735 => ?_) (fun hb735 => fun vals' hv _ => ⟨trivial, hv.trans (if_neg hb735).symm⟩)
    have hl736 := hb735
    try simp only [zm] at hl736
    have hi738 : k < b.length := (by first | omega | (simp only [zq]; omega))
    obtain ⟨hce737, hde737_0, hoke737⟩ := hb.ent hi738
    rw [← zl default hi738] at hce737 hde737_0 hoke737
    have hsm739 : ((b.getD k default).ev.deps).length * 8 ≤ 140737488355328 := hde737_0.small
    have hcw740 := hS732.cells hce737 (hb.foot (ne_of_lt hi738))
    exact zn (k := 2) (cs := [.int .i64 ((b.getD k default).byO), .int .i64 ((b.getD k default).byS)]) Tryd.isAgg57 Tryd.sizeOf57 rfl (show _ = (.pointer (some ⟨sb vb, so vb + k * 13 + 11, none⟩) : Value) from (Eq.trans e734 (if_pos hb735))) (CellsAt.sub hcw740 11 (cs2 := [.int .i64 ((b.getD k default).byO), .int .i64 ((b.getD k default).byS)]) rfl) (fun vals' hv _ => ⟨rfl, hv.trans (if_pos hb735).symm⟩)
   ·intro k741 vals w742 h745 h746 hW744 hA743
    obtain rfl : k741 = 1 := Nat.le_antisymm h746 h745
    obtain ⟨he108, hS747⟩ := hW744
    have e748 := hA743 25 (by decide)
    have e749 : vals 30 = (if ((!(decide (((a.getD k default).ev) = ((b.getD k default).ev)))) || (!(((a.getD k default).void) == ((b.getD k default).void)))) = false then (.agg #[.int .i64 ((a.getD k default).byO), .int .i64 ((a.getD k default).byS)] : Value) else undef) := hA743 30 (by decide)
    have e750 : vals 35 = (if ((!(decide (((a.getD k default).ev) = ((b.getD k default).ev)))) || (!(((a.getD k default).void) == ((b.getD k default).void)))) = false then (.agg #[.int .i64 ((b.getD k default).byO), .int .i64 ((b.getD k default).byS)] : Value) else undef) := hA743 35 (by decide)
    refine zy rfl rfl e748 (fun hb751 => ?_) (fun hb751 => fun vals' hv _ => ⟨trivial, hv.trans (if_neg hb751).symm⟩)
    have hl752 := hb751
    try simp only [zm] at hl752
    exact ZZ (e := decide ((a.getD k default).byO = (b.getD k default).byO ∧ (a.getD k default).byS = (b.getD k default).byS)) (xs := #[.int .i64 ((a.getD k default).byO), .int .i64 ((a.getD k default).byS)]) (ys := #[.int .i64 ((b.getD k default).byO), .int .i64 ((b.getD k default).byS)]) VN (show _ = (.agg #[.int .i64 ((a.getD k default).byO), .int .i64 ((a.getD k default).byS)] : Value) from (Eq.trans e749 (if_pos hb751))) (show _ = (.agg #[.int .i64 ((b.getD k default).byO), .int .i64 ((b.getD k default).byS)] : Value) from (Eq.trans e750 (if_pos hb751))) (fun vals' hv _ => ⟨rfl, hv.trans (if_pos hb751).symm⟩)
   ·intro k753 vals w754 h757 h758 hW756 hA755
    have e759 := hA755 25 (by decide)
    have e760 : vals 36 = (if ((!(decide (((a.getD k default).ev) = ((b.getD k default).ev)))) || (!(((a.getD k default).void) == ((b.getD k default).void)))) = false then (.bool (!decide ((a.getD k default).byO = (b.getD k default).byO ∧ (a.getD k default).byS = (b.getD k default).byS)) : Value) else undef) := hA755 36 (by decide)
    refine obl rfl ?_
    exact zB (b := (!(decide (((a.getD k default).ev) = ((b.getD k default).ev)))) || (!(((a.getD k default).void) == ((b.getD k default).void)))) (b' := !decide ((a.getD k default).byO = (b.getD k default).byO ∧ (a.getD k default).byS = (b.getD k default).byS)) e759 (fun hbp => (show _ = (.bool (!decide ((a.getD k default).byO = (b.getD k default).byO ∧ (a.getD k default).byS = (b.getD k default).byS)) : Value) from (Eq.trans e760 (if_pos hbp)))) (fun vals' hv _ => ⟨rfl, hv⟩)
   intro vals w761 hW762 hA763
   obtain ⟨he108, hS764⟩ := hW762
   have e765 := hA763 37 (by decide)
   refine yi (kv := [(0, va), (1, vb), (5, .int .i64 ((k : Nat) : Int)), (11, .int .i64 ((k : Nat) : Int)), (12, va), (13, .int .i64 ((a.length : Nat) : Int)), (14, .bool true), (54, .bool (((!(decide (((a.getD k default).ev) = ((b.getD k default).ev)))) || (!(((a.getD k default).void) == ((b.getD k default).void)))) || (!decide ((a.getD k default).byO = (b.getD k default).byO ∧ (a.getD k default).byS = (b.getD k default).byS))))]) ⟨rfl, rfl, rfl, rfl, rfl, rfl, rfl, (by exact e765), trivial⟩ (fun ρw761 => ?_)
   refine zg ?_
   cases hc766 : ((!(decide (((a.getD k default).ev) = ((b.getD k default).ev)))) || (!(((a.getD k default).void) == ((b.getD k default).void)))) || (!decide ((a.getD k default).byO = (b.getD k default).byO ∧ (a.getD k default).byS = (b.getD k default).byS))
   ·skip
    try simp only [zm] at hc766
    refine zo rfl ?_
    refine zx ?_
    refine za (by kernel_rfl) (fun _ => ?_)
    refine st (zb (v := .int .i64 ((k : Nat) : Int)) rfl ?_)
    have hr767 : InR ((k + 1 : Nat) : Int) := by first | omega | (simp only [zq]; omega)
    refine st (yg (r := ((k + 1 : Nat) : Int)) (k := .i64) (a := ((k : Nat) : Int)) (b := 1) rfl rfl (by rw [show (((k : Nat) : Int) + 1 : Int) = ((k + 1 : Nat) : Int) by first | omega | (simp only [zq]; omega)]; exact zO hr767) ?_)
    refine st (zd (v := .int .i64 ((k + 1 : Nat) : Int)) rfl ?_)
    refine zg ?_
    exact ⟨_, by omega, k + 1, _, rfl, zu ⟨rfl, rfl, rfl, trivial⟩, by omega, (yT hm (VK hc766)), hS764⟩
   ·skip
    try simp only [zm] at hc766
    refine zp rfl ?_
    refine ze ?_
    refine za (by kernel_rfl) (fun _ => ?_)
    refine st (zd (v := .bool false) rfl ?_)
    refine zg ?_
    refine zv ?_
    refine zX Tryd.results31 (show _ = (.bool false : Value) from rfl) ?_
    refine ⟨?_, hS764⟩
    rw [decide_eq_false (fun e => by subst e; first | omega | (simp at hc766))]
 ·skip
  have hc1 := zQ hc1
  refine zp rfl ?_
  refine ze ?_
  refine za (by kernel_rfl) (fun _ => ?_)
  refine st (zd (v := .bool false) rfl ?_)
  refine zg ?_
  refine zv ?_
  refine zX Tryd.results31 (show _ = (.bool false : Value) from rfl) ?_
  refine ⟨?_, hS0⟩
  rw [decide_eq_false (fun e => by subst e; first | omega | (simp at hc1))]

theorem Ux {a b : Cel} (h1 : a.n = b.n) (h2 : a.set = b.set) : a = b := by cases a; cases b; simp_all
theorem UX {a b : Sta} (h1 : a.ver = b.ver) (h2 : a.cls = b.cls) : a = b := by cases a; cases b; simp_all
theorem XT {G : Nat → Prop} {W w : World} {Rs : List HP} {x : Sta} {dx0 : Value} (hdx0 : RdS W G dx0 x.cls) (ox : x.Ok) {y : Sta} {dy0 : Value} (hdy0 : RdS W G dy0 y.cls) (oy : y.Ok) (hS0 : Sep G W Rs w) : Ret Tryd.prog 34 [.agg (x.cells dx0).toArray, .agg (y.cells dy0).toArray] w (fun r w' => r = (.bool (decide (x = y)) : Value) ∧ Sep G W Rs w') := by
 have hdx0s : _ * 32 ≤ _ := hdx0.small
 have hdy0s : _ * 32 ≤ _ := hdy0.small
 refine zr (args := [.agg (x.cells dx0).toArray, .agg (y.cells dy0).toArray]) Tryd.func34 rfl rfl ?_
 refine ze ?_
 refine za (by kernel_rfl) (fun _ => ?_)
 refine st (yd (v := .agg (x.cells dx0).toArray) rfl ?_)
 intro w3 b2 hn1
 have hS4 := hS0.new hn1
 refine st (yd (v := .agg (y.cells dy0).toArray) rfl ?_)
 intro w7 b6 hn5
 have hS8 := hS4.new hn5
 refine st (zd (v := .bool false) rfl ?_)
 refine zg ?_
 refine ze ?_
 refine ze ?_
 refine zG (by kernel_rfl) ?_
 refine st (Xd rfl ?_)
 refine st (zf (v := .int .i64 (x.ver)) Tryd.isAgg3 rfl (zh (hS8.blk (i := 1) rfl) rfl) ?_)
 refine st (Xd rfl ?_)
 refine st (zf (v := .int .i64 (y.ver)) Tryd.isAgg3 rfl (zh (hS8.blk (i := 0) rfl) rfl) ?_)
 refine st (yy (k := .i64) (a := x.ver) (b := y.ver) rfl rfl ?_)
 refine st (zb (v := .bool (!decide (x.ver = y.ver))) rfl ?_)
 refine stc (V := .pointer (some ⟨b2, 1, none⟩)) rfl rfl (fun hb9 => ?_) ?_
 ·have hl10 := hb9
  have hl10 := zz hl10
  exact yK rfl ⟨rfl, rfl⟩
 refine stc (V := dx0) rfl rfl (fun hb11 => ?_) ?_
 ·have hl12 := hb11
  have hl12 := zz hl12
  exact zf (v := dx0) Tryd.isAgg26 (show _ = (.pointer (some ⟨b2, 1, none⟩) : Value) from (if_pos hb11)) (zh (hS8.blk (i := 1) rfl) rfl) ⟨rfl, rfl⟩
 refine stc (V := .int .i64 ((x.cls.length : Nat) : Int)) rfl rfl (fun hb13 => ?_) ?_
 ·have hl14 := hb13
  have hl14 := zz hl14
  exact zK (n := x.cls.length) Tryd.underlying26 (show _ = (dx0 : Value) from (if_pos hb13)) hdx0.sl ⟨rfl, rfl⟩
 refine stc (V := .pointer (some ⟨b6, 1, none⟩)) rfl rfl (fun hb15 => ?_) ?_
 ·have hl16 := hb15
  have hl16 := zz hl16
  exact yK rfl ⟨rfl, rfl⟩
 refine stc (V := dy0) rfl rfl (fun hb17 => ?_) ?_
 ·have hl18 := hb17
  have hl18 := zz hl18
  exact zf (v := dy0) Tryd.isAgg26 (show _ = (.pointer (some ⟨b6, 1, none⟩) : Value) from (if_pos hb17)) (zh (hS8.blk (i := 0) rfl) rfl) ⟨rfl, rfl⟩
 refine stc (V := .int .i64 ((y.cls.length : Nat) : Int)) rfl rfl (fun hb19 => ?_) ?_
 ·have hl20 := hb19
  have hl20 := zz hl20
  exact zK (n := y.cls.length) Tryd.underlying26 (show _ = (dy0 : Value) from (if_pos hb19)) hdy0.sl ⟨rfl, rfl⟩
 refine stc (V := .bool (!decide (((x.cls.length : Nat) : Int) = ((y.cls.length : Nat) : Int)))) rfl rfl (fun hb21 => ?_) ?_
 ·have hl22 := hb21
  have hl22 := zz hl22
  exact yy (k := .i64) (a := ((x.cls.length : Nat) : Int)) (b := ((y.cls.length : Nat) : Int)) (show _ = (.int .i64 ((x.cls.length : Nat) : Int) : Value) from (if_pos hb21)) (show _ = (.int .i64 ((y.cls.length : Nat) : Int) : Value) from (if_pos hb21)) ⟨rfl, rfl⟩
 refine st (zB (b := !decide (x.ver = y.ver)) (b' := !decide (((x.cls.length : Nat) : Int) = ((y.cls.length : Nat) : Int))) rfl (fun hbp => (show _ = (.bool (!decide (((x.cls.length : Nat) : Int) = ((y.cls.length : Nat) : Int))) : Value) from (if_pos hbp))) ?_)
 refine zg ?_
 cases hc23 : (!decide (x.ver = y.ver)) || (!decide (((x.cls.length : Nat) : Int) = ((y.cls.length : Nat) : Int)))
 ·skip
  try simp only [zm] at hc23
  refine zo rfl ?_
  refine zx ?_
  refine ze ?_
  refine ze ?_
  refine za (by kernel_rfl) (fun _ => ?_)
  refine st (zd (v := .int .i64 (0)) rfl ?_)
  refine zg ?_
  refine zC ?_
  refine yw (fun mq σ wq => ∃ (k : Nat) (ρ : Env), mq = x.cls.length - k ∧ σ = yx ρ [(2, .pointer (some ⟨b2, 0, none⟩)), (3, .pointer (some ⟨b6, 0, none⟩)), (5, .int .i64 ((k : Nat) : Int))] ∧ (k ≤ x.cls.length) ∧ (∀ i, i < k → x.cls.getD i default = y.cls.getD i default) ∧ Sep G W ((Blk b6 (y.cells dy0).toArray 68) :: (Blk b2 (x.cells dx0).toArray 68) :: Rs) wq) ⟨0, _, rfl, zu ⟨rfl, rfl, rfl, trivial⟩, Nat.zero_le _, (fun i h => absurd h (Nat.not_lt_zero i)), hS8⟩ ?_
  rintro m25 σ26 w24 ⟨k, ρl1, rfl, rfl, hkk, hm, hS27⟩
  refine ze ?_
  refine ze ?_
  refine za (by kernel_rfl) (fun _ => ?_)
  refine st (zb (v := .int .i64 ((k : Nat) : Int)) rfl ?_)
  refine st (yK rfl ?_)
  refine st (zf (v := dx0) Tryd.isAgg26 rfl (zh (hS27.blk (i := 1) rfl) rfl) ?_)
  refine st (zK (n := x.cls.length) Tryd.underlying26 rfl hdx0.sl ?_)
  refine st (zU (k := .i64) (a := ((k : Nat) : Int)) (b := ((x.cls.length : Nat) : Int)) rfl rfl ?_)
  refine zg ?_
  cases hc28 : decide (((k : Nat) : Int) < ((x.cls.length : Nat) : Int))
  ·skip
   have hc28 := of_decide_eq_false hc28
   refine zo rfl ?_
   refine yv ?_
   refine yo ?_
   refine ze ?_
   refine za (by kernel_rfl) (fun _ => ?_)
   refine st (zd (v := .bool true) rfl ?_)
   refine zg ?_
   refine zv ?_
   refine zX Tryd.results34 (show _ = (.bool true : Value) from rfl) ?_
   have hS29 : Sep G W Rs w24 := hS27.sel 2 [] (Nat.le_add_left _ _) rfl rfl
   refine ⟨?_, hS29⟩
   rw [decide_eq_true (UX (by omega) (Ye (by omega) (fun i hi => hm i (by omega))))]
  ·skip
   have hc28 := of_decide_eq_true hc28
   refine zp rfl ?_
   refine zx ?_
   refine ze ?_
   refine zC ?_
   refine ze ?_
   refine zT ((fun TT pp0 => WF [fun vals wq => Sep G W (pp0 :: TT) wq, fun vals wq => (vals 26 = (if (!decide (((x.cls.getD k default).n) = ((y.cls.getD k default).n))) = false then (.bool (decide (((x.cls.getD k default).set) = ((y.cls.getD k default).set))) : Value) else undef)) ∧ Sep G W (pp0 :: TT) wq]) ((Blk b2 (x.cells dx0).toArray 68) :: Rs) (Blk b6 (y.cells dy0).toArray 68)) (AF [Vl 0 (.pointer (some ⟨b2, 1, none⟩)), Vl 1 (dx0), Vl 2 (.int .i64 ((k : Nat) : Int)), Vl 3 (.pointer (some ⟨sb dx0, so dx0 + k * 2, none⟩)), Vl 4 (.pointer (some ⟨sb dx0, so dx0 + k * 2, none⟩)), Vl 5 (.int .i64 ((x.cls.getD k default).n)), Vl 6 (.pointer (some ⟨b6, 1, none⟩)), Vl 7 (dy0), Vl 8 (.int .i64 ((k : Nat) : Int)), Vl 9 (.pointer (some ⟨sb dy0, so dy0 + k * 2, none⟩)), Vl 10 (.pointer (some ⟨sb dy0, so dy0 + k * 2, none⟩)), Vl 11 (.int .i64 ((y.cls.getD k default).n)), Vl 12 (.bool (!decide (((x.cls.getD k default).n) = ((y.cls.getD k default).n)))), Vl 13 (.bool (!decide (((x.cls.getD k default).n) = ((y.cls.getD k default).n)))), Vl 14 (if (!decide (((x.cls.getD k default).n) = ((y.cls.getD k default).n))) = false then .pointer (some ⟨b2, 1, none⟩) else undef), Vl 15 (if (!decide (((x.cls.getD k default).n) = ((y.cls.getD k default).n))) = false then dx0 else undef), Vl 16 (if (!decide (((x.cls.getD k default).n) = ((y.cls.getD k default).n))) = false then .int .i64 ((k : Nat) : Int) else undef), Vl 17 (if (!decide (((x.cls.getD k default).n) = ((y.cls.getD k default).n))) = false then .pointer (some ⟨sb dx0, so dx0 + k * 2, none⟩) else undef), Vl 18 (if (!decide (((x.cls.getD k default).n) = ((y.cls.getD k default).n))) = false then .pointer (some ⟨sb dx0, so dx0 + k * 2 + 1, none⟩) else undef), Vl 19 (if (!decide (((x.cls.getD k default).n) = ((y.cls.getD k default).n))) = false then (zk W (sb dx0) (so dx0 + k * 2 + 1)) else undef), Vl 20 (if (!decide (((x.cls.getD k default).n) = ((y.cls.getD k default).n))) = false then .pointer (some ⟨b6, 1, none⟩) else undef), Vl 21 (if (!decide (((x.cls.getD k default).n) = ((y.cls.getD k default).n))) = false then dy0 else undef), Vl 22 (if (!decide (((x.cls.getD k default).n) = ((y.cls.getD k default).n))) = false then .int .i64 ((k : Nat) : Int) else undef), Vl 23 (if (!decide (((x.cls.getD k default).n) = ((y.cls.getD k default).n))) = false then .pointer (some ⟨sb dy0, so dy0 + k * 2, none⟩) else undef), Vl 24 (if (!decide (((x.cls.getD k default).n) = ((y.cls.getD k default).n))) = false then .pointer (some ⟨sb dy0, so dy0 + k * 2 + 1, none⟩) else undef), Vl 25 (if (!decide (((x.cls.getD k default).n) = ((y.cls.getD k default).n))) = false then (zk W (sb dy0) (so dy0 + k * 2 + 1)) else undef), fun _ => True, Vl 27 (if (!decide (((x.cls.getD k default).n) = ((y.cls.getD k default).n))) = false then .bool (!(decide (((x.cls.getD k default).set) = ((y.cls.getD k default).set)))) else undef), Vl 28 (.bool ((!decide (((x.cls.getD k default).n) = ((y.cls.getD k default).n))) || (!(decide (((x.cls.getD k default).set) = ((y.cls.getD k default).set))))))]) [[], [0], [], [0, 1, 2], [0, 1, 2, 3], [0, 1, 2, 3, 4], [], [6], [], [6, 7, 8], [6, 7, 8, 9], [6, 7, 8, 9, 10], [0, 1, 2, 3, 4, 5, 6, 7, 8, 9, 10, 11], [0, 1, 2, 3, 4, 5, 6, 7, 8, 9, 10, 11, 12], [0, 1, 2, 3, 4, 5, 6, 7, 8, 9, 10, 11, 12, 13], [0, 1, 2, 3, 4, 5, 6, 7, 8, 9, 10, 11, 12, 13, 14], [0, 1, 2, 3, 4, 5, 6, 7, 8, 9, 10, 11, 12, 13], [0, 1, 2, 3, 4, 5, 6, 7, 8, 9, 10, 11, 12, 13, 14, 15, 16], [0, 1, 2, 3, 4, 5, 6, 7, 8, 9, 10, 11, 12, 13, 14, 15, 16, 17], [0, 1, 2, 3, 4, 5, 6, 7, 8, 9, 10, 11, 12, 13, 14, 15, 16, 17, 18], [0, 1, 2, 3, 4, 5, 6, 7, 8, 9, 10, 11, 12, 13], [0, 1, 2, 3, 4, 5, 6, 7, 8, 9, 10, 11, 12, 13, 20], [0, 1, 2, 3, 4, 5, 6, 7, 8, 9, 10, 11, 12, 13], [0, 1, 2, 3, 4, 5, 6, 7, 8, 9, 10, 11, 12, 13, 20, 21, 22], [0, 1, 2, 3, 4, 5, 6, 7, 8, 9, 10, 11, 12, 13, 20, 21, 22, 23], [0, 1, 2, 3, 4, 5, 6, 7, 8, 9, 10, 11, 12, 13, 20, 21, 22, 23, 24], [0, 1, 2, 3, 4, 5, 6, 7, 8, 9, 10, 11, 12, 13, 14, 15, 16, 17, 18, 19, 20, 21, 22, 23, 24, 25], [0, 1, 2, 3, 4, 5, 6, 7, 8, 9, 10, 11, 12, 13, 14, 15, 16, 17, 18, 19, 20, 21, 22, 23, 24, 25, 26], [0, 1, 2, 3, 4, 5, 6, 7, 8, 9, 10, 11, 12, 13, 14, 15, 16, 17, 18, 19, 20, 21, 22, 23, 24, 25, 26, 27]] [26] [(0, 0), (0, 0), (0, 0), (0, 0), (0, 0), (0, 0), (0, 0), (0, 0), (0, 0), (0, 0), (0, 0), (0, 0), (0, 0), (0, 0), (0, 0), (0, 0), (0, 0), (0, 0), (0, 0), (0, 0), (0, 0), (0, 0), (0, 0), (0, 0), (0, 0), (0, 0), (0, 0), (1, 1), (1, 1)] (by kernel_rfl) (by kernel_rfl) (by kernel_rfl) rfl (by kernel_rfl) (by kernel_rfl) (fun _ h1 h2 h3 h4 _ => hS27.same h1 h2 h3 h4) ?_ (yj ⟨dA, dA, dA, dA, dA, dA, dA, dA, dA, dA, dA, dA, dA, dA, dA, dA, dA, dA, dA, dA, dA, dA, dA, dA, dA, dA, dT, dA, dA, trivial⟩) ⟨?_, ?_, ?_, ?_, ?_, ?_, ?_, ?_, ?_, ?_, ?_, ?_, ?_, ?_, ?_, ?_, ?_, ?_, ?_, ?_, ?_, ?_, ?_, ?_, ?_, ?_, ?_, ?_, ?_, trivial⟩ ?_
   ·intro k vals vals' w hv h
    have e : ∀ j ∈ ([26] : List Nat), vals' j = vals j := hv
    match k, h with
    | 0, h => exact h
    | 1, h => exact (by simpa only [WF, List.getElem?_cons_zero, List.getElem?_cons_succ, e 26 (by decide)] using h)
    | _ + 2, _ => trivial
   ·intro k319 vals w320 h323 h324 hW322 hA321
    refine obl rfl ?_
    exact yK rfl (fun vals' hv _ => ⟨rfl, hv⟩)
   ·intro k325 vals w326 h329 h330 hW328 hA327
    obtain rfl : k325 = 0 := Nat.le_antisymm h330 h329
    have hS331 : Sep _ _ _ _ := hW328
    have e332 := hA327 0 (by decide)
    refine obl rfl ?_
    exact zf (v := dx0) Tryd.isAgg26 e332 (zh (hS331.blk (i := 1) rfl) rfl) (fun vals' hv _ => ⟨rfl, hv⟩)
   ·intro k333 vals w334 h337 h338 hW336 hA335
    refine obl rfl ?_
    exact zb (v := .int .i64 ((k : Nat) : Int)) rfl (fun vals' hv _ => ⟨rfl, hv⟩)
   ·intro k339 vals w340 h343 h344 hW342 hA341
    obtain rfl : k339 = 0 := Nat.le_antisymm h344 h343
    have hS345 : Sep _ _ _ _ := hW342
    have e346 := hA341 1 (by decide)
    have e347 := hA341 2 (by decide)
    refine obl rfl ?_
    have hi348 : k < x.cls.length := (by first | omega | (simp only [zq]; omega))
    exact zj (k := 2) (i := k) Tryd.underlying26 Tryd.sizeOf42 e346 hdx0.sl e347 hi348 (fun vals' hv _ => ⟨rfl, hv⟩)
   ·intro k349 vals w350 h353 h354 hW352 hA351
    have e355 := hA351 3 (by decide)
    refine obl rfl ?_
    exact xx e355 (fun vals' hv _ => ⟨rfl, hv⟩)
   ·intro k356 vals w357 h360 h361 hW359 hA358
    obtain rfl : k356 = 0 := Nat.le_antisymm h361 h360
    have hS362 : Sep _ _ _ _ := hW359
    have e363 := hA358 4 (by decide)
    refine obl rfl ?_
    have hi365 : k < x.cls.length := (by first | omega | (simp only [zq]; omega))
    obtain ⟨hce364, hde364_0, hoke364⟩ := hdx0.cel hi365
    rw [← zl default hi365] at hce364 hde364_0 hoke364
    have hsm366 : ((x.cls.getD k default).set).length * 8 ≤ 140737488355328 := hde364_0.small
    have hcw367 := hS362.cells hce364 (hdx0.foot (ne_of_lt hi365))
    exact zf (v := .int .i64 ((x.cls.getD k default).n)) Tryd.isAgg3 e363 (hcw367.get (j := 0) rfl) (fun vals' hv _ => ⟨rfl, hv⟩)
   ·intro k368 vals w369 h372 h373 hW371 hA370
    refine obl rfl ?_
    exact yK rfl (fun vals' hv _ => ⟨rfl, hv⟩)
   ·intro k374 vals w375 h378 h379 hW377 hA376
    obtain rfl : k374 = 0 := Nat.le_antisymm h379 h378
    have hS380 : Sep _ _ _ _ := hW377
    have e381 := hA376 6 (by decide)
    refine obl rfl ?_
    exact zf (v := dy0) Tryd.isAgg26 e381 (zh (hS380.blk (i := 0) rfl) rfl) (fun vals' hv _ => ⟨rfl, hv⟩)
   ·intro k382 vals w383 h386 h387 hW385 hA384
    refine obl rfl ?_
    exact zb (v := .int .i64 ((k : Nat) : Int)) rfl (fun vals' hv _ => ⟨rfl, hv⟩)
   ·intro k388 vals w389 h392 h393 hW391 hA390
    obtain rfl : k388 = 0 := Nat.le_antisymm h393 h392
    have hS394 : Sep _ _ _ _ := hW391
    have e395 := hA390 7 (by decide)
    have e396 := hA390 8 (by decide)
    refine obl rfl ?_
    have hi397 : k < y.cls.length := (by first | omega | (simp only [zq]; omega))
    exact zj (k := 2) (i := k) Tryd.underlying26 Tryd.sizeOf42 e395 hdy0.sl e396 hi397 (fun vals' hv _ => ⟨rfl, hv⟩)
   ·intro k398 vals w399 h402 h403 hW401 hA400
    have e404 := hA400 9 (by decide)
    refine obl rfl ?_
    exact xx e404 (fun vals' hv _ => ⟨rfl, hv⟩)
   ·intro k405 vals w406 h409 h410 hW408 hA407
    obtain rfl : k405 = 0 := Nat.le_antisymm h410 h409
    have hS411 : Sep _ _ _ _ := hW408
    have e412 := hA407 10 (by decide)
    refine obl rfl ?_
    have hi414 : k < y.cls.length := (by first | omega | (simp only [zq]; omega))
    obtain ⟨hce413, hde413_0, hoke413⟩ := hdy0.cel hi414
    rw [← zl default hi414] at hce413 hde413_0 hoke413
    have hsm415 : ((y.cls.getD k default).set).length * 8 ≤ 140737488355328 := hde413_0.small
    have hcw416 := hS411.cells hce413 (hdy0.foot (ne_of_lt hi414))
    exact zf (v := .int .i64 ((y.cls.getD k default).n)) Tryd.isAgg3 e412 (hcw416.get (j := 0) rfl) (fun vals' hv _ => ⟨rfl, hv⟩)
   ·intro k417 vals w418 h421 h422 hW420 hA419
    obtain rfl : k417 = 0 := Nat.le_antisymm h422 h421
    have hS423 : Sep _ _ _ _ := hW420
    have e424 := hA419 5 (by decide)
    have e425 := hA419 11 (by decide)
    refine obl rfl ?_
    exact yy (k := .i64) (a := (x.cls.getD k default).n) (b := (y.cls.getD k default).n) e424 e425 (fun vals' hv _ => ⟨rfl, hv⟩)
   ·intro k426 vals w427 h430 h431 hW429 hA428
    have e432 := hA428 12 (by decide)
    refine obl rfl ?_
    exact zb (v := .bool (!decide (((x.cls.getD k default).n) = ((y.cls.getD k default).n)))) e432 (fun vals' hv _ => ⟨rfl, hv⟩)
   ·intro k433 vals w434 h437 h438 hW436 hA435
    have e439 := hA435 13 (by decide)
    refine zy rfl rfl e439 (fun hb440 => ?_) (fun hb440 => fun vals' hv _ => ⟨trivial, hv.trans (if_neg hb440).symm⟩)
    have hl441 := hb440
    have hl441 := zz hl441
    exact yK rfl (fun vals' hv _ => ⟨rfl, hv.trans (if_pos hb440).symm⟩)
   ·intro k442 vals w443 h446 h447 hW445 hA444
    obtain rfl : k442 = 0 := Nat.le_antisymm h447 h446
    have hS448 : Sep _ _ _ _ := hW445
    have e449 := hA444 13 (by decide)
    have e450 : vals 14 = (if (!decide (((x.cls.getD k default).n) = ((y.cls.getD k default).n))) = false then (.pointer (some ⟨b2, 1, none⟩) : Value) else undef) := hA444 14 (by decide)
    refine zy rfl rfl e449 (fun hb451 => ?_) (fun hb451 => fun vals' hv _ => ⟨trivial, hv.trans (if_neg hb451).symm⟩)
    have hl452 := hb451
    have hl452 := zz hl452
    exact zf (v := dx0) Tryd.isAgg26 (show _ = (.pointer (some ⟨b2, 1, none⟩) : Value) from (Eq.trans e450 (if_pos hb451))) (zh (hS448.blk (i := 1) rfl) rfl) (fun vals' hv _ => ⟨rfl, hv.trans (if_pos hb451).symm⟩)
   ·intro k453 vals w454 h457 h458 hW456 hA455
    have e459 := hA455 13 (by decide)
    refine zy rfl rfl e459 (fun hb460 => ?_) (fun hb460 => fun vals' hv _ => ⟨trivial, hv.trans (if_neg hb460).symm⟩)
    have hl461 := hb460
    have hl461 := zz hl461
    exact zb (v := .int .i64 ((k : Nat) : Int)) rfl (fun vals' hv _ => ⟨rfl, hv.trans (if_pos hb460).symm⟩)
   ·intro k462 vals w463 h466 h467 hW465 hA464
    obtain rfl : k462 = 0 := Nat.le_antisymm h467 h466
    have hS468 : Sep _ _ _ _ := hW465
    have e469 := hA464 13 (by decide)
    have e470 : vals 15 = (if (!decide (((x.cls.getD k default).n) = ((y.cls.getD k default).n))) = false then (dx0 : Value) else undef) := hA464 15 (by decide)
    have e471 : vals 16 = (if (!decide (((x.cls.getD k default).n) = ((y.cls.getD k default).n))) = false then (.int .i64 ((k : Nat) : Int) : Value) else undef) := hA464 16 (by decide)
    refine zy rfl rfl e469 (fun hb472 => ?_) (fun hb472 => fun vals' hv _ => ⟨trivial, hv.trans (if_neg hb472).symm⟩)
    have hl473 := hb472
    have hl473 := zz hl473
    have hi474 : k < x.cls.length := (by first | omega | (simp only [zq]; omega))
    exact zj (k := 2) (i := k) Tryd.underlying26 Tryd.sizeOf42 (show _ = (dx0 : Value) from (Eq.trans e470 (if_pos hb472))) hdx0.sl (show _ = (.int .i64 ((k : Nat) : Int) : Value) from (Eq.trans e471 (if_pos hb472))) hi474 (fun vals' hv _ => ⟨rfl, hv.trans (if_pos hb472).symm⟩)
   ·intro k475 vals w476 h479 h480 hW478 hA477
    have e481 := hA477 13 (by decide)
    have e482 : vals 17 = (if (!decide (((x.cls.getD k default).n) = ((y.cls.getD k default).n))) = false then (.pointer (some ⟨sb dx0, so dx0 + k * 2, none⟩) : Value) else undef) := hA477 17 (by decide)
    refine zy rfl rfl e481 (fun hb483 => ?_) (fun hb483 => fun vals' hv _ => ⟨trivial, hv.trans (if_neg hb483).symm⟩)
    have hl484 := hb483
    have hl484 := zz hl484
    exact xe (show _ = (.pointer (some ⟨sb dx0, so dx0 + k * 2, none⟩) : Value) from (Eq.trans e482 (if_pos hb483))) (fun vals' hv _ => ⟨rfl, hv.trans (if_pos hb483).symm⟩)
   ·intro k485 vals w486 h489 h490 hW488 hA487
    obtain rfl : k485 = 0 := Nat.le_antisymm h490 h489
    have hS491 : Sep _ _ _ _ := hW488
    have e492 := hA487 13 (by decide)
    have e493 : vals 18 = (if (!decide (((x.cls.getD k default).n) = ((y.cls.getD k default).n))) = false then (.pointer (some ⟨sb dx0, so dx0 + k * 2 + 1, none⟩) : Value) else undef) := hA487 18 (by decide)
    refine zy rfl rfl e492 (fun hb494 => ?_) (fun hb494 => fun vals' hv _ => ⟨trivial, hv.trans (if_neg hb494).symm⟩)
    have hl495 := hb494
    have hl495 := zz hl495
    have hi497 : k < x.cls.length := (by first | omega | (simp only [zq]; omega))
    obtain ⟨hce496, hde496_0, hoke496⟩ := hdx0.cel hi497
    rw [← zl default hi497] at hce496 hde496_0 hoke496
    have hsm498 : ((x.cls.getD k default).set).length * 8 ≤ 140737488355328 := hde496_0.small
    have hcw499 := hS491.cells hce496 (hdx0.foot (ne_of_lt hi497))
    exact zf (v := (zk W (sb dx0) (so dx0 + k * 2 + 1))) Tryd.isAgg40 (show _ = (.pointer (some ⟨sb dx0, so dx0 + k * 2 + 1, none⟩) : Value) from (Eq.trans e493 (if_pos hb494))) (hcw499.get (j := 1) rfl) (fun vals' hv _ => ⟨rfl, hv.trans (if_pos hb494).symm⟩)
   ·intro k500 vals w501 h504 h505 hW503 hA502
    have e506 := hA502 13 (by decide)
    refine zy rfl rfl e506 (fun hb507 => ?_) (fun hb507 => fun vals' hv _ => ⟨trivial, hv.trans (if_neg hb507).symm⟩)
    have hl508 := hb507
    have hl508 := zz hl508
    exact yK rfl (fun vals' hv _ => ⟨rfl, hv.trans (if_pos hb507).symm⟩)
   ·intro k509 vals w510 h513 h514 hW512 hA511
    obtain rfl : k509 = 0 := Nat.le_antisymm h514 h513
    have hS515 : Sep _ _ _ _ := hW512
    have e516 := hA511 13 (by decide)
    have e517 : vals 20 = (if (!decide (((x.cls.getD k default).n) = ((y.cls.getD k default).n))) = false then (.pointer (some ⟨b6, 1, none⟩) : Value) else undef) := hA511 20 (by decide)
    refine zy rfl rfl e516 (fun hb518 => ?_) (fun hb518 => fun vals' hv _ => ⟨trivial, hv.trans (if_neg hb518).symm⟩)
    have hl519 := hb518
    have hl519 := zz hl519
    exact zf (v := dy0) Tryd.isAgg26 (show _ = (.pointer (some ⟨b6, 1, none⟩) : Value) from (Eq.trans e517 (if_pos hb518))) (zh (hS515.blk (i := 0) rfl) rfl) (fun vals' hv _ => ⟨rfl, hv.trans (if_pos hb518).symm⟩)
   ·intro k520 vals w521 h524 h525 hW523 hA522
    have e526 := hA522 13 (by decide)
    refine zy rfl rfl e526 (fun hb527 => ?_) (fun hb527 => fun vals' hv _ => ⟨trivial, hv.trans (if_neg hb527).symm⟩)
    have hl528 := hb527
    have hl528 := zz hl528
    exact zb (v := .int .i64 ((k : Nat) : Int)) rfl (fun vals' hv _ => ⟨rfl, hv.trans (if_pos hb527).symm⟩)
   ·intro k529 vals w530 h533 h534 hW532 hA531
    obtain rfl : k529 = 0 := Nat.le_antisymm h534 h533
    have hS535 : Sep _ _ _ _ := hW532
    have e536 := hA531 13 (by decide)
    have e537 : vals 21 = (if (!decide (((x.cls.getD k default).n) = ((y.cls.getD k default).n))) = false then (dy0 : Value) else undef) := hA531 21 (by decide)
    have e538 : vals 22 = (if (!decide (((x.cls.getD k default).n) = ((y.cls.getD k default).n))) = false then (.int .i64 ((k : Nat) : Int) : Value) else undef) := hA531 22 (by decide)
    refine zy rfl rfl e536 (fun hb539 => ?_) (fun hb539 => fun vals' hv _ => ⟨trivial, hv.trans (if_neg hb539).symm⟩)
    have hl540 := hb539
    have hl540 := zz hl540
    have hi541 : k < y.cls.length := (by first | omega | (simp only [zq]; omega))
    exact zj (k := 2) (i := k) Tryd.underlying26 Tryd.sizeOf42 (show _ = (dy0 : Value) from (Eq.trans e537 (if_pos hb539))) hdy0.sl (show _ = (.int .i64 ((k : Nat) : Int) : Value) from (Eq.trans e538 (if_pos hb539))) hi541 (fun vals' hv _ => ⟨rfl, hv.trans (if_pos hb539).symm⟩)
   ·intro k542 vals w543 h546 h547 hW545 hA544
    have e548 := hA544 13 (by decide)
    have e549 : vals 23 = (if (!decide (((x.cls.getD k default).n) = ((y.cls.getD k default).n))) = false then (.pointer (some ⟨sb dy0, so dy0 + k * 2, none⟩) : Value) else undef) := hA544 23 (by decide)
    refine zy rfl rfl e548 (fun hb550 => ?_) (fun hb550 => fun vals' hv _ => ⟨trivial, hv.trans (if_neg hb550).symm⟩)
    have hl551 := hb550
    have hl551 := zz hl551
    exact xe (show _ = (.pointer (some ⟨sb dy0, so dy0 + k * 2, none⟩) : Value) from (Eq.trans e549 (if_pos hb550))) (fun vals' hv _ => ⟨rfl, hv.trans (if_pos hb550).symm⟩)
   ·intro k552 vals w553 h556 h557 hW555 hA554
    obtain rfl : k552 = 0 := Nat.le_antisymm h557 h556
    have hS558 : Sep _ _ _ _ := hW555
    have e559 := hA554 13 (by decide)
    have e560 : vals 24 = (if (!decide (((x.cls.getD k default).n) = ((y.cls.getD k default).n))) = false then (.pointer (some ⟨sb dy0, so dy0 + k * 2 + 1, none⟩) : Value) else undef) := hA554 24 (by decide)
    refine zy rfl rfl e559 (fun hb561 => ?_) (fun hb561 => fun vals' hv _ => ⟨trivial, hv.trans (if_neg hb561).symm⟩)
    have hl562 := hb561
    have hl562 := zz hl562
    have hi564 : k < y.cls.length := (by first | omega | (simp only [zq]; omega))
    obtain ⟨hce563, hde563_0, hoke563⟩ := hdy0.cel hi564
    rw [← zl default hi564] at hce563 hde563_0 hoke563
    have hsm565 : ((y.cls.getD k default).set).length * 8 ≤ 140737488355328 := hde563_0.small
    have hcw566 := hS558.cells hce563 (hdy0.foot (ne_of_lt hi564))
    exact zf (v := (zk W (sb dy0) (so dy0 + k * 2 + 1))) Tryd.isAgg40 (show _ = (.pointer (some ⟨sb dy0, so dy0 + k * 2 + 1, none⟩) : Value) from (Eq.trans e560 (if_pos hb561))) (hcw566.get (j := 1) rfl) (fun vals' hv _ => ⟨rfl, hv.trans (if_pos hb561).symm⟩)
   ·intro k278 vals w279 h282 h283 hW281 hA280
    obtain rfl : k278 = 0 := Nat.le_antisymm h283 h282
    have hS284 : Sep _ _ _ _ := hW281
    have e285 := hA280 13 (by decide)
    have e286 : vals 19 = (if (!decide (((x.cls.getD k default).n) = ((y.cls.getD k default).n))) = false then ((zk W (sb dx0) (so dx0 + k * 2 + 1)) : Value) else undef) := hA280 19 (by decide)
    have e287 : vals 25 = (if (!decide (((x.cls.getD k default).n) = ((y.cls.getD k default).n))) = false then ((zk W (sb dy0) (so dy0 + k * 2 + 1)) : Value) else undef) := hA280 25 (by decide)
    refine zy rfl rfl e285 (fun hb288 => ?_) (fun hb288 vals' hv hv' => ?_)
    ·skip
     have hl289 := hb288
     have hl289 := zz hl289
     have hi291 : k < x.cls.length := (by first | omega | (simp only [zq]; omega))
     obtain ⟨hce290, hde290_0, hoke290⟩ := hdx0.cel hi291
     rw [← zl default hi291] at hce290 hde290_0 hoke290
     have hsm292 : ((x.cls.getD k default).set).length * 8 ≤ 140737488355328 := hde290_0.small
     have hcw293 := hS284.cells hce290 (hdx0.foot (ne_of_lt hi291))
     have hi295 : k < y.cls.length := (by first | omega | (simp only [zq]; omega))
     obtain ⟨hce294, hde294_0, hoke294⟩ := hdy0.cel hi295
     rw [← zl default hi295] at hce294 hde294_0 hoke294
     have hsm296 : ((y.cls.getD k default).set).length * 8 ≤ 140737488355328 := hde294_0.small
     have hcw297 := hS284.cells hce294 (hdy0.foot (ne_of_lt hi295))
     refine (zt (f := 19) (vals := [(zk W (sb dx0) (so dx0 + k * 2 + 1)), (zk W (sb dy0) (so dy0 + k * 2 + 1))]) (cap := []) rfl (yV ⟨(show _ = ((zk W (sb dx0) (so dx0 + k * 2 + 1)) : Value) from (Eq.trans e286 (if_pos hb288))), (show _ = ((zk W (sb dy0) (so dy0 + k * 2 + 1)) : Value) from (Eq.trans e287 (if_pos hb288))), trivial⟩) Tryd.call19 (YA (a := (x.cls.getD k default).set) (va := (zk W (sb dx0) (so dx0 + k * 2 + 1))) (b := (y.cls.getD k default).set) (vb := (zk W (sb dy0) (so dy0 + k * 2 + 1))) hde290_0 hde294_0 hS284) ?_)
     rintro _ w298 ⟨rfl, hS299⟩
     intro vals' hv hv'
     refine ⟨?_, trivial⟩
     show (vals' 26 = (if (!decide (((x.cls.getD k default).n) = ((y.cls.getD k default).n))) = false then (.bool (decide (((x.cls.getD k default).set) = ((y.cls.getD k default).set))) : Value) else undef)) ∧ Sep G W ((Blk b6 (y.cells dy0).toArray 68) :: (Blk b2 (x.cells dx0).toArray 68) :: Rs) w298
     exact ⟨(hv.trans (if_pos hb288).symm), hS299⟩
    ·skip
     refine ⟨?_, trivial⟩
     show (vals' 26 = (if (!decide (((x.cls.getD k default).n) = ((y.cls.getD k default).n))) = false then (.bool (decide (((x.cls.getD k default).set) = ((y.cls.getD k default).set))) : Value) else undef)) ∧ Sep G W ((Blk b6 (y.cells dy0).toArray 68) :: (Blk b2 (x.cells dx0).toArray 68) :: Rs) w279
     exact ⟨(hv.trans (if_neg hb288).symm), hS284⟩
   ·intro k567 vals w568 h571 h572 hW570 hA569
    obtain rfl : k567 = 1 := Nat.le_antisymm h572 h571
    obtain ⟨he300, hS573⟩ := hW570
    have e574 := hA569 13 (by decide)
    refine zy rfl rfl e574 (fun hb575 => ?_) (fun hb575 => fun vals' hv _ => ⟨trivial, hv.trans (if_neg hb575).symm⟩)
    have hl576 := hb575
    have hl576 := zz hl576
    exact yB (a := decide (((x.cls.getD k default).set) = ((y.cls.getD k default).set))) (show _ = (.bool (decide (((x.cls.getD k default).set) = ((y.cls.getD k default).set))) : Value) from (Eq.trans he300 (if_pos hb575))) (fun vals' hv _ => ⟨rfl, hv.trans (if_pos hb575).symm⟩)
   ·intro k577 vals w578 h581 h582 hW580 hA579
    have e583 := hA579 13 (by decide)
    have e584 : vals 27 = (if (!decide (((x.cls.getD k default).n) = ((y.cls.getD k default).n))) = false then (.bool (!(decide (((x.cls.getD k default).set) = ((y.cls.getD k default).set)))) : Value) else undef) := hA579 27 (by decide)
    refine obl rfl ?_
    exact zB (b := !decide (((x.cls.getD k default).n) = ((y.cls.getD k default).n))) (b' := !(decide (((x.cls.getD k default).set) = ((y.cls.getD k default).set)))) e583 (fun hbp => (show _ = (.bool (!(decide (((x.cls.getD k default).set) = ((y.cls.getD k default).set)))) : Value) from (Eq.trans e584 (if_pos hbp)))) (fun vals' hv _ => ⟨rfl, hv⟩)
   intro vals w585 hW586 hA587
   obtain ⟨he300, hS588⟩ := hW586
   have e589 := hA587 28 (by decide)
   refine yi (kv := [(2, .pointer (some ⟨b2, 0, none⟩)), (3, .pointer (some ⟨b6, 0, none⟩)), (5, .int .i64 ((k : Nat) : Int)), (20, .int .i64 ((k : Nat) : Int)), (21, .pointer (some ⟨b2, 1, none⟩)), (22, dx0), (23, .int .i64 ((x.cls.length : Nat) : Int)), (24, .bool true), (55, .bool ((!decide (((x.cls.getD k default).n) = ((y.cls.getD k default).n))) || (!(decide (((x.cls.getD k default).set) = ((y.cls.getD k default).set))))))]) ⟨rfl, rfl, rfl, rfl, rfl, rfl, rfl, rfl, (by exact e589), trivial⟩ (fun ρw585 => ?_)
   refine zg ?_
   cases hc590 : (!decide (((x.cls.getD k default).n) = ((y.cls.getD k default).n))) || (!(decide (((x.cls.getD k default).set) = ((y.cls.getD k default).set))))
   ·skip
    try simp only [zm] at hc590
    refine zo rfl ?_
    refine zx ?_
    refine za (by kernel_rfl) (fun _ => ?_)
    refine st (zb (v := .int .i64 ((k : Nat) : Int)) rfl ?_)
    have hr591 : InR ((k + 1 : Nat) : Int) := by first | omega | (simp only [zq]; omega)
    refine st (yg (r := ((k + 1 : Nat) : Int)) (k := .i64) (a := ((k : Nat) : Int)) (b := 1) rfl rfl (by rw [show (((k : Nat) : Int) + 1 : Int) = ((k + 1 : Nat) : Int) by first | omega | (simp only [zq]; omega)]; exact zO hr591) ?_)
    refine st (zd (v := .int .i64 ((k + 1 : Nat) : Int)) rfl ?_)
    refine zg ?_
    exact ⟨_, by omega, k + 1, _, rfl, zu ⟨rfl, rfl, rfl, trivial⟩, by omega, (yT hm (Ux hc590.1 hc590.2)), hS588⟩
   ·skip
    try simp only [zm] at hc590
    refine zp rfl ?_
    refine ze ?_
    refine za (by kernel_rfl) (fun _ => ?_)
    refine st (zd (v := .bool false) rfl ?_)
    refine zg ?_
    refine zv ?_
    refine zX Tryd.results34 (show _ = (.bool false : Value) from rfl) ?_
    have hS592 : Sep G W Rs w585 := hS588.sel 2 [] (Nat.le_add_left _ _) rfl rfl
    refine ⟨?_, hS592⟩
    rw [decide_eq_false (fun e => by subst e; first | omega | (simp at hc590))]
 ·skip
  try simp only [zm] at hc23
  refine zp rfl ?_
  refine ze ?_
  refine za (by kernel_rfl) (fun _ => ?_)
  refine st (zd (v := .bool false) rfl ?_)
  refine zg ?_
  refine zv ?_
  refine zX Tryd.results34 (show _ = (.bool false : Value) from rfl) ?_
  have hS593 : Sep G W Rs w7 := hS8.sel 2 [] (Nat.le_add_left _ _) rfl rfl
  refine ⟨?_, hS593⟩
  rw [decide_eq_false (fun e => by subst e; first | omega | (simp at hc23))]

theorem VV {d : Dcl} {k : Int × Int} {L : List Ent} (h : L.length ≤ 1000000) : Sta.Ok (zY d k L) := ⟨show InR ((zV k L : Nat) : Int) by have := Xe k L; omega⟩
end Go.Proofs.YtlblilbmpdejgaaDoor
