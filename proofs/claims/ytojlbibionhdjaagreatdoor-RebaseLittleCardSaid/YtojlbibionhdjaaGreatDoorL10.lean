import Derived.Test.YtojlbibionhdjaaGreatDoorL9
set_option linter.unusedSimpArgs false
set_option linter.unusedVariables false
set_option linter.unusedSectionVars false
set_option linter.deprecated false
set_option maxRecDepth 8000
set_option maxHeartbeats 4000000
open Go.Proofs.Tryz renaming underlying26 → kT, sizeOf64 → lT, call13 → mT, underlying41 → nT, sizeOf44 → oT, sizeOf25 → pT, isAgg64 → qT, call11 → rT, call9 → sT, results3 → tT, results29 → uT, isAgg25 → vT, isAgg44 → wT, call12 → kR, underlying31 → lR, zeroValue64 → mR, call16 → nR, zeroValue44 → oR
namespace Go.Proofs.YtojlbibionhdjaaGreatDoor
open Go.Proofs Go.RowKit

theorem JS {x y : Operand} {a0 a1 a2 b0 b1 b2 : Int} : ∀ w, (do eqGuard .neq 44 x y (.agg #[.int .i64 a0, .int .i64 a1, .int .i64 a2]) (.agg #[.int .i64 b0, .int .i64 b1, .int .i64 b2]); binOp .neq 44 (.agg #[.int .i64 a0, .int .i64 a1, .int .i64 a2]) (.agg #[.int .i64 b0, .int .i64 b1, .int .i64 b2]) : Sem Value).run Tryz.prog w = .ok (.bool (!decide (a0 = b0 ∧ a1 = b1 ∧ a2 = b2))) w := by
  intro w
  have h : ∀ w, (Op.equal 44 (.agg #[.int .i64 a0, .int .i64 a1, .int .i64 a2]) (.agg #[.int .i64 b0, .int .i64 b1, .int .i64 b2])).run Tryz.prog w = .ok (decide (a0 = b0 ∧ a1 = b1 ∧ a2 = b2)) w := by
    intro w
    rw [show decide (a0 = b0 ∧ a1 = b1 ∧ a2 = b2) = (a0 == b0 && a1 == b1 && a2 == b2) by by_cases h1 : a0 = b0 <;> by_cases h2 : a1 = b1 <;> by_cases h3 : a2 = b2 <;> simp [h1, h2, h3]]; unfold Op.equal Op.maxDepth; simp [go_sem]; by_cases h1 : a0 = b0 <;> by_cases h2 : a1 = b1 <;> by_cases h3 : a2 = b2 <;> simp [h1, h2, h3]
  simp [eqGuard, binOp, h, go_sem]
theorem VO {G : Nat → Prop} {W w : World} {Rs : List HP} {va : Value} {a : List Row} (ha : RdS W G va a) {vb : Value} {b : List Row} (hb : RdS W G vb b) (hS0 : Sep G W Rs w) : Ret Tryz.prog 29 [va, vb] w (fun r w' => r = (.bool (decide (a = b)) : Value) ∧ Sep G W Rs w') := by
 have has : _ * 24 ≤ _ := ha.small
 have hbs : _ * 24 ≤ _ := hb.small
 refine zi (args := [va, vb]) Tryz.func29 rfl rfl ?_
 refine za (R0 fun _ => st (aS (.bool false) (zb (za (za (R0 fun _ => st (mV va (st (zC (n := a.length) nT rfl ha.sl (st (mV vb (st (zC (n := b.length) nT rfl hb.sl (st (yy (k := .i64) (a := ((a.length : Nat) : Int)) (b := ((b.length : Nat) : Int)) rfl rfl (zb ?_))))))))))))))))
 cases g : !decide (((a.length : Nat) : Int) = ((b.length : Nat) : Int))
 have g := yZ g
 refine ze rfl (zo (za (za (R0 fun _ => st (aS (Iv 0) (zb (zu (yf (fun mq σ J => ∃ (k : Nat) (ρ : Env), mq = a.length - k ∧ σ = yd ρ [(0, va), (1, vb), (5, Iw k)] ∧ (k ≤ a.length) ∧ (∀ i, i < k → a.getD i default = b.getD i default) ∧ Sep G W Rs J) ⟨0, _, rfl, sSf, Nat.zero_le _, (fun i h => absurd h (Nat.not_lt_zero i)), hS0⟩ ?_))))))))
 rintro m3 σ4 w2 ⟨k, ρl1, rfl, rfl, hkk, hm, I⟩
 refine za (za (R0 fun _ => st (mV (Iw k) (st (mV va (st (zC (n := a.length) nT rfl ha.sl (st (zN (k := .i64) (a := ((k : Nat) : Int)) (b := ((a.length : Nat) : Int)) rfl rfl (zb ?_))))))))))
 cases m : decide (((k : Nat) : Int) < ((a.length : Nat) : Int))
 have m := fD m
 refine ze rfl (yg (zY (za (R0 fun _ => st (aS (.bool true) (zb (zm (zR uT (show _ = (.bool true : Value) from rfl) ?_))))))))
 refine ⟨?_, I⟩
 rw [decide_eq_true (QY (by omega) (fun i hi => hm i (by omega)))]
 have m := tD m
 refine zg rfl (zo (za (zu (za ?_))))
 refine WD4 (WF [fun vals J => Sep G W Rs J]) (AF [Vl 0 (va), Vl 1 (Iw k), Vl 2 (Ix (sb va) (so va + k * 3)), Vl 3 (.agg ((a.getD k default).cells).toArray), Vl 4 (vb), Vl 5 (Iw k), Vl 6 (Ix (sb vb) (so vb + k * 3)), Vl 7 (.agg ((b.getD k default).cells).toArray), Vl 8 (.bool (!decide ((a.getD k default).group = (b.getD k default).group ∧ (a.getD k default).value = (b.getD k default).value ∧ (a.getD k default).count = (b.getD k default).count)))]) [[], [], [0, 1], [0, 1, 2], [], [], [4, 5], [4, 5, 6], (rg 8)] [] [(0, 0), (0, 0), (0, 0), (0, 0), (0, 0), (0, 0), (0, 0), (0, 0), (0, 0)] I ⟨fun _ _ _ _ _ _ _ => obl rfl (mV va dR), fun _ _ _ _ _ _ _ => obl rfl (mV (Iw k) dR), ?_, ?_, fun _ _ _ _ _ _ _ => obl rfl (mV vb dR), fun _ _ _ _ _ _ _ => obl rfl (mV (Iw k) dR), ?_, ?_, ob1 0 fun _ _ _ o => obl rfl (YU (e := decide ((a.getD k default).group = (b.getD k default).group ∧ (a.getD k default).value = (b.getD k default).value ∧ (a.getD k default).count = (b.getD k default).count)) (xs := #[Iv ((a.getD k default).group), Iv ((a.getD k default).value), Iv ((a.getD k default).count)]) (ys := #[Iv ((b.getD k default).group), Iv ((b.getD k default).value), Iv ((b.getD k default).count)]) JS (o 3 dc) (o 7 dc) dR), trivial⟩ ?_
 refine ob1 0 fun _ _ _ u => (obl rfl ?_)
 have y : k < a.length := bo
 exact zl (k := 3) (i := k) nT oT (u 0 dc) ha.sl (u 1 dc) y dR
 refine ob1 0 fun _ _ (z : Sep _ _ _ _) A => (obl rfl ?_)
 have d : k < a.length := bo
 obtain ⟨j, s⟩ := ha.row d
 rw [← zw default d] at j s
 have v := z.cells j (ha.foot (ne_of_lt d))
 exact zf (k := 3) wT oT rfl (A 2 dc) v dR
 refine ob1 0 fun _ _ _ p => (obl rfl ?_)
 have B : k < b.length := bo
 exact zl (k := 3) (i := k) nT oT (p 4 dc) hb.sl (p 5 dc) B dR
 refine ob1 0 fun _ _ (C : Sep _ _ _ _) D => (obl rfl ?_)
 have f : k < b.length := bo
 obtain ⟨l, t⟩ := hb.row f
 rw [← zw default f] at l t
 have x := C.cells l (hb.foot (ne_of_lt f))
 exact zf (k := 3) wT oT rfl (D 6 dc) x dR
 intro vals w157 E F
 have q : Sep _ _ _ _ := E
 have K := F 8 dc
 refine zX (kv := [(0, va), (1, vb), (5, Iw k), (11, Iw k), (12, va), (13, Iw a.length), (14, .bool true), (25, .bool (!decide ((a.getD k default).group = (b.getD k default).group ∧ (a.getD k default).value = (b.getD k default).value ∧ (a.getD k default).count = (b.getD k default).count)))]) ⟨rfl, rfl, rfl, rfl, rfl, rfl, rfl, (by exact K), trivial⟩ (fun ρw157 => (zb ?_))
 cases c : !decide ((a.getD k default).group = (b.getD k default).group ∧ (a.getD k default).value = (b.getD k default).value ∧ (a.getD k default).count = (b.getD k default).count)
 have c := yZ c
 refine ze rfl (zo (R0 fun _ => st (mV (Iw k) ?_)))
 have H : InR ((k + 1 : Nat) : Int) := bo
 refine st (zQ (r := ((k + 1 : Nat) : Int)) (k := .i64) (a := ((k : Nat) : Int)) (b := 1) rfl rfl (by rw [show (((k : Nat) : Int) + 1 : Int) = ((k + 1 : Nat) : Int) from bo]; exact zx H) (st (aS (Iw (k + 1)) (zb ?_))))
 exact ⟨_, by omega, k + 1, _, rfl, sSf, by omega, (xe hm (Row.eq_iff.2 c)), q⟩
 have c := zV c
 refine zg rfl (za (R0 fun _ => st (aS (.bool false) (zb (zm (zR uT (show _ = (.bool false : Value) from rfl) ?_))))))
 refine ⟨?_, q⟩
 rw [decide_eq_false (fun e => by subst e; first | omega | (simp at c))]
 have g := zV g
 refine zg rfl (za (R0 fun _ => st (aS (.bool false) (zb (zm (zR uT (show _ = (.bool false : Value) from rfl) ?_))))))
 refine ⟨?_, hS0⟩
 rw [decide_eq_false (fun e => by subst e; first | omega | (simp at g))]

theorem UT {G : Nat → Prop} {W w : World} {Rs : List HP}  (hS0 : Sep G W Rs w) : Ret Tryz.prog 31 [] w (fun r w' => ∃ (bt : Nat) (bf : Nat) (bp : Nat), r = (.agg #[(.slice (some ⟨bt, 0, none⟩) 1 1), (.slice (some ⟨bp, 0, none⟩) 1 1)] : Value) ∧ Sep G W ((Blk bt #[(.slice (some ⟨bf, 0, none⟩) 1 1)] 84) :: (Blk bf #[.int .i64 (1), .int .i64 (1), .bool false, .slice none 0 0] 88) :: (Blk bp #[.int .i64 (0), .int .i64 (0), .int .i64 (1), .int .i64 (0), .int .i64 (2)] 46) :: Rs) w') := by
 refine zi (args := []) Tryz.func31 rfl rfl ?_
 refine za (R0 fun _ => st (zG Tryz.zeroValue25 ?_))
 intro w3 b2 j
 refine zb (za (zq (by kernel_rfl) (fun _ => (st (zP (parts' := [(0, Iv 1), (1, Iv 1)]) (v := .agg #[Iv 1, Iv 1, .bool false, (Iz)]) rfl yqh (st (zz (k := 4) (parts' := [(0, .agg #[Iv 1, Iv 1, .bool false, (Iz)])]) (c := #[Iv 1, Iv 1, .bool false, (Iz)]) Tryz.underlying82 Tryz.sizeOf88 Tryz.zeroValue88 (by decide) rfl (by kernel_rfl) ?_)))))))
 intro w7 e l
 refine st (zP (parts' := [(0, (Iy e 1 1))]) (v := .agg #[(Iy e 1 1)]) rfl yqh (st (zz (k := 1) (parts' := [(0, .agg #[(Iy e 1 1)])]) (c := #[(Iy e 1 1)]) Tryz.underlying22 Tryz.sizeOf84 Tryz.zeroValue84 (by decide) rfl (by kernel_rfl) ?_)))
 intro w11 a m
 refine st (zP (parts' := [(2, Iv 1), (4, Iv 2)]) (v := .agg #[Iv 0, Iv 0, Iv 1, Iv 0, Iv 2]) rfl yqh (st (zz (k := 5) (parts' := [(0, .agg #[Iv 0, Iv 0, Iv 1, Iv 0, Iv 2])]) (c := #[Iv 0, Iv 0, Iv 1, Iv 0, Iv 2]) Tryz.underlying23 Tryz.sizeOf46 Tryz.zeroValue46 (by decide) rfl (by kernel_rfl) ?_)))
 intro w15 d h
 have f := (((hS0.new j).new l).new m).new h
 refine st (zP (parts' := [(0, (Iy a 1 1)), (1, (Iy d 1 1))]) (v := .agg #[(Iy a 1 1), (Iy d 1 1)]) rfl yqh (stn (zA (v := .agg #[(Iy a 1 1), (Iy d 1 1)]) (c' := #[(Iy a 1 1), (Iy d 1 1)]) pT rfl rfl (f.b3) (yn ⟨rfl, rfl, trivial⟩) yqc rfl ?_)))
 intro w17 i
 have g := f.pt3 i
 refine zb (zm (Un (b := b2) Tryz.results31 vT pT rfl rfl (CellsAt.all (g.b3)) ?_))
 refine ⟨a, e, d, rfl, (g.s4_bca)⟩

set_option maxHeartbeats 8000000 in
set_option maxRecDepth 20000 in
theorem ZI {G : Nat → Prop} {W w : World} {Rs : List HP} (hKN : RdS W G (.slice (some ⟨0, 0, none⟩) 6 6) kindsL) (hS0 : Sep G W Rs w) : Ret Tryz.prog 9 [] w (fun r w' => r = (.bool true : Value) ∧ Sep G W Rs w') := by
 have hKNs : _ * 8 ≤ _ := hKN.small
 refine zi (args := []) Tryz.func9 rfl rfl ?_
 refine za ?_
 refine zq (by kernel_rfl) (fun _ => ?_)
 refine st (zt (v := .bool false) rfl ?_)
 refine zb ?_
 refine za ?_
 refine zq (by kernel_rfl) (fun _ => ?_)
 refine st (zK (f := 31) (vals := []) (cap := []) rfl rfl Tryz.call31 (UT  hS0) ?_)
 rintro _ w4 ⟨bt1, bf2, bp3, rfl, hS5⟩
 have hS6 := hS5.mv1
 have hS7 : Sep G W ((RowE (α := Fld) (shr G W) 88 (.slice (some ⟨bf2, 0, none⟩) 1 1) [(⟨1, 1, false, []⟩ : Fld)]) :: (Blk bt1 #[(.slice (some ⟨bf2, 0, none⟩) 1 1)] 84) :: (Blk bp3 #[.int .i64 (0), .int .i64 (0), .int .i64 (1), .int .i64 (0), .int .i64 (2)] 46) :: Rs) w4 := Sep.blkRow (src := (shr G W)) (l := [(⟨1, 1, false, []⟩ : Fld)]) (css := [(⟨1, 1, false, []⟩ : Fld).cells (.slice none 0 0)]) hS6 rfl ⟨fun _ _ => ⟨_, rfl, (RdS.nil _ _), (show Fld.Ok (⟨1, 1, false, []⟩ : Fld) from ⟨by decide, by decide⟩)⟩, trivial⟩ (by first | decide | (simp only [List.length_cons, List.length_nil]; decide)) (show 1 ≤ maxLen by decide)
 have hr8 := hS7.row (i := 0) rfl
 have hr8s : _ * 48 ≤ _ := hr8.2
 obtain ⟨G9, hA11, hB12, hS13, hk14⟩ := hS7.lend
 have hrd15 := RowE.rdB hA11 hB12
 have hrd15s : _ * 48 ≤ _ := hrd15.small
 have hS16 : Sep G9 w4 ((RowE (α := Typ) (shr G9 w4) 84 (.slice (some ⟨bt1, 0, none⟩) 1 1) [(⟨[(⟨1, 1, false, []⟩ : Fld)]⟩ : Typ)]) :: (Blk bp3 #[.int .i64 (0), .int .i64 (0), .int .i64 (1), .int .i64 (0), .int .i64 (2)] 46) :: Rs) w4 := Sep.blkRow (src := (shr G9 w4)) (l := [(⟨[(⟨1, 1, false, []⟩ : Fld)]⟩ : Typ)]) (css := [(⟨[(⟨1, 1, false, []⟩ : Fld)]⟩ : Typ).cells (.slice (some ⟨bf2, 0, none⟩) 1 1)]) hS13 rfl ⟨fun _ _ => ⟨_, rfl, hrd15, (show Typ.Ok (⟨[(⟨1, 1, false, []⟩ : Fld)]⟩ : Typ) from ⟨⟩)⟩, trivial⟩ (by first | decide | (simp only [List.length_cons, List.length_nil]; decide)) (show 1 ≤ maxLen by decide)
 have hr17 := hS16.row (i := 0) rfl
 have hr17s : _ * 24 ≤ _ := hr17.2
 obtain ⟨G18, hA20, hB21, hS22, hk23⟩ := hS16.lend
 have hrd24 := RowE.rdB hA20 hB21
 have hrd24s : _ * 24 ≤ _ := hrd24.small
 have hS25 : Sep G18 w4 ((RowE (α := Prj) own 46 (.slice (some ⟨bp3, 0, none⟩) 1 1) [(⟨0, 0, 1, 0, 2⟩ : Prj)]) :: Rs) w4 := Sep.blkRow (src := own) (l := [(⟨0, 0, 1, 0, 2⟩ : Prj)]) (css := [(⟨0, 0, 1, 0, 2⟩ : Prj).cells]) hS22 rfl ⟨fun _ _ => ⟨rfl, (show Prj.Ok (⟨0, 0, 1, 0, 2⟩ : Prj) from ⟨by decide, by decide, by decide, by decide, by decide⟩)⟩, trivial⟩ (by first | decide | (simp only [List.length_cons, List.length_nil]; decide)) (show 1 ≤ maxLen by decide)
 have hr26 := hS25.row (i := 0) rfl
 have hr26s : _ * 40 ≤ _ := hr26.2
 obtain ⟨G27, hA29, hB30, hS31, hk32⟩ := hS25.lend
 have hrd33 := RowE.rd hA29
 have hrd33s : _ * 40 ≤ _ := hrd33.small
 refine st (zK (f := 12) (vals := [.agg (dC.cells (.slice (some ⟨bt1, 0, none⟩) 1 1) (.slice (some ⟨bp3, 0, none⟩) 1 1)).toArray, .int .i64 (2)]) (cap := []) rfl rfl kR (VC (d := dC) (every := 2) (RdS.base hrd24 hB30) hrd33 (⟨⟩ : Dcl.Ok dC) (by decide) (RdS.base (RdS.base (RdS.base hKN hB12) hB21) hB30) hS31 (Xt)) ?_)
 rintro _ w37 ⟨b34, ev35, rfl, hev36, hS38⟩
 have hS39 := hk32 _ _ hS38
 have hS40 := hk23 _ _ hS39
 have hS41 := hk14 _ _ hS40
 have hS42 : Sep G W ((RowE (α := Fld) (shr G W) 88 (.slice (some ⟨bf2, 0, none⟩) 1 1) [(⟨1, 1, false, []⟩ : Fld)]) :: (RowE (α := Prj) own 46 (.slice (some ⟨bp3, 0, none⟩) 1 1) [(⟨0, 0, 1, 0, 2⟩ : Prj)]) :: (BaseO b34 dC ev35 ([] : List Ev)) :: Rs) w37 := hS41.sel 4 [0, 2, 3] (Nat.le_add_left _ _) rfl rfl
 refine st (zt (v := .pointer (some ⟨b34, 0, none⟩)) rfl ?_)
 refine zb ?_
 refine za ?_
 obtain rfl : ev35 = 2 := by omega
 have hS43 : Sep G W ((RowE (α := Fld) (shr G W) 88 (.slice (some ⟨bf2, 0, none⟩) 1 1) [(⟨1, 1, false, []⟩ : Fld)]) :: (RowE (α := Prj) own 46 (.slice (some ⟨bp3, 0, none⟩) 1 1) [(⟨0, 0, 1, 0, 2⟩ : Prj)]) :: (BaseO b34 dC 2 ([] : List Ev)) :: Rs) w37 := hS42
 refine zq (by kernel_rfl) (fun _ => ?_)
 refine st (zK (f := 30) (vals := []) (cap := []) rfl rfl Tryz.call30 (zaR  hS43) ?_)
 rintro v44 w45 ⟨_, rfl, hS46⟩
 have hr47 := hS46.row (i := 0) rfl
 have hr47s : _ * 96 ≤ _ := hr47.2
 refine st (zt (v := v44) rfl ?_)
 refine zb ?_
 refine za ?_
 refine za ?_
 have hf5 : fiv.length = 5 := rfl
 obtain ⟨G48, hA50, hB51, hS52, hk53⟩ := hS46.lend
 have hrd54 := RowE.rd hA50
 have hrd54s : _ * 96 ≤ _ := hrd54.small
 refine Vs ((fun pp0 pp1 pp2 pp3 => WF [fun vals wq => Sep G48 w45 (pp0 :: pp1 :: (BaseO b34 dC 2 ([] : List Ev)) :: Rs) wq, fun vals wq => (vals 6 = (.int .i64 ((((fiv.take 3).length - zH 2 (fiv.take 3) ([] : List Ev)) : Nat) : Int) : Value)) ∧ Sep G48 w45 ((BaseO b34 dC 2 (fiv.take 3)) :: pp0 :: pp1 :: Rs) wq, fun _ _ => True, fun vals wq => (vals 6 = (.int .i64 ((((fiv.take 3).length - zH 2 (fiv.take 3) ([] : List Ev)) : Nat) : Int) : Value)) ∧ (vals 13 = (.int .i64 ((((fiv.take 4).length - zH 2 (fiv.take 4) (fiv.take 3)) : Nat) : Int) : Value)) ∧ Sep G48 w45 (pp2 :: pp0 :: pp1 :: Rs) wq, fun _ _ => True, fun _ _ => True, fun _ _ => True, fun vals wq => ∃ (b319 : Nat), (vals 6 = (.int .i64 ((((fiv.take 3).length - zH 2 (fiv.take 3) ([] : List Ev)) : Nat) : Int) : Value)) ∧ (vals 13 = (.int .i64 ((((fiv.take 4).length - zH 2 (fiv.take 4) (fiv.take 3)) : Nat) : Int) : Value)) ∧ (vals 30 = ((.slice (some ⟨b319, 0, none⟩) 4 4) : Value)) ∧ Sep G48 w45 ((Blk b319 #[.int .i64 ((fiv.getD 0 default).origin), .int .i64 ((fiv.getD 0 default).seq), .int .i64 ((fiv.getD 0 default).lam), (zF w45 (sb v44) (so v44 + 0 * 10 + 3)), .int .i64 ((fiv.getD 0 default).typ), .int .i64 ((fiv.getD 0 default).agg), .int .i64 ((fiv.getD 0 default).field), .int .i64 ((fiv.getD 0 default).op), .int .i64 ((fiv.getD 0 default).arg), .int .i64 ((fiv.getD 0 default).key), .int .i64 ((fiv.getD 1 default).origin), .int .i64 ((fiv.getD 1 default).seq), .int .i64 ((fiv.getD 1 default).lam), (zF w45 (sb v44) (so v44 + 1 * 10 + 3)), .int .i64 ((fiv.getD 1 default).typ), .int .i64 ((fiv.getD 1 default).agg), .int .i64 ((fiv.getD 1 default).field), .int .i64 ((fiv.getD 1 default).op), .int .i64 ((fiv.getD 1 default).arg), .int .i64 ((fiv.getD 1 default).key), .int .i64 ((fiv.getD 2 default).origin), .int .i64 ((fiv.getD 2 default).seq), .int .i64 ((fiv.getD 2 default).lam), (zF w45 (sb v44) (so v44 + 2 * 10 + 3)), .int .i64 ((fiv.getD 2 default).typ), .int .i64 ((fiv.getD 2 default).agg), .int .i64 ((fiv.getD 2 default).field), .int .i64 ((fiv.getD 2 default).op), .int .i64 ((fiv.getD 2 default).arg), .int .i64 ((fiv.getD 2 default).key), .int .i64 ((fiv.getD 4 default).origin), .int .i64 ((fiv.getD 4 default).seq), .int .i64 ((fiv.getD 4 default).lam), (zF w45 (sb v44) (so v44 + 4 * 10 + 3)), .int .i64 ((fiv.getD 4 default).typ), .int .i64 ((fiv.getD 4 default).agg), .int .i64 ((fiv.getD 4 default).field), .int .i64 ((fiv.getD 4 default).op), .int .i64 ((fiv.getD 4 default).arg), .int .i64 ((fiv.getD 4 default).key)] 64) :: pp2 :: pp0 :: pp1 :: Rs) wq, fun _ _ => True, fun _ _ => True, fun _ _ => True, fun _ _ => True, fun _ _ => True, fun _ _ => True, fun _ _ => True, fun vals wq => ∃ (b319 : Nat), (vals 6 = (.int .i64 ((((fiv.take 3).length - zH 2 (fiv.take 3) ([] : List Ev)) : Nat) : Int) : Value)) ∧ (vals 13 = (.int .i64 ((((fiv.take 4).length - zH 2 (fiv.take 4) (fiv.take 3)) : Nat) : Int) : Value)) ∧ (vals 30 = ((.slice (some ⟨b319, 0, none⟩) 4 4) : Value)) ∧ (vals 31 = (.int .i64 ((([(fiv.getD 0 default), (fiv.getD 1 default), (fiv.getD 2 default), (fiv.getD 4 default)].length - zH 2 [(fiv.getD 0 default), (fiv.getD 1 default), (fiv.getD 2 default), (fiv.getD 4 default)] (fiv.take 4)) : Nat) : Int) : Value)) ∧ Sep G48 w45 ((RowE (α := Ev) (shr G48 w45) 64 (.slice (some ⟨b319, 0, none⟩) 4 4) [(fiv.getD 0 default), (fiv.getD 1 default), (fiv.getD 2 default), (fiv.getD 4 default)]) :: pp3 :: pp0 :: pp1 :: Rs) wq, fun _ _ => True, fun _ _ => True, fun _ _ => True, fun _ _ => True, fun _ _ => True, fun _ _ => True, fun _ _ => True, fun _ _ => True, fun _ _ => True, fun _ _ => True, fun _ _ => True, fun _ _ => True, fun _ _ => True, fun _ _ => True, fun _ _ => True, fun vals wq => ∃ (b319 : Nat) (v400 : Value), (vals 6 = (.int .i64 ((((fiv.take 3).length - zH 2 (fiv.take 3) ([] : List Ev)) : Nat) : Int) : Value)) ∧ (vals 13 = (.int .i64 ((((fiv.take 4).length - zH 2 (fiv.take 4) (fiv.take 3)) : Nat) : Int) : Value)) ∧ (vals 30 = ((.slice (some ⟨b319, 0, none⟩) 4 4) : Value)) ∧ (vals 31 = (.int .i64 ((([(fiv.getD 0 default), (fiv.getD 1 default), (fiv.getD 2 default), (fiv.getD 4 default)].length - zH 2 [(fiv.getD 0 default), (fiv.getD 1 default), (fiv.getD 2 default), (fiv.getD 4 default)] (fiv.take 4)) : Nat) : Int) : Value)) ∧ (vals 36 = (v400 : Value)) ∧ Sep G48 w45 (pp3 :: (RowE (α := Row) own 44 v400 (yV dC [(fiv.getD 0 default), (fiv.getD 1 default), (fiv.getD 2 default), (fiv.getD 4 default)] 0)) :: (RowE (α := Ev) (shr G48 w45) 64 (.slice (some ⟨b319, 0, none⟩) 4 4) [(fiv.getD 0 default), (fiv.getD 1 default), (fiv.getD 2 default), (fiv.getD 4 default)]) :: pp0 :: pp1 :: Rs) wq, fun _ _ => True, fun _ _ => True, fun _ _ => True, fun _ _ => True, fun _ _ => True, fun _ _ => True, fun _ _ => True, fun _ _ => True, fun _ _ => True, fun _ _ => True, fun _ _ => True, fun _ _ => True, fun _ _ => True, fun _ _ => True, fun _ _ => True, fun vals wq => ∃ (b319 : Nat) (b423 : Nat), (vals 6 = (.int .i64 ((((fiv.take 3).length - zH 2 (fiv.take 3) ([] : List Ev)) : Nat) : Int) : Value)) ∧ (vals 13 = (.int .i64 ((((fiv.take 4).length - zH 2 (fiv.take 4) (fiv.take 3)) : Nat) : Int) : Value)) ∧ (vals 30 = ((.slice (some ⟨b319, 0, none⟩) 4 4) : Value)) ∧ (vals 31 = (.int .i64 ((([(fiv.getD 0 default), (fiv.getD 1 default), (fiv.getD 2 default), (fiv.getD 4 default)].length - zH 2 [(fiv.getD 0 default), (fiv.getD 1 default), (fiv.getD 2 default), (fiv.getD 4 default)] (fiv.take 4)) : Nat) : Int) : Value)) ∧ (vals 38 = ((.slice (some ⟨b423, 0, none⟩) 1 1) : Value)) ∧ Sep G48 w45 ((Blk b423 ((⟨0, 23, 4⟩ : Row).cells).toArray 44) :: (RowE (α := Ev) (shr G48 w45) 64 (.slice (some ⟨b319, 0, none⟩) 4 4) [(fiv.getD 0 default), (fiv.getD 1 default), (fiv.getD 2 default), (fiv.getD 4 default)]) :: pp3 :: pp0 :: pp1 :: Rs) wq, fun _ _ => True, fun _ _ => True, fun _ _ => True, fun _ _ => True, fun _ _ => True, fun _ _ => True, fun _ _ => True, fun _ _ => True, fun _ _ => True, fun _ _ => True, fun _ _ => True, fun _ _ => True, fun _ _ => True, fun _ _ => True, fun _ _ => True, fun vals wq => ∃ (b319 : Nat) (v400 : Value) (b423 : Nat), (vals 6 = (.int .i64 ((((fiv.take 3).length - zH 2 (fiv.take 3) ([] : List Ev)) : Nat) : Int) : Value)) ∧ (vals 13 = (.int .i64 ((((fiv.take 4).length - zH 2 (fiv.take 4) (fiv.take 3)) : Nat) : Int) : Value)) ∧ (vals 30 = ((.slice (some ⟨b319, 0, none⟩) 4 4) : Value)) ∧ (vals 31 = (.int .i64 ((([(fiv.getD 0 default), (fiv.getD 1 default), (fiv.getD 2 default), (fiv.getD 4 default)].length - zH 2 [(fiv.getD 0 default), (fiv.getD 1 default), (fiv.getD 2 default), (fiv.getD 4 default)] (fiv.take 4)) : Nat) : Int) : Value)) ∧ (vals 36 = (v400 : Value)) ∧ (vals 38 = ((.slice (some ⟨b423, 0, none⟩) 1 1) : Value)) ∧ Sep G48 w45 ((Blk b423 ((⟨0, 23, 4⟩ : Row).cells).toArray 44) :: pp3 :: (RowE (α := Row) own 44 v400 (yV dC [(fiv.getD 0 default), (fiv.getD 1 default), (fiv.getD 2 default), (fiv.getD 4 default)] 0)) :: (RowE (α := Ev) (shr G48 w45) 64 (.slice (some ⟨b319, 0, none⟩) 4 4) [(fiv.getD 0 default), (fiv.getD 1 default), (fiv.getD 2 default), (fiv.getD 4 default)]) :: pp0 :: pp1 :: Rs) wq, fun _ _ => True, fun _ _ => True, fun _ _ => True, fun _ _ => True, fun _ _ => True, fun _ _ => True, fun _ _ => True, fun _ _ => True, fun _ _ => True, fun _ _ => True, fun _ _ => True, fun _ _ => True, fun _ _ => True, fun _ _ => True, fun _ _ => True, fun _ _ => True, fun _ _ => True, fun _ _ => True, fun _ _ => True, fun _ _ => True, fun _ _ => True, fun _ _ => True, fun _ _ => True, fun _ _ => True, fun _ _ => True, fun _ _ => True, fun _ _ => True, fun _ _ => True, fun _ _ => True, fun _ _ => True, fun _ _ => True, fun _ _ => True, fun _ _ => True, fun _ _ => True, fun _ _ => True, fun _ _ => True, fun _ _ => True, fun _ _ => True, fun _ _ => True, fun _ _ => True, fun _ _ => True, fun _ _ => True, fun _ _ => True, fun _ _ => True, fun _ _ => True, fun _ _ => True, fun _ _ => True, fun _ _ => True, fun _ _ => True, fun _ _ => True, fun _ _ => True, fun _ _ => True, fun _ _ => True, fun _ _ => True, fun _ _ => True, fun _ _ => True, fun _ _ => True, fun _ _ => True, fun _ _ => True, fun _ _ => True, fun _ _ => True, fun _ _ => True, fun _ _ => True, fun vals wq => ∃ (b319 : Nat) (v400 : Value) (b423 : Nat), (vals 6 = (.int .i64 ((((fiv.take 3).length - zH 2 (fiv.take 3) ([] : List Ev)) : Nat) : Int) : Value)) ∧ (vals 13 = (.int .i64 ((((fiv.take 4).length - zH 2 (fiv.take 4) (fiv.take 3)) : Nat) : Int) : Value)) ∧ (vals 30 = ((.slice (some ⟨b319, 0, none⟩) 4 4) : Value)) ∧ (vals 31 = (.int .i64 ((([(fiv.getD 0 default), (fiv.getD 1 default), (fiv.getD 2 default), (fiv.getD 4 default)].length - zH 2 [(fiv.getD 0 default), (fiv.getD 1 default), (fiv.getD 2 default), (fiv.getD 4 default)] (fiv.take 4)) : Nat) : Int) : Value)) ∧ (vals 36 = (v400 : Value)) ∧ (vals 38 = ((.slice (some ⟨b423, 0, none⟩) 1 1) : Value)) ∧ (vals 39 = (.bool (decide ((yV dC [(fiv.getD 0 default), (fiv.getD 1 default), (fiv.getD 2 default), (fiv.getD 4 default)] 0) = [(⟨0, 23, 4⟩ : Row)])) : Value)) ∧ Sep G48 w45 ((RowE (α := Row) own 44 v400 (yV dC [(fiv.getD 0 default), (fiv.getD 1 default), (fiv.getD 2 default), (fiv.getD 4 default)] 0)) :: (RowE (α := Row) own 44 (.slice (some ⟨b423, 0, none⟩) 1 1) [(⟨0, 23, 4⟩ : Row)]) :: pp3 :: (RowE (α := Ev) (shr G48 w45) 64 (.slice (some ⟨b319, 0, none⟩) 4 4) [(fiv.getD 0 default), (fiv.getD 1 default), (fiv.getD 2 default), (fiv.getD 4 default)]) :: pp0 :: pp1 :: Rs) wq]) (RowE (α := Fld) (shr G W) 88 (.slice (some ⟨bf2, 0, none⟩) 1 1) [(⟨1, 1, false, []⟩ : Fld)]) (RowE (α := Prj) own 46 (.slice (some ⟨bp3, 0, none⟩) 1 1) [(⟨0, 0, 1, 0, 2⟩ : Prj)]) (BaseO b34 dC 2 (fiv.take 4)) (BaseO b34 dC 2 [(fiv.getD 0 default), (fiv.getD 1 default), (fiv.getD 2 default), (fiv.getD 4 default)])) (AF [Vl 0 (.pointer (some ⟨b34, 0, none⟩)), Vl 1 (.bool false), Vl 2 (.bool false), Vl 3 (.pointer (some ⟨b34, 0, none⟩)), Vl 4 (v44), Vl 5 ((yT 10 v44 0 3)), fun _ => True, Vl 7 (.bool false), Vl 8 (.bool false), Vl 9 (.bool false), Vl 10 (.pointer (some ⟨b34, 0, none⟩)), Vl 11 (v44), Vl 12 ((yT 10 v44 0 4)), fun _ => True, Vl 14 (.bool false), Vl 15 (.bool false), Vl 16 (.bool false), Vl 17 (.pointer (some ⟨b34, 0, none⟩)), Vl 18 (v44), Vl 19 (.pointer (some ⟨sb v44, so v44 + 0 * 10, none⟩)), Vl 20 (.agg ((fiv.getD 0 default).cells (zF w45 (sb v44) (so v44 + 0 * 10 + 3))).toArray), Vl 21 (v44), Vl 22 (.pointer (some ⟨sb v44, so v44 + 1 * 10, none⟩)), Vl 23 (.agg ((fiv.getD 1 default).cells (zF w45 (sb v44) (so v44 + 1 * 10 + 3))).toArray), Vl 24 (v44), Vl 25 (.pointer (some ⟨sb v44, so v44 + 2 * 10, none⟩)), Vl 26 (.agg ((fiv.getD 2 default).cells (zF w45 (sb v44) (so v44 + 2 * 10 + 3))).toArray), Vl 27 (v44), Vl 28 (.pointer (some ⟨sb v44, so v44 + 4 * 10, none⟩)), Vl 29 (.agg ((fiv.getD 4 default).cells (zF w45 (sb v44) (so v44 + 4 * 10 + 3))).toArray), fun _ => True, fun _ => True, Vl 32 (.bool false), Vl 33 (.bool false), Vl 34 (.bool false), Vl 35 (.pointer (some ⟨b34, 0, none⟩)), fun _ => True, Vl 37 (.agg ((⟨0, 23, 4⟩ : Row).cells).toArray), fun _ => True, fun _ => True, Vl 40 (.bool false), Vl 41 (.bool false)]) [[], [0], [0, 1], [0, 1, 2], [0, 1, 2], [0, 1, 2, 4], [0, 1, 2, 3, 4, 5], [0, 1, 2, 3, 4, 5, 6], [0, 1, 2, 3, 4, 5, 6, 7], [0, 1, 2, 3, 4, 5, 6, 7, 8], [0, 1, 2, 3, 4, 5, 6, 7, 8, 9], [0, 1, 2, 3, 4, 5, 6, 7, 8, 9], [0, 1, 2, 3, 4, 5, 6, 7, 8, 9, 11], [0, 1, 2, 3, 4, 5, 6, 7, 8, 9, 10, 11, 12], [0, 1, 2, 3, 4, 5, 6, 7, 8, 9, 10, 11, 12, 13], [0, 1, 2, 3, 4, 5, 6, 7, 8, 9, 10, 11, 12, 13, 14], [0, 1, 2, 3, 4, 5, 6, 7, 8, 9, 10, 11, 12, 13, 14, 15], [0, 1, 2, 3, 4, 5, 6, 7, 8, 9, 10, 11, 12, 13, 14, 15, 16], [0, 1, 2, 3, 4, 5, 6, 7, 8, 9, 10, 11, 12, 13, 14, 15, 16], [0, 1, 2, 3, 4, 5, 6, 7, 8, 9, 10, 11, 12, 13, 14, 15, 16, 18], [0, 1, 2, 3, 4, 5, 6, 7, 8, 9, 10, 11, 12, 13, 14, 15, 16, 18, 19], [0, 1, 2, 3, 4, 5, 6, 7, 8, 9, 10, 11, 12, 13, 14, 15, 16], [0, 1, 2, 3, 4, 5, 6, 7, 8, 9, 10, 11, 12, 13, 14, 15, 16, 21], [0, 1, 2, 3, 4, 5, 6, 7, 8, 9, 10, 11, 12, 13, 14, 15, 16, 21, 22], [0, 1, 2, 3, 4, 5, 6, 7, 8, 9, 10, 11, 12, 13, 14, 15, 16], [0, 1, 2, 3, 4, 5, 6, 7, 8, 9, 10, 11, 12, 13, 14, 15, 16, 24], [0, 1, 2, 3, 4, 5, 6, 7, 8, 9, 10, 11, 12, 13, 14, 15, 16, 24, 25], [0, 1, 2, 3, 4, 5, 6, 7, 8, 9, 10, 11, 12, 13, 14, 15, 16], [0, 1, 2, 3, 4, 5, 6, 7, 8, 9, 10, 11, 12, 13, 14, 15, 16, 27], [0, 1, 2, 3, 4, 5, 6, 7, 8, 9, 10, 11, 12, 13, 14, 15, 16, 27, 28], [0, 1, 2, 3, 4, 5, 6, 7, 8, 9, 10, 11, 12, 13, 14, 15, 16, 18, 19, 20, 21, 22, 23, 24, 25, 26, 27, 28, 29], [0, 1, 2, 3, 4, 5, 6, 7, 8, 9, 10, 11, 12, 13, 14, 15, 16, 17, 18, 19, 20, 21, 22, 23, 24, 25, 26, 27, 28, 29, 30], [0, 1, 2, 3, 4, 5, 6, 7, 8, 9, 10, 11, 12, 13, 14, 15, 16, 17, 18, 19, 20, 21, 22, 23, 24, 25, 26, 27, 28, 29, 30, 31], [0, 1, 2, 3, 4, 5, 6, 7, 8, 9, 10, 11, 12, 13, 14, 15, 16, 17, 18, 19, 20, 21, 22, 23, 24, 25, 26, 27, 28, 29, 30, 31, 32], [0, 1, 2, 3, 4, 5, 6, 7, 8, 9, 10, 11, 12, 13, 14, 15, 16, 17, 18, 19, 20, 21, 22, 23, 24, 25, 26, 27, 28, 29, 30, 31, 32, 33], [0, 1, 2, 3, 4, 5, 6, 7, 8, 9, 10, 11, 12, 13, 14, 15, 16, 17, 18, 19, 20, 21, 22, 23, 24, 25, 26, 27, 28, 29, 30, 31, 32, 33, 34], [0, 1, 2, 3, 4, 5, 6, 7, 8, 9, 10, 11, 12, 13, 14, 15, 16, 17, 18, 19, 20, 21, 22, 23, 24, 25, 26, 27, 28, 29, 30, 31, 32, 33, 34, 35], [0, 1, 2, 3, 4, 5, 6, 7, 8, 9, 10, 11, 12, 13, 14, 15, 16, 17, 18, 19, 20, 21, 22, 23, 24, 25, 26, 27, 28, 29, 30, 31, 32, 33, 34], [0, 1, 2, 3, 4, 5, 6, 7, 8, 9, 10, 11, 12, 13, 14, 15, 16, 17, 18, 19, 20, 21, 22, 23, 24, 25, 26, 27, 28, 29, 30, 31, 32, 33, 34, 37], [0, 1, 2, 3, 4, 5, 6, 7, 8, 9, 10, 11, 12, 13, 14, 15, 16, 17, 18, 19, 20, 21, 22, 23, 24, 25, 26, 27, 28, 29, 30, 31, 32, 33, 34, 35, 36, 37, 38], [0, 1, 2, 3, 4, 5, 6, 7, 8, 9, 10, 11, 12, 13, 14, 15, 16, 17, 18, 19, 20, 21, 22, 23, 24, 25, 26, 27, 28, 29, 30, 31, 32, 33, 34, 35, 36, 37, 38, 39], [0, 1, 2, 3, 4, 5, 6, 7, 8, 9, 10, 11, 12, 13, 14, 15, 16, 17, 18, 19, 20, 21, 22, 23, 24, 25, 26, 27, 28, 29, 30, 31, 32, 33, 34, 35, 36, 37, 38, 39, 40]] [6, 13, 30, 31, 36, 38, 39] [[0], [0], [0], [0], [0], [0], [0], [1], [1], [1], [1], [1], [1], [1], [3], [3], [3], [3, 7], [3], [3], [3], [3], [3], [3], [3], [3], [3], [3], [3], [3], [3], [7], [15], [15], [15], [15, 47], [15, 47], [15, 31], [15, 31], [63], [127], [127]] (by kernel_rfl) (by kernel_rfl) (by kernel_rfl) rfl (by kernel_rfl) (by kernel_rfl) (by decide) (fun _ h1 h2 h3 h4 _ => hS52.same h1 h2 h3 h4) ?_ (xl ⟨dA, dA, dA, dA, dA, dA, dT, dA, dA, dA, dA, dA, dA, dT, dA, dA, dA, dA, dA, dA, dA, dA, dA, dA, dA, dA, dA, dA, dA, dA, dT, dT, dA, dA, dA, dA, dT, dA, dT, dT, dA, dA, trivial⟩) ⟨?_, ?_, ?_, ?_, ?_, ?_, ?_, ?_, ?_, ?_, ?_, ?_, ?_, ?_, ?_, ?_, ?_, ?_, ?_, ?_, ?_, ?_, ?_, ?_, ?_, ?_, ?_, ?_, ?_, ?_, ?_, ?_, ?_, ?_, ?_, ?_, ?_, ?_, ?_, ?_, ?_, ?_, trivial⟩ ?_
 ·intro k vals vals' w hv h
  have e : ∀ j ∈ ([6, 13, 30, 31, 36, 38, 39] : List Nat), vals' j = vals j := hv
  match k, h with
  | 0, h => exact h
  | 1, h => exact (by simpa only [WF, List.getElem?_cons_zero, List.getElem?_cons_succ, e 6 (by decide)] using h)
  | 2, h => exact h
  | 3, h => exact (by simpa only [WF, List.getElem?_cons_zero, List.getElem?_cons_succ, e 6 (by decide), e 13 (by decide)] using h)
  | 4, h => exact h
  | 5, h => exact h
  | 6, h => exact h
  | 7, h => exact (by simpa only [WF, List.getElem?_cons_zero, List.getElem?_cons_succ, e 6 (by decide), e 13 (by decide), e 30 (by decide)] using h)
  | 8, h => exact h
  | 9, h => exact h
  | 10, h => exact h
  | 11, h => exact h
  | 12, h => exact h
  | 13, h => exact h
  | 14, h => exact h
  | 15, h => exact (by simpa only [WF, List.getElem?_cons_zero, List.getElem?_cons_succ, e 6 (by decide), e 13 (by decide), e 30 (by decide), e 31 (by decide)] using h)
  | 16, h => exact h
  | 17, h => exact h
  | 18, h => exact h
  | 19, h => exact h
  | 20, h => exact h
  | 21, h => exact h
  | 22, h => exact h
  | 23, h => exact h
  | 24, h => exact h
  | 25, h => exact h
  | 26, h => exact h
  | 27, h => exact h
  | 28, h => exact h
  | 29, h => exact h
  | 30, h => exact h
  | 31, h => exact (by simpa only [WF, List.getElem?_cons_zero, List.getElem?_cons_succ, e 6 (by decide), e 13 (by decide), e 30 (by decide), e 31 (by decide), e 36 (by decide)] using h)
  | 32, h => exact h
  | 33, h => exact h
  | 34, h => exact h
  | 35, h => exact h
  | 36, h => exact h
  | 37, h => exact h
  | 38, h => exact h
  | 39, h => exact h
  | 40, h => exact h
  | 41, h => exact h
  | 42, h => exact h
  | 43, h => exact h
  | 44, h => exact h
  | 45, h => exact h
  | 46, h => exact h
  | 47, h => exact (by simpa only [WF, List.getElem?_cons_zero, List.getElem?_cons_succ, e 6 (by decide), e 13 (by decide), e 30 (by decide), e 31 (by decide), e 38 (by decide)] using h)
  | 48, h => exact h
  | 49, h => exact h
  | 50, h => exact h
  | 51, h => exact h
  | 52, h => exact h
  | 53, h => exact h
  | 54, h => exact h
  | 55, h => exact h
  | 56, h => exact h
  | 57, h => exact h
  | 58, h => exact h
  | 59, h => exact h
  | 60, h => exact h
  | 61, h => exact h
  | 62, h => exact h
  | 63, h => exact (by simpa only [WF, List.getElem?_cons_zero, List.getElem?_cons_succ, e 6 (by decide), e 13 (by decide), e 30 (by decide), e 31 (by decide), e 36 (by decide), e 38 (by decide)] using h)
  | 64, h => exact h
  | 65, h => exact h
  | 66, h => exact h
  | 67, h => exact h
  | 68, h => exact h
  | 69, h => exact h
  | 70, h => exact h
  | 71, h => exact h
  | 72, h => exact h
  | 73, h => exact h
  | 74, h => exact h
  | 75, h => exact h
  | 76, h => exact h
  | 77, h => exact h
  | 78, h => exact h
  | 79, h => exact h
  | 80, h => exact h
  | 81, h => exact h
  | 82, h => exact h
  | 83, h => exact h
  | 84, h => exact h
  | 85, h => exact h
  | 86, h => exact h
  | 87, h => exact h
  | 88, h => exact h
  | 89, h => exact h
  | 90, h => exact h
  | 91, h => exact h
  | 92, h => exact h
  | 93, h => exact h
  | 94, h => exact h
  | 95, h => exact h
  | 96, h => exact h
  | 97, h => exact h
  | 98, h => exact h
  | 99, h => exact h
  | 100, h => exact h
  | 101, h => exact h
  | 102, h => exact h
  | 103, h => exact h
  | 104, h => exact h
  | 105, h => exact h
  | 106, h => exact h
  | 107, h => exact h
  | 108, h => exact h
  | 109, h => exact h
  | 110, h => exact h
  | 111, h => exact h
  | 112, h => exact h
  | 113, h => exact h
  | 114, h => exact h
  | 115, h => exact h
  | 116, h => exact h
  | 117, h => exact h
  | 118, h => exact h
  | 119, h => exact h
  | 120, h => exact h
  | 121, h => exact h
  | 122, h => exact h
  | 123, h => exact h
  | 124, h => exact h
  | 125, h => exact h
  | 126, h => exact h
  | 127, h => exact (by simpa only [WF, List.getElem?_cons_zero, List.getElem?_cons_succ, e 6 (by decide), e 13 (by decide), e 30 (by decide), e 31 (by decide), e 36 (by decide), e 38 (by decide), e 39 (by decide)] using h)
  | _ + 128, _ => trivial
 ·intro k480 vals w481 hk484 hW483 hA482
  refine obl rfl ?_
  exact zr (v := .pointer (some ⟨b34, 0, none⟩)) rfl (fun vals' hv _ => ⟨rfl, hv⟩)
 ·intro k485 vals w486 hk489 hW488 hA487
  have hk4892 : k485 ∈ [0] := hk489
  simp only [List.mem_cons, List.not_mem_nil, or_false] at hk4892
  subst hk4892
  have hS490 : Sep _ _ _ _ := hW488
  have e491 := hA487 0 (by decide)
  refine obl rfl ?_
  exact XQ (b := b34) (o := 0) lR e491 (fun vals' hv _ => ⟨rfl, hv⟩)
 ·intro k492 vals w493 hk496 hW495 hA494
  have e497 := hA494 1 (by decide)
  refine obl rfl ?_
  exact zr (v := .bool false) e497 (fun vals' hv _ => ⟨rfl, hv⟩)
 ·intro k498 vals w499 hk502 hW501 hA500
  have e503 := hA500 2 (by decide)
  refine zI rfl rfl e503 (fun _ => ?_) (fun hb => absurd rfl hb)
  exact zr (v := .pointer (some ⟨b34, 0, none⟩)) rfl (fun vals' hv _ => ⟨rfl, hv⟩)
 ·intro k504 vals w505 hk508 hW507 hA506
  have e509 := hA506 2 (by decide)
  refine zI rfl rfl e509 (fun _ => ?_) (fun hb => absurd rfl hb)
  exact zr (v := v44) rfl (fun vals' hv _ => ⟨rfl, hv⟩)
 ·intro k510 vals w511 hk514 hW513 hA512
  have hk5142 : k510 ∈ [0] := hk514
  simp only [List.mem_cons, List.not_mem_nil, or_false] at hk5142
  subst hk5142
  have hS515 : Sep _ _ _ _ := hW513
  have e516 := hA512 2 (by decide)
  have e517 := hA512 4 (by decide)
  refine zI rfl rfl e516 (fun _ => ?_) (fun hb => absurd rfl hb)
  exact xj (j := 3) (k := 10) (n := fiv.length) kT lT e517 hrd54.sl rfl (by first | omega | (simp only [lens]; omega)) (fun vals' hv _ => ⟨rfl, hv⟩)
 ·intro k518 vals w519 hk522 hW521 hA520
  have hk5222 : k518 ∈ [0] := hk522
  simp only [List.mem_cons, List.not_mem_nil, or_false] at hk5222
  subst hk5222
  have hS523 : Sep _ _ _ _ := hW521
  have e524 := hA520 2 (by decide)
  have e525 := hA520 3 (by decide)
  have e526 := hA520 5 (by decide)
  refine zI rfl rfl e524 (fun _ => ?_) (fun hb => absurd rfl hb)
  have e527 := hA520 2 (by decide)
  have e528 := hA520 3 (by decide)
  have e529 := hA520 5 (by decide)
  have h530 := RdS.sub_hi (j := 3) hrd54 (by first | omega | (simp only [List.length_drop, List.length_take]; omega))
  have h530s : _ * 96 ≤ _ := h530.small
  have hS531 := hS523.mv2
  refine (zK (f := 13) (vals := [.pointer (some ⟨b34, 0, none⟩), (yT 10 v44 0 3)]) (cap := []) rfl (yL ⟨e528, e529, trivial⟩) mT (yW (l := fiv.take 3) (vl := (yT 10 v44 0 3)) h530 (RdS.base hKN hB51) hS531 (Xt) (Ys) ((by decide +kernel)) ((by decide +kernel)) ((by decide +kernel))) ?_)
  rintro _ w532 ⟨rfl, hS533⟩
  intro vals' hv hv'
  refine ⟨?_, trivial⟩
  show (vals' 6 = (.int .i64 ((((fiv.take 3).length - zH 2 (fiv.take 3) ([] : List Ev)) : Nat) : Int) : Value)) ∧ Sep G48 w45 ((BaseO b34 dC 2 (fiv.take 3)) :: (RowE (α := Fld) (shr G W) 88 (.slice (some ⟨bf2, 0, none⟩) 1 1) [(⟨1, 1, false, []⟩ : Fld)]) :: (RowE (α := Prj) own 46 (.slice (some ⟨bp3, 0, none⟩) 1 1) [(⟨0, 0, 1, 0, 2⟩ : Prj)]) :: Rs) w532
  exact ⟨hv, hS533⟩
 ·intro k534 vals w535 hk538 hW537 hA536
  have hk5382 : k534 ∈ [1] := hk538
  simp only [List.mem_cons, List.not_mem_nil, or_false] at hk5382
  subst hk5382
  obtain ⟨he109, hS539⟩ := hW537
  have e540 := hA536 2 (by decide)
  refine zI rfl rfl e540 (fun _ => ?_) (fun hb => absurd rfl hb)
  have hl541 : (!decide (((((fiv.take 3).length - zH 2 (fiv.take 3) ([] : List Ev)) : Nat) : Int) = 3)) = false := by decide +kernel
  exact yy (k := .i64) (a := ((((fiv.take 3).length - zH 2 (fiv.take 3) ([] : List Ev)) : Nat) : Int)) (b := 3) he109 rfl (fun vals' hv _ => ⟨rfl, hv.trans (congrArg Value.bool hl541)⟩)
 ·intro k542 vals w543 hk546 hW545 hA544
  have e547 := hA544 2 (by decide)
  have e548 := hA544 7 (by decide)
  refine obl rfl ?_
  exact zZ (v := .bool false) e547 e548 (fun vals' hv _ => ⟨rfl, hv⟩)
 ·intro k549 vals w550 hk553 hW552 hA551
  have e554 := hA551 8 (by decide)
  refine obl rfl ?_
  exact zr (v := .bool false) e554 (fun vals' hv _ => ⟨rfl, hv⟩)
 ·intro k555 vals w556 hk559 hW558 hA557
  have e560 := hA557 9 (by decide)
  refine zI rfl rfl e560 (fun _ => ?_) (fun hb => absurd rfl hb)
  exact zr (v := .pointer (some ⟨b34, 0, none⟩)) rfl (fun vals' hv _ => ⟨rfl, hv⟩)
 ·intro k561 vals w562 hk565 hW564 hA563
  have e566 := hA563 9 (by decide)
  refine zI rfl rfl e566 (fun _ => ?_) (fun hb => absurd rfl hb)
  exact zr (v := v44) rfl (fun vals' hv _ => ⟨rfl, hv⟩)
 ·intro k567 vals w568 hk571 hW570 hA569
  have hk5712 : k567 ∈ [1] := hk571
  simp only [List.mem_cons, List.not_mem_nil, or_false] at hk5712
  subst hk5712
  obtain ⟨he109, hS572⟩ := hW570
  have e573 := hA569 9 (by decide)
  have e574 := hA569 11 (by decide)
  refine zI rfl rfl e573 (fun _ => ?_) (fun hb => absurd rfl hb)
  exact xj (j := 4) (k := 10) (n := fiv.length) kT lT e574 hrd54.sl rfl (by first | omega | (simp only [lens]; omega)) (fun vals' hv _ => ⟨rfl, hv⟩)
 ·intro k575 vals w576 hk579 hW578 hA577
  have hk5792 : k575 ∈ [1] := hk579
  simp only [List.mem_cons, List.not_mem_nil, or_false] at hk5792
  subst hk5792
  obtain ⟨he109, hS580⟩ := hW578
  have e581 := hA577 9 (by decide)
  have e582 := hA577 10 (by decide)
  have e583 := hA577 12 (by decide)
  refine zI rfl rfl e581 (fun _ => ?_) (fun hb => absurd rfl hb)
  have e584 := hA577 9 (by decide)
  have e585 := hA577 10 (by decide)
  have e586 := hA577 12 (by decide)
  have h587 := RdS.sub_hi (j := 4) hrd54 (by first | omega | (simp only [List.length_drop, List.length_take]; omega))
  have h587s : _ * 96 ≤ _ := h587.small
  refine (zK (f := 13) (vals := [.pointer (some ⟨b34, 0, none⟩), (yT 10 v44 0 4)]) (cap := []) rfl (yL ⟨e585, e586, trivial⟩) mT (yW (l := fiv.take 4) (vl := (yT 10 v44 0 4)) h587 (RdS.base hKN hB51) hS580 (Xt) (Ys) ((by decide +kernel)) ((by decide +kernel)) ((by decide +kernel))) ?_)
  rintro _ w588 ⟨rfl, hS589⟩
  intro vals' hv hv'
  refine ⟨?_, trivial⟩
  show (vals' 6 = (.int .i64 ((((fiv.take 3).length - zH 2 (fiv.take 3) ([] : List Ev)) : Nat) : Int) : Value)) ∧ (vals' 13 = (.int .i64 ((((fiv.take 4).length - zH 2 (fiv.take 4) (fiv.take 3)) : Nat) : Int) : Value)) ∧ Sep G48 w45 ((BaseO b34 dC 2 (fiv.take 4)) :: (RowE (α := Fld) (shr G W) 88 (.slice (some ⟨bf2, 0, none⟩) 1 1) [(⟨1, 1, false, []⟩ : Fld)]) :: (RowE (α := Prj) own 46 (.slice (some ⟨bp3, 0, none⟩) 1 1) [(⟨0, 0, 1, 0, 2⟩ : Prj)]) :: Rs) w588
  exact ⟨(by rw [hv' 6 (by decide)]; exact he109), hv, hS589⟩
 ·intro k590 vals w591 hk594 hW593 hA592
  have hk5942 : k590 ∈ [3] := hk594
  simp only [List.mem_cons, List.not_mem_nil, or_false] at hk5942
  subst hk5942
  obtain ⟨he109, he166, hS595⟩ := hW593
  have e596 := hA592 9 (by decide)
  refine zI rfl rfl e596 (fun _ => ?_) (fun hb => absurd rfl hb)
  have hl597 : (!decide (((((fiv.take 4).length - zH 2 (fiv.take 4) (fiv.take 3)) : Nat) : Int) = 1)) = false := by decide +kernel
  exact yy (k := .i64) (a := ((((fiv.take 4).length - zH 2 (fiv.take 4) (fiv.take 3)) : Nat) : Int)) (b := 1) he166 rfl (fun vals' hv _ => ⟨rfl, hv.trans (congrArg Value.bool hl597)⟩)
 ·intro k598 vals w599 hk602 hW601 hA600
  have e603 := hA600 9 (by decide)
  have e604 := hA600 14 (by decide)
  refine obl rfl ?_
  exact zZ (v := .bool false) e603 e604 (fun vals' hv _ => ⟨rfl, hv⟩)
 ·intro k605 vals w606 hk609 hW608 hA607
  have e610 := hA607 15 (by decide)
  refine obl rfl ?_
  exact zr (v := .bool false) e610 (fun vals' hv _ => ⟨rfl, hv⟩)
 ·intro k611 vals w612 hk615 hW614 hA613
  have e616 := hA613 16 (by decide)
  refine zI rfl rfl e616 (fun _ => ?_) (fun hb => absurd rfl hb)
  exact zr (v := .pointer (some ⟨b34, 0, none⟩)) rfl (fun vals' hv _ => ⟨rfl, hv⟩)
 ·intro k617 vals w618 hk621 hW620 hA619
  have e622 := hA619 16 (by decide)
  refine zI rfl rfl e622 (fun _ => ?_) (fun hb => absurd rfl hb)
  exact zr (v := v44) rfl (fun vals' hv _ => ⟨rfl, hv⟩)
 ·intro k623 vals w624 hk627 hW626 hA625
  have hk6272 : k623 ∈ [3] := hk627
  simp only [List.mem_cons, List.not_mem_nil, or_false] at hk6272
  subst hk6272
  obtain ⟨he109, he166, hS628⟩ := hW626
  have e629 := hA625 16 (by decide)
  have e630 := hA625 18 (by decide)
  refine zI rfl rfl e629 (fun _ => ?_) (fun hb => absurd rfl hb)
  have hi631 : 0 < fiv.length := (by first | omega | (simp only [lens]; omega))
  exact zl (k := 10) (i := 0) kT lT e630 hrd54.sl rfl hi631 (fun vals' hv _ => ⟨rfl, hv⟩)
 ·intro k632 vals w633 hk636 hW635 hA634
  have hk6362 : k632 ∈ [3] := hk636
  simp only [List.mem_cons, List.not_mem_nil, or_false] at hk6362
  subst hk6362
  obtain ⟨he109, he166, hS637⟩ := hW635
  have e638 := hA634 16 (by decide)
  have e639 := hA634 19 (by decide)
  refine zI rfl rfl e638 (fun _ => ?_) (fun hb => absurd rfl hb)
  have hi641 : 0 < fiv.length := (by first | omega | (simp only [lens]; omega))
  obtain ⟨hce640, hde640_0, hoke640⟩ := hrd54.ev hi641
  rw [← zw default hi641] at hce640 hde640_0 hoke640
  have hsm642 : ((fiv.getD 0 default).deps).length * 8 ≤ 140737488355328 := hde640_0.small
  have hcw643 := hS637.cells hce640 (hrd54.foot (ne_of_lt hi641))
  exact zf (k := 10) qT lT rfl e639 hcw643 (fun vals' hv _ => ⟨rfl, hv⟩)
 ·intro k644 vals w645 hk648 hW647 hA646
  have e649 := hA646 16 (by decide)
  refine zI rfl rfl e649 (fun _ => ?_) (fun hb => absurd rfl hb)
  exact zr (v := v44) rfl (fun vals' hv _ => ⟨rfl, hv⟩)
 ·intro k650 vals w651 hk654 hW653 hA652
  have hk6542 : k650 ∈ [3] := hk654
  simp only [List.mem_cons, List.not_mem_nil, or_false] at hk6542
  subst hk6542
  obtain ⟨he109, he166, hS655⟩ := hW653
  have e656 := hA652 16 (by decide)
  have e657 := hA652 21 (by decide)
  refine zI rfl rfl e656 (fun _ => ?_) (fun hb => absurd rfl hb)
  have hi658 : 1 < fiv.length := (by first | omega | (simp only [lens]; omega))
  exact zl (k := 10) (i := 1) kT lT e657 hrd54.sl rfl hi658 (fun vals' hv _ => ⟨rfl, hv⟩)
 ·intro k659 vals w660 hk663 hW662 hA661
  have hk6632 : k659 ∈ [3] := hk663
  simp only [List.mem_cons, List.not_mem_nil, or_false] at hk6632
  subst hk6632
  obtain ⟨he109, he166, hS664⟩ := hW662
  have e665 := hA661 16 (by decide)
  have e666 := hA661 22 (by decide)
  refine zI rfl rfl e665 (fun _ => ?_) (fun hb => absurd rfl hb)
  have hi668 : 1 < fiv.length := (by first | omega | (simp only [lens]; omega))
  obtain ⟨hce667, hde667_0, hoke667⟩ := hrd54.ev hi668
  rw [← zw default hi668] at hce667 hde667_0 hoke667
  have hsm669 : ((fiv.getD 1 default).deps).length * 8 ≤ 140737488355328 := hde667_0.small
  have hcw670 := hS664.cells hce667 (hrd54.foot (ne_of_lt hi668))
  exact zf (k := 10) qT lT rfl e666 hcw670 (fun vals' hv _ => ⟨rfl, hv⟩)
 ·intro k671 vals w672 hk675 hW674 hA673
  have e676 := hA673 16 (by decide)
  refine zI rfl rfl e676 (fun _ => ?_) (fun hb => absurd rfl hb)
  exact zr (v := v44) rfl (fun vals' hv _ => ⟨rfl, hv⟩)
 ·intro k677 vals w678 hk681 hW680 hA679
  have hk6812 : k677 ∈ [3] := hk681
  simp only [List.mem_cons, List.not_mem_nil, or_false] at hk6812
  subst hk6812
  obtain ⟨he109, he166, hS682⟩ := hW680
  have e683 := hA679 16 (by decide)
  have e684 := hA679 24 (by decide)
  refine zI rfl rfl e683 (fun _ => ?_) (fun hb => absurd rfl hb)
  have hi685 : 2 < fiv.length := (by first | omega | (simp only [lens]; omega))
  exact zl (k := 10) (i := 2) kT lT e684 hrd54.sl rfl hi685 (fun vals' hv _ => ⟨rfl, hv⟩)
 ·intro k686 vals w687 hk690 hW689 hA688
  have hk6902 : k686 ∈ [3] := hk690
  simp only [List.mem_cons, List.not_mem_nil, or_false] at hk6902
  subst hk6902
  obtain ⟨he109, he166, hS691⟩ := hW689
  have e692 := hA688 16 (by decide)
  have e693 := hA688 25 (by decide)
  refine zI rfl rfl e692 (fun _ => ?_) (fun hb => absurd rfl hb)
  have hi695 : 2 < fiv.length := (by first | omega | (simp only [lens]; omega))
  obtain ⟨hce694, hde694_0, hoke694⟩ := hrd54.ev hi695
  rw [← zw default hi695] at hce694 hde694_0 hoke694
  have hsm696 : ((fiv.getD 2 default).deps).length * 8 ≤ 140737488355328 := hde694_0.small
  have hcw697 := hS691.cells hce694 (hrd54.foot (ne_of_lt hi695))
  exact zf (k := 10) qT lT rfl e693 hcw697 (fun vals' hv _ => ⟨rfl, hv⟩)
 ·intro k698 vals w699 hk702 hW701 hA700
  have e703 := hA700 16 (by decide)
  refine zI rfl rfl e703 (fun _ => ?_) (fun hb => absurd rfl hb)
  exact zr (v := v44) rfl (fun vals' hv _ => ⟨rfl, hv⟩)
 ·intro k704 vals w705 hk708 hW707 hA706
  have hk7082 : k704 ∈ [3] := hk708
  simp only [List.mem_cons, List.not_mem_nil, or_false] at hk7082
  subst hk7082
  obtain ⟨he109, he166, hS709⟩ := hW707
  have e710 := hA706 16 (by decide)
  have e711 := hA706 27 (by decide)
  refine zI rfl rfl e710 (fun _ => ?_) (fun hb => absurd rfl hb)
  have hi712 : 4 < fiv.length := (by first | omega | (simp only [lens]; omega))
  exact zl (k := 10) (i := 4) kT lT e711 hrd54.sl rfl hi712 (fun vals' hv _ => ⟨rfl, hv⟩)
 ·intro k713 vals w714 hk717 hW716 hA715
  have hk7172 : k713 ∈ [3] := hk717
  simp only [List.mem_cons, List.not_mem_nil, or_false] at hk7172
  subst hk7172
  obtain ⟨he109, he166, hS718⟩ := hW716
  have e719 := hA715 16 (by decide)
  have e720 := hA715 28 (by decide)
  refine zI rfl rfl e719 (fun _ => ?_) (fun hb => absurd rfl hb)
  have hi722 : 4 < fiv.length := (by first | omega | (simp only [lens]; omega))
  obtain ⟨hce721, hde721_0, hoke721⟩ := hrd54.ev hi722
  rw [← zw default hi722] at hce721 hde721_0 hoke721
  have hsm723 : ((fiv.getD 4 default).deps).length * 8 ≤ 140737488355328 := hde721_0.small
  have hcw724 := hS718.cells hce721 (hrd54.foot (ne_of_lt hi722))
  exact zf (k := 10) qT lT rfl e720 hcw724 (fun vals' hv _ => ⟨rfl, hv⟩)
 ·intro k725 vals w726 hk729 hW728 hA727
  have hk7292 : k725 ∈ [3] := hk729
  simp only [List.mem_cons, List.not_mem_nil, or_false] at hk7292
  subst hk7292
  obtain ⟨he109, he166, hS730⟩ := hW728
  have e731 := hA727 16 (by decide)
  have e732 := hA727 20 (by decide)
  have e733 := hA727 23 (by decide)
  have e734 := hA727 26 (by decide)
  have e735 := hA727 29 (by decide)
  refine zI rfl rfl e731 (fun _ => ?_) (fun hb => absurd rfl hb)
  have e736 := hA727 16 (by decide)
  have e737 := hA727 20 (by decide)
  have e738 := hA727 23 (by decide)
  have e739 := hA727 26 (by decide)
  have e740 := hA727 29 (by decide)
  refine (zz (k := 10) (parts' := [(0, .agg ((fiv.getD 0 default).cells (zF w45 (sb v44) (so v44 + 0 * 10 + 3))).toArray), (1, .agg ((fiv.getD 1 default).cells (zF w45 (sb v44) (so v44 + 1 * 10 + 3))).toArray), (2, .agg ((fiv.getD 2 default).cells (zF w45 (sb v44) (so v44 + 2 * 10 + 3))).toArray), (3, .agg ((fiv.getD 4 default).cells (zF w45 (sb v44) (so v44 + 4 * 10 + 3))).toArray)]) (c := #[.int .i64 ((fiv.getD 0 default).origin), .int .i64 ((fiv.getD 0 default).seq), .int .i64 ((fiv.getD 0 default).lam), (zF w45 (sb v44) (so v44 + 0 * 10 + 3)), .int .i64 ((fiv.getD 0 default).typ), .int .i64 ((fiv.getD 0 default).agg), .int .i64 ((fiv.getD 0 default).field), .int .i64 ((fiv.getD 0 default).op), .int .i64 ((fiv.getD 0 default).arg), .int .i64 ((fiv.getD 0 default).key), .int .i64 ((fiv.getD 1 default).origin), .int .i64 ((fiv.getD 1 default).seq), .int .i64 ((fiv.getD 1 default).lam), (zF w45 (sb v44) (so v44 + 1 * 10 + 3)), .int .i64 ((fiv.getD 1 default).typ), .int .i64 ((fiv.getD 1 default).agg), .int .i64 ((fiv.getD 1 default).field), .int .i64 ((fiv.getD 1 default).op), .int .i64 ((fiv.getD 1 default).arg), .int .i64 ((fiv.getD 1 default).key), .int .i64 ((fiv.getD 2 default).origin), .int .i64 ((fiv.getD 2 default).seq), .int .i64 ((fiv.getD 2 default).lam), (zF w45 (sb v44) (so v44 + 2 * 10 + 3)), .int .i64 ((fiv.getD 2 default).typ), .int .i64 ((fiv.getD 2 default).agg), .int .i64 ((fiv.getD 2 default).field), .int .i64 ((fiv.getD 2 default).op), .int .i64 ((fiv.getD 2 default).arg), .int .i64 ((fiv.getD 2 default).key), .int .i64 ((fiv.getD 4 default).origin), .int .i64 ((fiv.getD 4 default).seq), .int .i64 ((fiv.getD 4 default).lam), (zF w45 (sb v44) (so v44 + 4 * 10 + 3)), .int .i64 ((fiv.getD 4 default).typ), .int .i64 ((fiv.getD 4 default).agg), .int .i64 ((fiv.getD 4 default).field), .int .i64 ((fiv.getD 4 default).op), .int .i64 ((fiv.getD 4 default).arg), .int .i64 ((fiv.getD 4 default).key)]) kT lT mR (by decide) (xH ⟨rfl, e737, rfl, e738, rfl, e739, rfl, e740, trivial⟩) (by kernel_rfl) ?_)
  intro w743 b319 hn741
  have hS744 := hS730.new hn741
  intro vals' hv hv'
  refine ⟨?_, trivial⟩
  show ∃ (b319 : Nat), (vals' 6 = (.int .i64 ((((fiv.take 3).length - zH 2 (fiv.take 3) ([] : List Ev)) : Nat) : Int) : Value)) ∧ (vals' 13 = (.int .i64 ((((fiv.take 4).length - zH 2 (fiv.take 4) (fiv.take 3)) : Nat) : Int) : Value)) ∧ (vals' 30 = ((.slice (some ⟨b319, 0, none⟩) 4 4) : Value)) ∧ Sep G48 w45 ((Blk b319 #[.int .i64 ((fiv.getD 0 default).origin), .int .i64 ((fiv.getD 0 default).seq), .int .i64 ((fiv.getD 0 default).lam), (zF w45 (sb v44) (so v44 + 0 * 10 + 3)), .int .i64 ((fiv.getD 0 default).typ), .int .i64 ((fiv.getD 0 default).agg), .int .i64 ((fiv.getD 0 default).field), .int .i64 ((fiv.getD 0 default).op), .int .i64 ((fiv.getD 0 default).arg), .int .i64 ((fiv.getD 0 default).key), .int .i64 ((fiv.getD 1 default).origin), .int .i64 ((fiv.getD 1 default).seq), .int .i64 ((fiv.getD 1 default).lam), (zF w45 (sb v44) (so v44 + 1 * 10 + 3)), .int .i64 ((fiv.getD 1 default).typ), .int .i64 ((fiv.getD 1 default).agg), .int .i64 ((fiv.getD 1 default).field), .int .i64 ((fiv.getD 1 default).op), .int .i64 ((fiv.getD 1 default).arg), .int .i64 ((fiv.getD 1 default).key), .int .i64 ((fiv.getD 2 default).origin), .int .i64 ((fiv.getD 2 default).seq), .int .i64 ((fiv.getD 2 default).lam), (zF w45 (sb v44) (so v44 + 2 * 10 + 3)), .int .i64 ((fiv.getD 2 default).typ), .int .i64 ((fiv.getD 2 default).agg), .int .i64 ((fiv.getD 2 default).field), .int .i64 ((fiv.getD 2 default).op), .int .i64 ((fiv.getD 2 default).arg), .int .i64 ((fiv.getD 2 default).key), .int .i64 ((fiv.getD 4 default).origin), .int .i64 ((fiv.getD 4 default).seq), .int .i64 ((fiv.getD 4 default).lam), (zF w45 (sb v44) (so v44 + 4 * 10 + 3)), .int .i64 ((fiv.getD 4 default).typ), .int .i64 ((fiv.getD 4 default).agg), .int .i64 ((fiv.getD 4 default).field), .int .i64 ((fiv.getD 4 default).op), .int .i64 ((fiv.getD 4 default).arg), .int .i64 ((fiv.getD 4 default).key)] 64) :: (BaseO b34 dC 2 (fiv.take 4)) :: (RowE (α := Fld) (shr G W) 88 (.slice (some ⟨bf2, 0, none⟩) 1 1) [(⟨1, 1, false, []⟩ : Fld)]) :: (RowE (α := Prj) own 46 (.slice (some ⟨bp3, 0, none⟩) 1 1) [(⟨0, 0, 1, 0, 2⟩ : Prj)]) :: Rs) w743
  exact ⟨b319, (by rw [hv' 6 (by decide)]; exact he109), (by rw [hv' 13 (by decide)]; exact he166), hv, hS744⟩
 ·intro k745 vals w746 hk749 hW748 hA747
  have hk7492 : k745 ∈ [7] := hk749
  simp only [List.mem_cons, List.not_mem_nil, or_false] at hk7492
  subst hk7492
  obtain ⟨b319, he109, he166, he322, hS750⟩ := hW748
  have e751 := hA747 16 (by decide)
  have e752 := hA747 17 (by decide)
  refine zI rfl rfl e751 (fun _ => ?_) (fun hb => absurd rfl hb)
  have e753 := hA747 16 (by decide)
  have e754 := hA747 17 (by decide)
  have hi756 : 0 < fiv.length := (by first | omega | (simp only [lens]; omega))
  obtain ⟨hce755, hde755_0, hoke755⟩ := hrd54.ev hi756
  rw [← zw default hi756] at hce755 hde755_0 hoke755
  have hsm757 : ((fiv.getD 0 default).deps).length * 8 ≤ 140737488355328 := hde755_0.small
  have hcw758 := hS750.cells hce755 (hrd54.foot (ne_of_lt hi756))
  have hi760 : 1 < fiv.length := (by first | omega | (simp only [lens]; omega))
  obtain ⟨hce759, hde759_0, hoke759⟩ := hrd54.ev hi760
  rw [← zw default hi760] at hce759 hde759_0 hoke759
  have hsm761 : ((fiv.getD 1 default).deps).length * 8 ≤ 140737488355328 := hde759_0.small
  have hcw762 := hS750.cells hce759 (hrd54.foot (ne_of_lt hi760))
  have hi764 : 2 < fiv.length := (by first | omega | (simp only [lens]; omega))
  obtain ⟨hce763, hde763_0, hoke763⟩ := hrd54.ev hi764
  rw [← zw default hi764] at hce763 hde763_0 hoke763
  have hsm765 : ((fiv.getD 2 default).deps).length * 8 ≤ 140737488355328 := hde763_0.small
  have hcw766 := hS750.cells hce763 (hrd54.foot (ne_of_lt hi764))
  have hi768 : 4 < fiv.length := (by first | omega | (simp only [lens]; omega))
  obtain ⟨hce767, hde767_0, hoke767⟩ := hrd54.ev hi768
  rw [← zw default hi768] at hce767 hde767_0 hoke767
  have hsm769 : ((fiv.getD 4 default).deps).length * 8 ≤ 140737488355328 := hde767_0.small
  have hcw770 := hS750.cells hce767 (hrd54.foot (ne_of_lt hi768))
  have hS771 : Sep G48 w45 ((RowE (α := Ev) (shr G48 w45) 64 (.slice (some ⟨b319, 0, none⟩) 4 4) [(fiv.getD 0 default), (fiv.getD 1 default), (fiv.getD 2 default), (fiv.getD 4 default)]) :: (BaseO b34 dC 2 (fiv.take 4)) :: (RowE (α := Fld) (shr G W) 88 (.slice (some ⟨bf2, 0, none⟩) 1 1) [(⟨1, 1, false, []⟩ : Fld)]) :: (RowE (α := Prj) own 46 (.slice (some ⟨bp3, 0, none⟩) 1 1) [(⟨0, 0, 1, 0, 2⟩ : Prj)]) :: Rs) w746 := Sep.blkRow (src := (shr G48 w45)) (l := [(fiv.getD 0 default), (fiv.getD 1 default), (fiv.getD 2 default), (fiv.getD 4 default)]) (css := [(fiv.getD 0 default).cells (zF w45 (sb v44) (so v44 + 0 * 10 + 3)), (fiv.getD 1 default).cells (zF w45 (sb v44) (so v44 + 1 * 10 + 3)), (fiv.getD 2 default).cells (zF w45 (sb v44) (so v44 + 2 * 10 + 3)), (fiv.getD 4 default).cells (zF w45 (sb v44) (so v44 + 4 * 10 + 3))]) hS750 rfl ⟨fun _ _ => ⟨_, rfl, hde755_0, hoke755⟩, fun _ _ => ⟨_, rfl, hde759_0, hoke759⟩, fun _ _ => ⟨_, rfl, hde763_0, hoke763⟩, fun _ _ => ⟨_, rfl, hde767_0, hoke767⟩, trivial⟩ (by first | decide | (simp only [List.length_cons, List.length_nil]; decide)) (show 4 ≤ maxLen by decide)
  have hr772 := hS771.row (i := 0) rfl
  have hr772s : _ * 96 ≤ _ := hr772.2
  obtain ⟨G773, hA775, hB776, hS777, hk778⟩ := hS771.lend
  have hrd779 := RowE.rdB hA775 hB776
  have hrd779s : _ * 96 ≤ _ := hrd779.small
  refine (zK (f := 13) (vals := [.pointer (some ⟨b34, 0, none⟩), (.slice (some ⟨b319, 0, none⟩) 4 4)]) (cap := []) rfl (yL ⟨e754, he322, trivial⟩) mT (yW (l := [(fiv.getD 0 default), (fiv.getD 1 default), (fiv.getD 2 default), (fiv.getD 4 default)]) (vl := (.slice (some ⟨b319, 0, none⟩) 4 4)) hrd779 (RdS.base (RdS.base hKN hB51) hB776) hS777 (Xt) (Ys) ((by decide +kernel)) ((by decide +kernel)) ((by decide +kernel))) ?_)
  rintro _ w780 ⟨rfl, hS781⟩
  have hS782 := hk778 _ _ hS781
  intro vals' hv hv'
  refine ⟨?_, trivial⟩
  show ∃ (b319 : Nat), (vals' 6 = (.int .i64 ((((fiv.take 3).length - zH 2 (fiv.take 3) ([] : List Ev)) : Nat) : Int) : Value)) ∧ (vals' 13 = (.int .i64 ((((fiv.take 4).length - zH 2 (fiv.take 4) (fiv.take 3)) : Nat) : Int) : Value)) ∧ (vals' 30 = ((.slice (some ⟨b319, 0, none⟩) 4 4) : Value)) ∧ (vals' 31 = (.int .i64 ((([(fiv.getD 0 default), (fiv.getD 1 default), (fiv.getD 2 default), (fiv.getD 4 default)].length - zH 2 [(fiv.getD 0 default), (fiv.getD 1 default), (fiv.getD 2 default), (fiv.getD 4 default)] (fiv.take 4)) : Nat) : Int) : Value)) ∧ Sep G48 w45 ((RowE (α := Ev) (shr G48 w45) 64 (.slice (some ⟨b319, 0, none⟩) 4 4) [(fiv.getD 0 default), (fiv.getD 1 default), (fiv.getD 2 default), (fiv.getD 4 default)]) :: (BaseO b34 dC 2 [(fiv.getD 0 default), (fiv.getD 1 default), (fiv.getD 2 default), (fiv.getD 4 default)]) :: (RowE (α := Fld) (shr G W) 88 (.slice (some ⟨bf2, 0, none⟩) 1 1) [(⟨1, 1, false, []⟩ : Fld)]) :: (RowE (α := Prj) own 46 (.slice (some ⟨bp3, 0, none⟩) 1 1) [(⟨0, 0, 1, 0, 2⟩ : Prj)]) :: Rs) w780
  exact ⟨b319, (by rw [hv' 6 (by decide)]; exact he109), (by rw [hv' 13 (by decide)]; exact he166), (by rw [hv' 30 (by decide)]; exact he322), hv, hS782⟩
 ·intro k783 vals w784 hk787 hW786 hA785
  have hk7872 : k783 ∈ [15] := hk787
  simp only [List.mem_cons, List.not_mem_nil, or_false] at hk7872
  subst hk7872
  obtain ⟨b319, he109, he166, he322, he361, hS788⟩ := hW786
  have e789 := hA785 16 (by decide)
  refine zI rfl rfl e789 (fun _ => ?_) (fun hb => absurd rfl hb)
  have hl790 : (!decide (((([(fiv.getD 0 default), (fiv.getD 1 default), (fiv.getD 2 default), (fiv.getD 4 default)].length - zH 2 [(fiv.getD 0 default), (fiv.getD 1 default), (fiv.getD 2 default), (fiv.getD 4 default)] (fiv.take 4)) : Nat) : Int) = 2)) = false := by decide +kernel
  exact yy (k := .i64) (a := ((([(fiv.getD 0 default), (fiv.getD 1 default), (fiv.getD 2 default), (fiv.getD 4 default)].length - zH 2 [(fiv.getD 0 default), (fiv.getD 1 default), (fiv.getD 2 default), (fiv.getD 4 default)] (fiv.take 4)) : Nat) : Int)) (b := 2) he361 rfl (fun vals' hv _ => ⟨rfl, hv.trans (congrArg Value.bool hl790)⟩)
 ·intro k791 vals w792 hk795 hW794 hA793
  have e796 := hA793 16 (by decide)
  have e797 := hA793 32 (by decide)
  refine obl rfl ?_
  exact zZ (v := .bool false) e796 e797 (fun vals' hv _ => ⟨rfl, hv⟩)
 ·intro k798 vals w799 hk802 hW801 hA800
  have e803 := hA800 33 (by decide)
  refine obl rfl ?_
  exact zr (v := .bool false) e803 (fun vals' hv _ => ⟨rfl, hv⟩)
 ·intro k804 vals w805 hk808 hW807 hA806
  have e809 := hA806 34 (by decide)
  refine zI rfl rfl e809 (fun _ => ?_) (fun hb => absurd rfl hb)
  exact zr (v := .pointer (some ⟨b34, 0, none⟩)) rfl (fun vals' hv _ => ⟨rfl, hv⟩)
 ·intro k810 vals w811 hk814 hW813 hA812
  have hk8142 : k810 ∈ [15, 47] := hk814
  simp only [List.mem_cons, List.not_mem_nil, or_false] at hk8142
  rcases hk8142 with rfl | rfl
  ·skip
   obtain ⟨b319, he109, he166, he322, he361, hS815⟩ := hW813
   have e816 := hA812 34 (by decide)
   have e817 := hA812 35 (by decide)
   refine zI rfl rfl e816 (fun _ => ?_) (fun hb => absurd rfl hb)
   have e818 := hA812 34 (by decide)
   have e819 := hA812 35 (by decide)
   have hS820 := hS815.mv1
   refine (zK (f := 16) (vals := [.pointer (some ⟨b34, 0, none⟩), .int .i64 (0)]) (cap := []) rfl (yL ⟨e819, rfl, trivial⟩) nR (UD (q := 0) (by decide) hS820 ((by decide +kernel))) ?_)
   rintro v400 w822 ⟨_, rfl, hS823⟩
   have hr824 := hS823.row (i := 1) rfl
   have hr824s : _ * 24 ≤ _ := hr824.2
   intro vals' hv hv'
   refine ⟨?_, trivial⟩
   show ∃ (b319 : Nat) (v400 : Value), (vals' 6 = (.int .i64 ((((fiv.take 3).length - zH 2 (fiv.take 3) ([] : List Ev)) : Nat) : Int) : Value)) ∧ (vals' 13 = (.int .i64 ((((fiv.take 4).length - zH 2 (fiv.take 4) (fiv.take 3)) : Nat) : Int) : Value)) ∧ (vals' 30 = ((.slice (some ⟨b319, 0, none⟩) 4 4) : Value)) ∧ (vals' 31 = (.int .i64 ((([(fiv.getD 0 default), (fiv.getD 1 default), (fiv.getD 2 default), (fiv.getD 4 default)].length - zH 2 [(fiv.getD 0 default), (fiv.getD 1 default), (fiv.getD 2 default), (fiv.getD 4 default)] (fiv.take 4)) : Nat) : Int) : Value)) ∧ (vals' 36 = (v400 : Value)) ∧ Sep G48 w45 ((BaseO b34 dC 2 [(fiv.getD 0 default), (fiv.getD 1 default), (fiv.getD 2 default), (fiv.getD 4 default)]) :: (RowE (α := Row) own 44 v400 (yV dC [(fiv.getD 0 default), (fiv.getD 1 default), (fiv.getD 2 default), (fiv.getD 4 default)] 0)) :: (RowE (α := Ev) (shr G48 w45) 64 (.slice (some ⟨b319, 0, none⟩) 4 4) [(fiv.getD 0 default), (fiv.getD 1 default), (fiv.getD 2 default), (fiv.getD 4 default)]) :: (RowE (α := Fld) (shr G W) 88 (.slice (some ⟨bf2, 0, none⟩) 1 1) [(⟨1, 1, false, []⟩ : Fld)]) :: (RowE (α := Prj) own 46 (.slice (some ⟨bp3, 0, none⟩) 1 1) [(⟨0, 0, 1, 0, 2⟩ : Prj)]) :: Rs) w822
   exact ⟨b319, v400, (by rw [hv' 6 (by decide)]; exact he109), (by rw [hv' 13 (by decide)]; exact he166), (by rw [hv' 30 (by decide)]; exact he322), (by rw [hv' 31 (by decide)]; exact he361), hv, hS823⟩
  ·skip
   obtain ⟨b319, b423, he109, he166, he322, he361, he426, hS825⟩ := hW813
   have e826 := hA812 34 (by decide)
   have e827 := hA812 35 (by decide)
   refine zI rfl rfl e826 (fun _ => ?_) (fun hb => absurd rfl hb)
   have e828 := hA812 34 (by decide)
   have e829 := hA812 35 (by decide)
   have hS830 := hS825.mv2
   refine (zK (f := 16) (vals := [.pointer (some ⟨b34, 0, none⟩), .int .i64 (0)]) (cap := []) rfl (yL ⟨e829, rfl, trivial⟩) nR (UD (q := 0) (by decide) hS830 ((by decide +kernel))) ?_)
   rintro v400 w832 ⟨_, rfl, hS833⟩
   have hr834 := hS833.row (i := 1) rfl
   have hr834s : _ * 24 ≤ _ := hr834.2
   have hS835 := hS833.mv2
   intro vals' hv hv'
   refine ⟨?_, trivial⟩
   show ∃ (b319 : Nat) (v400 : Value) (b423 : Nat), (vals' 6 = (.int .i64 ((((fiv.take 3).length - zH 2 (fiv.take 3) ([] : List Ev)) : Nat) : Int) : Value)) ∧ (vals' 13 = (.int .i64 ((((fiv.take 4).length - zH 2 (fiv.take 4) (fiv.take 3)) : Nat) : Int) : Value)) ∧ (vals' 30 = ((.slice (some ⟨b319, 0, none⟩) 4 4) : Value)) ∧ (vals' 31 = (.int .i64 ((([(fiv.getD 0 default), (fiv.getD 1 default), (fiv.getD 2 default), (fiv.getD 4 default)].length - zH 2 [(fiv.getD 0 default), (fiv.getD 1 default), (fiv.getD 2 default), (fiv.getD 4 default)] (fiv.take 4)) : Nat) : Int) : Value)) ∧ (vals' 36 = (v400 : Value)) ∧ (vals' 38 = ((.slice (some ⟨b423, 0, none⟩) 1 1) : Value)) ∧ Sep G48 w45 ((Blk b423 ((⟨0, 23, 4⟩ : Row).cells).toArray 44) :: (BaseO b34 dC 2 [(fiv.getD 0 default), (fiv.getD 1 default), (fiv.getD 2 default), (fiv.getD 4 default)]) :: (RowE (α := Row) own 44 v400 (yV dC [(fiv.getD 0 default), (fiv.getD 1 default), (fiv.getD 2 default), (fiv.getD 4 default)] 0)) :: (RowE (α := Ev) (shr G48 w45) 64 (.slice (some ⟨b319, 0, none⟩) 4 4) [(fiv.getD 0 default), (fiv.getD 1 default), (fiv.getD 2 default), (fiv.getD 4 default)]) :: (RowE (α := Fld) (shr G W) 88 (.slice (some ⟨bf2, 0, none⟩) 1 1) [(⟨1, 1, false, []⟩ : Fld)]) :: (RowE (α := Prj) own 46 (.slice (some ⟨bp3, 0, none⟩) 1 1) [(⟨0, 0, 1, 0, 2⟩ : Prj)]) :: Rs) w832
   exact ⟨b319, v400, b423, (by rw [hv' 6 (by decide)]; exact he109), (by rw [hv' 13 (by decide)]; exact he166), (by rw [hv' 30 (by decide)]; exact he322), (by rw [hv' 31 (by decide)]; exact he361), hv, (by rw [hv' 38 (by decide)]; exact he426), hS835⟩
 ·intro k836 vals w837 hk840 hW839 hA838
  have e841 := hA838 34 (by decide)
  refine zI rfl rfl e841 (fun _ => ?_) (fun hb => absurd rfl hb)
  have ok842 : Row.Ok (⟨0, 23, 4⟩ : Row) := ⟨(show InR (0) from (by decide)), (show InR (23) from (by decide)), (show InR (4) from (by decide))⟩
  exact zP (parts' := [(1, .int .i64 (23)), (2, .int .i64 (4))]) (v := .agg ((⟨0, 23, 4⟩ : Row).cells).toArray) rfl (by simp [Instr.build, Instr.fill, Ev.cells, go_sem, Mv.cells, Fld.cells, Typ.cells, Prj.cells, Dcl.cells, Cel.cells, AskR.cells, CelS.cells, Ev.cells, Ent.cells, Sta.cells, Row.cells, Trn.cells]) (fun vals' hv _ => ⟨rfl, hv⟩)
 ·intro k843 vals w844 hk847 hW846 hA845
  have hk8472 : k843 ∈ [15, 31] := hk847
  simp only [List.mem_cons, List.not_mem_nil, or_false] at hk8472
  rcases hk8472 with rfl | rfl
  ·skip
   obtain ⟨b319, he109, he166, he322, he361, hS848⟩ := hW846
   have e849 := hA845 34 (by decide)
   have e850 := hA845 37 (by decide)
   refine zI rfl rfl e849 (fun _ => ?_) (fun hb => absurd rfl hb)
   have e851 := hA845 34 (by decide)
   have e852 := hA845 37 (by decide)
   refine (zz (k := 3) (parts' := [(0, .agg ((⟨0, 23, 4⟩ : Row).cells).toArray)]) (c := ((⟨0, 23, 4⟩ : Row).cells).toArray) nT oT oR (by decide) (xH ⟨rfl, e852, trivial⟩) (by kernel_rfl) ?_)
   intro w855 b423 hn853
   have hS856 := hS848.new hn853
   intro vals' hv hv'
   refine ⟨?_, trivial⟩
   show ∃ (b319 : Nat) (b423 : Nat), (vals' 6 = (.int .i64 ((((fiv.take 3).length - zH 2 (fiv.take 3) ([] : List Ev)) : Nat) : Int) : Value)) ∧ (vals' 13 = (.int .i64 ((((fiv.take 4).length - zH 2 (fiv.take 4) (fiv.take 3)) : Nat) : Int) : Value)) ∧ (vals' 30 = ((.slice (some ⟨b319, 0, none⟩) 4 4) : Value)) ∧ (vals' 31 = (.int .i64 ((([(fiv.getD 0 default), (fiv.getD 1 default), (fiv.getD 2 default), (fiv.getD 4 default)].length - zH 2 [(fiv.getD 0 default), (fiv.getD 1 default), (fiv.getD 2 default), (fiv.getD 4 default)] (fiv.take 4)) : Nat) : Int) : Value)) ∧ (vals' 38 = ((.slice (some ⟨b423, 0, none⟩) 1 1) : Value)) ∧ Sep G48 w45 ((Blk b423 ((⟨0, 23, 4⟩ : Row).cells).toArray 44) :: (RowE (α := Ev) (shr G48 w45) 64 (.slice (some ⟨b319, 0, none⟩) 4 4) [(fiv.getD 0 default), (fiv.getD 1 default), (fiv.getD 2 default), (fiv.getD 4 default)]) :: (BaseO b34 dC 2 [(fiv.getD 0 default), (fiv.getD 1 default), (fiv.getD 2 default), (fiv.getD 4 default)]) :: (RowE (α := Fld) (shr G W) 88 (.slice (some ⟨bf2, 0, none⟩) 1 1) [(⟨1, 1, false, []⟩ : Fld)]) :: (RowE (α := Prj) own 46 (.slice (some ⟨bp3, 0, none⟩) 1 1) [(⟨0, 0, 1, 0, 2⟩ : Prj)]) :: Rs) w855
   exact ⟨b319, b423, (by rw [hv' 6 (by decide)]; exact he109), (by rw [hv' 13 (by decide)]; exact he166), (by rw [hv' 30 (by decide)]; exact he322), (by rw [hv' 31 (by decide)]; exact he361), hv, hS856⟩
  ·skip
   obtain ⟨b319, v400, he109, he166, he322, he361, he404, hS857⟩ := hW846
   have e858 := hA845 34 (by decide)
   have e859 := hA845 37 (by decide)
   refine zI rfl rfl e858 (fun _ => ?_) (fun hb => absurd rfl hb)
   have e860 := hA845 34 (by decide)
   have e861 := hA845 37 (by decide)
   refine (zz (k := 3) (parts' := [(0, .agg ((⟨0, 23, 4⟩ : Row).cells).toArray)]) (c := ((⟨0, 23, 4⟩ : Row).cells).toArray) nT oT oR (by decide) (xH ⟨rfl, e861, trivial⟩) (by kernel_rfl) ?_)
   intro w864 b423 hn862
   have hS865 := hS857.new hn862
   intro vals' hv hv'
   refine ⟨?_, trivial⟩
   show ∃ (b319 : Nat) (v400 : Value) (b423 : Nat), (vals' 6 = (.int .i64 ((((fiv.take 3).length - zH 2 (fiv.take 3) ([] : List Ev)) : Nat) : Int) : Value)) ∧ (vals' 13 = (.int .i64 ((((fiv.take 4).length - zH 2 (fiv.take 4) (fiv.take 3)) : Nat) : Int) : Value)) ∧ (vals' 30 = ((.slice (some ⟨b319, 0, none⟩) 4 4) : Value)) ∧ (vals' 31 = (.int .i64 ((([(fiv.getD 0 default), (fiv.getD 1 default), (fiv.getD 2 default), (fiv.getD 4 default)].length - zH 2 [(fiv.getD 0 default), (fiv.getD 1 default), (fiv.getD 2 default), (fiv.getD 4 default)] (fiv.take 4)) : Nat) : Int) : Value)) ∧ (vals' 36 = (v400 : Value)) ∧ (vals' 38 = ((.slice (some ⟨b423, 0, none⟩) 1 1) : Value)) ∧ Sep G48 w45 ((Blk b423 ((⟨0, 23, 4⟩ : Row).cells).toArray 44) :: (BaseO b34 dC 2 [(fiv.getD 0 default), (fiv.getD 1 default), (fiv.getD 2 default), (fiv.getD 4 default)]) :: (RowE (α := Row) own 44 v400 (yV dC [(fiv.getD 0 default), (fiv.getD 1 default), (fiv.getD 2 default), (fiv.getD 4 default)] 0)) :: (RowE (α := Ev) (shr G48 w45) 64 (.slice (some ⟨b319, 0, none⟩) 4 4) [(fiv.getD 0 default), (fiv.getD 1 default), (fiv.getD 2 default), (fiv.getD 4 default)]) :: (RowE (α := Fld) (shr G W) 88 (.slice (some ⟨bf2, 0, none⟩) 1 1) [(⟨1, 1, false, []⟩ : Fld)]) :: (RowE (α := Prj) own 46 (.slice (some ⟨bp3, 0, none⟩) 1 1) [(⟨0, 0, 1, 0, 2⟩ : Prj)]) :: Rs) w864
   exact ⟨b319, v400, b423, (by rw [hv' 6 (by decide)]; exact he109), (by rw [hv' 13 (by decide)]; exact he166), (by rw [hv' 30 (by decide)]; exact he322), (by rw [hv' 31 (by decide)]; exact he361), (by rw [hv' 36 (by decide)]; exact he404), hv, hS865⟩
 ·intro k866 vals w867 hk870 hW869 hA868
  have hk8702 : k866 ∈ [63] := hk870
  simp only [List.mem_cons, List.not_mem_nil, or_false] at hk8702
  subst hk8702
  obtain ⟨b319, v400, b423, he109, he166, he322, he361, he404, he426, hS871⟩ := hW869
  have e872 := hA868 34 (by decide)
  refine zI rfl rfl e872 (fun _ => ?_) (fun hb => absurd rfl hb)
  have e873 := hA868 34 (by decide)
  have hS874 := hS871.mv2
  obtain ⟨G875, hA877, hB878, hS879, hk880⟩ := hS874.lend
  have hrd881 := RowE.rd hA877
  have hrd881s : _ * 24 ≤ _ := hrd881.small
  have ok882 : Row.Ok (⟨0, 23, 4⟩ : Row) := ⟨(show InR (0) from (by decide)), (show InR (23) from (by decide)), (show InR (4) from (by decide))⟩
  have hS883 : Sep G875 w867 ((RowE (α := Row) own 44 (.slice (some ⟨b423, 0, none⟩) 1 1) [(⟨0, 23, 4⟩ : Row)]) :: (BaseO b34 dC 2 [(fiv.getD 0 default), (fiv.getD 1 default), (fiv.getD 2 default), (fiv.getD 4 default)]) :: (RowE (α := Ev) (shr G48 w45) 64 (.slice (some ⟨b319, 0, none⟩) 4 4) [(fiv.getD 0 default), (fiv.getD 1 default), (fiv.getD 2 default), (fiv.getD 4 default)]) :: (RowE (α := Fld) (shr G W) 88 (.slice (some ⟨bf2, 0, none⟩) 1 1) [(⟨1, 1, false, []⟩ : Fld)]) :: (RowE (α := Prj) own 46 (.slice (some ⟨bp3, 0, none⟩) 1 1) [(⟨0, 0, 1, 0, 2⟩ : Prj)]) :: Rs) w867 := Sep.blkRow (src := own) (l := [(⟨0, 23, 4⟩ : Row)]) (css := [(⟨0, 23, 4⟩ : Row).cells]) hS879 rfl ⟨fun _ _ => ⟨rfl, ok882⟩, trivial⟩ (by first | decide | (simp only [List.length_cons, List.length_nil]; decide)) (show 1 ≤ maxLen by decide)
  have hr884 := hS883.row (i := 0) rfl
  have hr884s : _ * 24 ≤ _ := hr884.2
  obtain ⟨G885, hA887, hB888, hS889, hk890⟩ := hS883.lend
  have hrd891 := RowE.rd hA887
  have hrd891s : _ * 24 ≤ _ := hrd891.small
  refine (zK (f := 29) (vals := [v400, (.slice (some ⟨b423, 0, none⟩) 1 1)]) (cap := []) rfl (yL ⟨he404, he426, trivial⟩) Tryz.call29 (VO (a := (yV dC [(fiv.getD 0 default), (fiv.getD 1 default), (fiv.getD 2 default), (fiv.getD 4 default)] 0)) (va := v400) (b := [(⟨0, 23, 4⟩ : Row)]) (vb := (.slice (some ⟨b423, 0, none⟩) 1 1)) (RdS.base hrd881 hB888) hrd891 hS889) ?_)
  rintro _ w892 ⟨rfl, hS893⟩
  have hS894 := hk890 _ _ hS893
  have hS895 := hk880 _ _ hS894
  intro vals' hv hv'
  refine ⟨?_, trivial⟩
  show ∃ (b319 : Nat) (v400 : Value) (b423 : Nat), (vals' 6 = (.int .i64 ((((fiv.take 3).length - zH 2 (fiv.take 3) ([] : List Ev)) : Nat) : Int) : Value)) ∧ (vals' 13 = (.int .i64 ((((fiv.take 4).length - zH 2 (fiv.take 4) (fiv.take 3)) : Nat) : Int) : Value)) ∧ (vals' 30 = ((.slice (some ⟨b319, 0, none⟩) 4 4) : Value)) ∧ (vals' 31 = (.int .i64 ((([(fiv.getD 0 default), (fiv.getD 1 default), (fiv.getD 2 default), (fiv.getD 4 default)].length - zH 2 [(fiv.getD 0 default), (fiv.getD 1 default), (fiv.getD 2 default), (fiv.getD 4 default)] (fiv.take 4)) : Nat) : Int) : Value)) ∧ (vals' 36 = (v400 : Value)) ∧ (vals' 38 = ((.slice (some ⟨b423, 0, none⟩) 1 1) : Value)) ∧ (vals' 39 = (.bool (decide ((yV dC [(fiv.getD 0 default), (fiv.getD 1 default), (fiv.getD 2 default), (fiv.getD 4 default)] 0) = [(⟨0, 23, 4⟩ : Row)])) : Value)) ∧ Sep G48 w45 ((RowE (α := Row) own 44 v400 (yV dC [(fiv.getD 0 default), (fiv.getD 1 default), (fiv.getD 2 default), (fiv.getD 4 default)] 0)) :: (RowE (α := Row) own 44 (.slice (some ⟨b423, 0, none⟩) 1 1) [(⟨0, 23, 4⟩ : Row)]) :: (BaseO b34 dC 2 [(fiv.getD 0 default), (fiv.getD 1 default), (fiv.getD 2 default), (fiv.getD 4 default)]) :: (RowE (α := Ev) (shr G48 w45) 64 (.slice (some ⟨b319, 0, none⟩) 4 4) [(fiv.getD 0 default), (fiv.getD 1 default), (fiv.getD 2 default), (fiv.getD 4 default)]) :: (RowE (α := Fld) (shr G W) 88 (.slice (some ⟨bf2, 0, none⟩) 1 1) [(⟨1, 1, false, []⟩ : Fld)]) :: (RowE (α := Prj) own 46 (.slice (some ⟨bp3, 0, none⟩) 1 1) [(⟨0, 0, 1, 0, 2⟩ : Prj)]) :: Rs) w892
  exact ⟨b319, v400, b423, (by rw [hv' 6 (by decide)]; exact he109), (by rw [hv' 13 (by decide)]; exact he166), (by rw [hv' 30 (by decide)]; exact he322), (by rw [hv' 31 (by decide)]; exact he361), (by rw [hv' 36 (by decide)]; exact he404), (by rw [hv' 38 (by decide)]; exact he426), hv, hS895⟩
 ·intro k896 vals w897 hk900 hW899 hA898
  have hk9002 : k896 ∈ [127] := hk900
  simp only [List.mem_cons, List.not_mem_nil, or_false] at hk9002
  subst hk9002
  obtain ⟨b319, v400, b423, he109, he166, he322, he361, he404, he426, he464, hS901⟩ := hW899
  have e902 := hA898 34 (by decide)
  refine zI rfl rfl e902 (fun _ => ?_) (fun hb => absurd rfl hb)
  have hl903 : (!(decide ((yV dC [(fiv.getD 0 default), (fiv.getD 1 default), (fiv.getD 2 default), (fiv.getD 4 default)] 0) = [(⟨0, 23, 4⟩ : Row)]))) = false := by decide +kernel
  exact yN (a := decide ((yV dC [(fiv.getD 0 default), (fiv.getD 1 default), (fiv.getD 2 default), (fiv.getD 4 default)] 0) = [(⟨0, 23, 4⟩ : Row)])) he464 (fun vals' hv _ => ⟨rfl, hv.trans (congrArg Value.bool hl903)⟩)
 ·intro k904 vals w905 hk908 hW907 hA906
  have e909 := hA906 34 (by decide)
  have e910 := hA906 40 (by decide)
  refine obl rfl ?_
  exact zZ (v := .bool false) e909 e910 (fun vals' hv _ => ⟨rfl, hv⟩)
 intro vals w911 hW912 hA913
 obtain ⟨b319, v400, b423, he109, he166, he322, he361, he404, he426, he464, hS914⟩ := hW912
 have e915 := hA913 41 (by decide)
 refine zX (kv := [(0, .bool false), (3, .agg #[(.slice (some ⟨bt1, 0, none⟩) 1 1), (.slice (some ⟨bp3, 0, none⟩) 1 1)]), (4, .pointer (some ⟨b34, 0, none⟩)), (1, .pointer (some ⟨b34, 0, none⟩)), (5, v44), (2, v44), (47, .bool false)]) ⟨rfl, rfl, rfl, rfl, rfl, rfl, (by exact e915), trivial⟩ (fun ρw911 => ?_)
 refine zb ?_
 refine ze rfl ?_
 refine zo ?_
 refine za ?_
 refine zD (by kernel_rfl) ?_
 refine st (zr (v := .pointer (some ⟨b34, 0, none⟩)) rfl ?_)
 refine st (zr (v := v44) rfl ?_)
 refine st (xj (j := 2) (k := 10) (n := fiv.length) kT lT rfl hrd54.sl rfl (by first | omega | (simp only [lens]; omega)) ?_)
 have h916 := RdS.sub_hi (j := 2) hrd54 (by first | omega | (simp only [List.length_drop, List.length_take]; omega))
 have h916s : _ * 96 ≤ _ := h916.small
 have hS917 := hS914.mv2
 refine st (zK (f := 13) (vals := [.pointer (some ⟨b34, 0, none⟩), (yT 10 v44 0 2)]) (cap := []) rfl rfl mT (yW (l := fiv.take 2) (vl := (yT 10 v44 0 2)) h916 (RdS.base hKN hB51) hS917 (Xt) (Ys) ((by decide +kernel)) ((by decide +kernel)) ((by decide +kernel))) ?_)
 rintro _ w918 ⟨rfl, hS919⟩
 refine st (ya (k := .i64) (a := ((((fiv.take 2).length - zH 2 (fiv.take 2) [(fiv.getD 0 default), (fiv.getD 1 default), (fiv.getD 2 default), (fiv.getD 4 default)]) : Nat) : Int)) (b := 0) rfl rfl ?_)
 have hkn920 : (decide (((((fiv.take 2).length - zH 2 (fiv.take 2) [(fiv.getD 0 default), (fiv.getD 1 default), (fiv.getD 2 default), (fiv.getD 4 default)]) : Nat) : Int) = 0)) = true := (by decide +kernel)
 rw [hkn920]
 refine st (zr (v := .bool true) rfl ?_)
 refine sty rfl rfl (zr (v := .pointer (some ⟨b34, 0, none⟩)) rfl ?_)
 refine sty rfl rfl (zr (v := v44) rfl ?_)
 refine sty rfl rfl (xj (j := 1) (k := 10) (n := fiv.length) kT lT rfl hrd54.sl rfl (by first | omega | (simp only [lens]; omega)) ?_)
 have h921 := RdS.sub_hi (j := 1) hrd54 (by first | omega | (simp only [List.length_drop, List.length_take]; omega))
 have h921s : _ * 96 ≤ _ := h921.small
 refine sty rfl rfl (zK (f := 13) (vals := [.pointer (some ⟨b34, 0, none⟩), (yT 10 v44 0 1)]) (cap := []) rfl rfl mT (yW (l := fiv.take 1) (vl := (yT 10 v44 0 1)) h921 (RdS.base hKN hB51) hS919 (Xt) (Ys) ((by decide +kernel)) ((by decide +kernel)) ((by decide +kernel))) ?_)
 rintro _ w922 ⟨rfl, hS923⟩
 refine sty rfl rfl (ya (k := .i64) (a := ((((fiv.take 1).length - zH 2 (fiv.take 1) (fiv.take 2)) : Nat) : Int)) (b := 1) rfl rfl ?_)
 have hkn924 : (decide (((((fiv.take 1).length - zH 2 (fiv.take 1) (fiv.take 2)) : Nat) : Int) = 1)) = true := (by decide +kernel)
 rw [hkn924]
 refine st (ye (v := .bool true) rfl rfl ?_)
 refine st (zr (v := .bool true) rfl ?_)
 refine sty rfl rfl (zr (v := .pointer (some ⟨b34, 0, none⟩)) rfl ?_)
 refine sty rfl rfl (zK (f := 13) (vals := [.pointer (some ⟨b34, 0, none⟩), (.slice none 0 0)]) (cap := []) rfl rfl mT (yW (l := ([] : List Ev)) (vl := (.slice none 0 0)) (RdS.nil _ _) (RdS.base hKN hB51) hS923 (Xt) (Ys) ((by decide +kernel)) ((by decide +kernel)) ((by decide +kernel))) ?_)
 rintro _ w925 ⟨rfl, hS926⟩
 refine sty rfl rfl (ya (k := .i64) (a := (((([] : List Ev).length - zH 2 ([] : List Ev) (fiv.take 1)) : Nat) : Int)) (b := 0) rfl rfl ?_)
 have hkn927 : (decide ((((([] : List Ev).length - zH 2 ([] : List Ev) (fiv.take 1)) : Nat) : Int) = 0)) = true := (by decide +kernel)
 rw [hkn927]
 refine st (ye (v := .bool true) rfl rfl ?_)
 refine st (zr (v := .bool true) rfl ?_)
 refine sty rfl rfl (zr (v := .pointer (some ⟨b34, 0, none⟩)) rfl ?_)
 refine sty rfl rfl (zK (f := 15) (vals := [.pointer (some ⟨b34, 0, none⟩)]) (cap := []) rfl rfl Tryz.call15 (VP  hS926) ?_)
 rintro v928 w929 ⟨_, rfl, hS930⟩
 have hr931 := hS930.row (i := 1) rfl
 have hr931s : _ * 120 ≤ _ := hr931.2
 refine sty rfl rfl (zC (n := (zv dC ([] : List Ev)).length) Tryz.underlying39 rfl hr931.1 ?_)
 refine sty rfl rfl (ya (k := .i64) (a := (((zv dC ([] : List Ev)).length : Nat) : Int)) (b := 0) rfl rfl ?_)
 have hkn932 : (decide ((((zv dC ([] : List Ev)).length : Nat) : Int) = 0)) = true := (by decide +kernel)
 rw [hkn932]
 refine st (ye (v := .bool true) rfl rfl ?_)
 refine st (zt (v := .bool true) rfl ?_)
 refine zb ?_
 refine zm ?_
 refine zR Tryz.results9 (show _ = (.bool true : Value) from rfl) ?_
 have hS933 := hk53 _ _ hS930
 have hS934 : Sep G W Rs w929 := hS933.sel 8 [] (Nat.le_add_left _ _) rfl rfl
 refine ⟨rfl, hS934⟩

section
variable {U : List Ev} {every k q : Nat}
theorem Wt (a : Ev) : xC a a := ⟨rfl, rfl⟩
theorem QM {l : List Ev} : zH every l [] = 0 := by
  have h := (Vo (l := l) (m := [])).2
  have h0 : xA l [] = 0 := Nat.le_zero.1 h
  unfold zH
  rw [h0]; exact if_neg (Nat.lt_irrefl 0)
theorem Qe (hk : k ≤ U.length) : xA U (U.take k) = k := by
  have hl : (U.take k).length = k := by rw [List.length_take]; omega
  refine Zp hk (by omega) (fun i hi => ?_) (fun _ h => by omega)
  rw [zw _ (show i < U.length by omega), zw _ (show i < (U.take k).length by omega), List.getElem_take]
  exact Wt _
theorem XS (hk : k ≤ U.length) : zH every U (U.take k) = k := by
  have hl : (U.take k).length = k := by rw [List.length_take]; omega
  unfold zH
  rw [Qe hk, if_neg (by omega)]
theorem Qh : zH every U U = U.length := by
  have h := XS (every := every) (Nat.le_refl U.length)
  rw [List.take_length] at h
  exact h
def zW (U : List Ev) (q : Nat) : List Ev := U.take q ++ U.drop (q + 1)
theorem Xa (hq : q < U.length) : (zW U q).length = U.length - 1 := by unfold zW; rw [List.length_append, List.length_take, List.length_drop]; omega
theorem UG {i : Nat} (hq : q < U.length) (hi : i < q) : (zW U q).getD i default = U.getD i default := by
  unfold zW
  rw [List.getD_eq_getElem?_getD, List.getElem?_append_left (by rw [List.length_take]; omega), List.getElem?_take_of_lt hi, ← List.getD_eq_getElem?_getD]
theorem UB (hq : q < U.length) : (zW U q).getD q default = U.getD (q + 1) default := by
  unfold zW
  have h : (U.take q).length = q := by rw [List.length_take]; omega
  rw [List.getD_eq_getElem?_getD, List.getElem?_append_right (by omega), h, Nat.sub_self, List.getElem?_drop, Nat.add_zero, ← List.getD_eq_getElem?_getD]
theorem Qd (hu : Uniq U) (hq : q < U.length) : xA (zW U q) U = q := by
  have hl := Xa hq
  refine Zp (by omega) (by omega) (fun i hi => by rw [UG hq hi]; exact Wt _) (fun h1 h2 h3 => ?_)
  rw [UB hq] at h3
  have := hu (q + 1) q (by omega) hq h3
  omega
theorem XT (hu : Uniq U) (hq : q < U.length) : xA U (zW U q) = q := by
  have hl := Xa hq
  refine Zp (by omega) (by omega) (fun i hi => by rw [UG hq hi]; exact Wt _) (fun h1 h2 h3 => ?_)
  rw [UB hq] at h3
  have := hu q (q + 1) hq (by omega) h3
  omega
theorem xd : ∀ x ∈ zW U q, x ∈ U := fun x hx => (List.mem_append.1 hx).elim List.mem_of_mem_take List.mem_of_mem_drop
theorem JA {e : Nat} (he : 1 ≤ e) : q / e * e ≤ q ∧ q < q / e * e + e := ⟨Nat.div_mul_le_self .., by have := Nat.lt_div_mul_add (a := q) (b := e) (by omega); omega⟩
end
set_option maxHeartbeats 8000000 in
theorem YY {G : Nat → Prop} {W w : World} {Rs : List HP} {d : Dcl} {dd0 : Value} (hdd0 : RdS W G dd0 d.types) {dd1 : Value} (hdd1 : RdS W G dd1 d.projs) (od : d.Ok) {n : Int} (hn : InR n) {every : Int} (hevery : InR every) {vl : Value} {l : List Ev} (hl : RdS W G vl l) {ka : Int} (hka : InR ka) {ko : Int} (hko : InR ko) (hKN : RdS W G (.slice (some ⟨0, 0, none⟩) 6 6) kindsL) (hS0 : Sep G W Rs w) : Ret Tryz.prog 3 [.agg (d.cells dd0 dd1).toArray, .int .i64 (n), .int .i64 (every), vl, .int .i64 (ka), .int .i64 (ko)] w (fun r w' => r = (.bool true : Value) ∧ Sep G W Rs w') := by
 have hdd0s : _ * 24 ≤ _ := hdd0.small
 have hdd1s : _ * 40 ≤ _ := hdd1.small
 have hls : _ * 96 ≤ _ := hl.small
 have hKNs : _ * 8 ≤ _ := hKN.small
 refine zi (args := [.agg (d.cells dd0 dd1).toArray, Iv n, Iv every, vl, Iv ka, Iv ko]) Tryz.func3 rfl rfl ?_
 refine za (R0 fun _ => st (zS (v := .agg (d.cells dd0 dd1).toArray) rfl ?_))
 intro w3 b2 ca
 let aa := Blk b2 (d.cells dd0 dd1).toArray 25
 have bt := hS0.new ca
 refine st (aS (.bool false) (zb (za (za (R0 fun _ => st (zf (k := 2) vT pT rfl rfl (CellsAt.all (bt.b0)) (st (cL Tryz.call8 (Jl (d := d) hdd0 hdd1 od bt) ?_))))))))
 rintro _ w7 ⟨b5, rfl, cb, bu⟩
 refine st (yN (a := b5) rfl (zb ?_))
 cases ah : !b5
 have hc9r := ah
 try simp only [zk] at ah
 have J := cb (by simpa using ah)
 refine ze rfl (zo (za (R0 fun _ => st (mV (Iv n) ?_))))
 refine st (cL rT (WW (x := n) (n := 64) hn yqi bu) ?_)
 rintro _ w12 ⟨O, rfl, hq11, bz⟩
 have ap : InR ((1 + O : Nat) : Int) := bo
 refine st (zQ (r := ((1 + O : Nat) : Int)) (k := .i64) (a := 1) (b := ((O : Nat) : Int)) rfl rfl (by rw [show (1 + ((O : Nat) : Int) : Int) = ((1 + O : Nat) : Int) from bo]; exact zx ap) (st (mV vl (st (cL Tryz.call10 (Js (n := ((1 + O : Nat) : Int)) (l := l) (vl := vl) ap hl bz) ?_)))))
 rintro t w19 ⟨_, f, rfl, ho4017, p, aq⟩
 have ar := aq.r0
 have hr21s : _ * 96 ≤ _ := ar.2
 refine st (aS t (zb (za (R0 fun _ => st (mV (Iv every) ?_)))))
 refine st (cL rT (WW (x := every) (n := 50) hevery yqi aq) ?_)
 rintro _ w24 ⟨m, rfl, hq23, au⟩
 have av : InR ((1 + m : Nat) : Int) := bo
 refine st (zQ (r := ((1 + m : Nat) : Int)) (k := .i64) (a := 1) (b := ((m : Nat) : Int)) rfl rfl (by rw [show (1 + ((m : Nat) : Int) : Int) = ((1 + m : Nat) : Int) from bo]; exact zx av) (st (aS (Iw (1 + m)) (zb (za (zq (by kernel_rfl) (fun _ => (st (zf (k := 2) vT pT rfl rfl (CellsAt.all (au.b1)) (st (mV (Iw (1 + m)) (st (cL kR (VC (d := d) (every := ((1 + m : Nat) : Int)) hdd0 hdd1 od av hKN au (J.1)) ?_)))))))))))))
 rintro _ cc ⟨B, bA, rfl, hev29, bB⟩
 refine st (aS (Ix B 0) (zb (za (za ?_))))
 obtain rfl : bA = 1 + m := by omega
 have bC : Sep G W ((BaseO B d (1 + m) ([] : List Ev)) :: (RowE (α := Ev) (shr G W) 64 t f) :: aa :: Rs) cc := bB
 refine R0 fun _ => st (mV (Ix B 0) (st (XQ (b := B) (o := 0) lR rfl (zb (ze rfl (zo (za (R0 fun _ => st (mV (Iv ka) (st (mV t (st (zC (n := f.length) kT rfl ar.1 ?_)))))))))))))
 have bD : InR ((f.length + 1 : Nat) : Int) := bo
 refine st (zQ (r := ((f.length + 1 : Nat) : Int)) (k := .i64) (a := ((f.length : Nat) : Int)) (b := 1) rfl rfl (by rw [show (((f.length : Nat) : Int) + 1 : Int) = ((f.length + 1 : Nat) : Int) from bo]; exact zx bD) ?_)
 refine st (cL rT (WW (x := ka) (n := f.length + 1) hka yqi bC) ?_)
 rintro _ E ⟨s, rfl, hq35, bE⟩
 refine st (aS (Iw s) (zb (za (za ?_))))
 obtain ⟨F, bF, I, bG, af⟩ := (bE.mv1).lend
 have u := RowE.rdB bF I
 have hrd45s : _ * 96 ≤ _ := u.small
 have bH : s ≤ f.length := by omega
 have hA9 := QM (every := (1 + m)) (l := f.take s)
 have hAl9 : (f.take s).length = s := by rw [List.length_take]; omega
 have hB9 := XS (every := (1 + m)) bH
 have hC9 := Qh (U := f) (every := (1 + m))
 refine zD kr (st (mV (Ix B 0) (st (mV t (st (mV (Iw s) ?_))))))
 refine st (xj (j := s) (k := 10) (n := f.length) kT lT rfl u.sl rfl bo ?_)
 have bv := RdS.sub_hi (j := s) u (by first | omega | (simp only [List.length_drop, List.length_take]; omega))
 have h46s : _ * 96 ≤ _ := bv.small
 refine st (cL mT (yW (l := f.take s) (vl := (yT 10 t 0 s)) bv (RdS.base hKN I) bG (J.1) (J.2) ((by first | exact p.one (fun _ h => List.mem_of_mem_take h) (fun _ h => absurd h List.not_mem_nil) | exact p.one (fun _ h => h) (fun _ h => List.mem_of_mem_take h) | exact p.one (fun _ h => h) (fun _ h => h) | exact p.one xd (fun _ h => h) | exact p.one (fun _ h => h) xd)) ((by first | omega | (simp only [List.length_take, List.length_nil]; omega))) ((by first | omega | (simp only [List.length_take, List.length_nil]; omega)))) ?_)
 rintro _ w47 ⟨rfl, bI⟩
 refine st (mV (Iw s) (st (yy (k := .i64) (a := ((((f.take s).length - zH (1 + m) (f.take s) ([] : List Ev)) : Nat) : Int)) (b := ((s : Nat) : Int)) rfl rfl ?_)))
 have aF : (!decide (((((f.take s).length - zH (1 + m) (f.take s) ([] : List Ev)) : Nat) : Int) = ((s : Nat) : Int))) = false := (by simp only [Bool.not_eq_false', decide_eq_true_eq, decide_eq_false_iff_not]; omega)
 rw [aF]
 refine st (mV (.bool false) (sty rfl rfl (mV (Ix B 0) (sty rfl rfl (mV t ?_)))))
 refine sty rfl rfl (cL mT (yW (l := f) (vl := t) u (RdS.base hKN I) bI (J.1) (J.2) ((by first | exact p.one (fun _ h => List.mem_of_mem_take h) (fun _ h => absurd h List.not_mem_nil) | exact p.one (fun _ h => h) (fun _ h => List.mem_of_mem_take h) | exact p.one (fun _ h => h) (fun _ h => h) | exact p.one xd (fun _ h => h) | exact p.one (fun _ h => h) xd)) ((by first | omega | (simp only [List.length_take, List.length_nil]; omega))) ((by first | omega | (simp only [List.length_take, List.length_nil]; omega)))) ?_)
 rintro _ w50 ⟨rfl, bJ⟩
 refine sty rfl rfl (mV t (sty rfl rfl (zC (n := f.length) kT rfl u.sl (sty rfl rfl (mV (Iw s) ?_)))))
 have bK : InR ((f.length - s : Nat) : Int) := bo
 refine sty rfl rfl (xN (r := ((f.length - s : Nat) : Int)) (k := .i64) (a := ((f.length : Nat) : Int)) (b := ((s : Nat) : Int)) rfl rfl (by rw [show (((f.length : Nat) : Int) - ((s : Nat) : Int) : Int) = ((f.length - s : Nat) : Int) from bo]; exact zx bK) (sty rfl rfl (yy (k := .i64) (a := (((f.length - zH (1 + m) f (f.take s)) : Nat) : Int)) (b := ((f.length - s : Nat) : Int)) rfl rfl ?_)))
 have aG : (!decide ((((f.length - zH (1 + m) f (f.take s)) : Nat) : Int) = ((f.length - s : Nat) : Int))) = false := (by simp only [Bool.not_eq_false', decide_eq_true_eq, decide_eq_false_iff_not]; omega)
 rw [aG]
 refine st (zZ (v := .bool false) rfl rfl (st (mV (.bool false) (sty rfl rfl (mV (Ix B 0) (sty rfl rfl (mV t ?_)))))))
 refine sty rfl rfl (cL mT (yW (l := f) (vl := t) u (RdS.base hKN I) bJ (J.1) (J.2) ((by first | exact p.one (fun _ h => List.mem_of_mem_take h) (fun _ h => absurd h List.not_mem_nil) | exact p.one (fun _ h => h) (fun _ h => List.mem_of_mem_take h) | exact p.one (fun _ h => h) (fun _ h => h) | exact p.one xd (fun _ h => h) | exact p.one (fun _ h => h) xd)) ((by first | omega | (simp only [List.length_take, List.length_nil]; omega))) ((by first | omega | (simp only [List.length_take, List.length_nil]; omega)))) ?_)
 rintro _ w54 ⟨rfl, aw⟩
 refine sty rfl rfl (yy (k := .i64) (a := (((f.length - zH (1 + m) f f) : Nat) : Int)) (b := 0) rfl rfl ?_)
 have aH : (!decide ((((f.length - zH (1 + m) f f) : Nat) : Int) = 0)) = false := (by simp only [Bool.not_eq_false', decide_eq_true_eq, decide_eq_false_iff_not]; omega)
 rw [aH]
 refine st (zZ (v := .bool false) rfl rfl (zb (ze rfl (zo (za (za (R0 fun _ => st (mV t (st (zC (n := f.length) kT rfl u.sl (st (ya (k := .i64) (a := ((f.length : Nat) : Int)) (b := 0) rfl rfl (zb ?_)))))))))))))
 cases T : decide (((f.length : Nat) : Int) = 0)
 have hc57r := T
 have T := fD T
 refine ze rfl (zo (za (R0 fun _ => st (mV (Iv ko) (st (mV t (st (zC (n := f.length) kT rfl u.sl ?_))))))))
 refine st (cL rT (WW (x := ko) (n := f.length) hko yqi aw) ?_)
 rintro _ w60 ⟨g, rfl, hq59, bL⟩
 refine st (aS (Iw g) (zb (za ?_)))
 refine WD4 ((fun TT ai => WF [fun vals wq => Sep F E (ai :: TT) wq, fun vals wq => ∃ (A : Nat), (vals 0 = ((Iy A 0 0) : Value)) ∧ Sep F E ((Blk A #[] 64) :: ai :: TT) wq, fun vals wq => ∃ (A : Nat) (C : Value), (vals 0 = ((Iy A 0 0) : Value)) ∧ (vals 4 = (C : Value)) ∧ Sep F E ((RowE (α := Ev) (shr F E) 64 C (f.take g)) :: ai :: TT) wq, fun vals wq => ∃ (A : Nat) (C : Value) (y : Value), (vals 0 = ((Iy A 0 0) : Value)) ∧ (vals 4 = (C : Value)) ∧ (vals 9 = (y : Value)) ∧ Sep F E ((RowE (α := Ev) (shr F E) 64 y (f.take g ++ f.drop (g + 1))) :: ai :: TT) wq]) (aa :: Rs) (BaseO B d (1 + m) f)) (AF [fun _ => True, Vl 1 (t), Vl 2 (Iw g), Vl 3 ((yT 10 t 0 g)), fun _ => True, Vl 5 (t), Vl 6 (Iw g), Vl 7 (Iw (g + 1)), Vl 8 ((yT 10 t (g + 1) f.length)), fun _ => True, fun vals => ∀ (y : Value), vals 9 = (y : Value) → vals 10 = (y : Value)]) [[], [], [], [1, 2], (rg 4), [], [], [6], [5, 6, 7], (rg 9), (rg 10)] [0, 4, 9] [(0, 0), (0, 1), (0, 1), (0, 1), (1, 1), (0, 2), (0, 2), (0, 2), (0, 2), (2, 2), (3, 3)] bL ⟨?_, fun _ _ _ _ _ _ _ => obl rfl (mV t dR), fun _ _ _ _ _ _ _ => obl rfl (mV (Iw g) dR), ?_, ?_, fun _ _ _ _ _ _ _ => obl rfl (mV t dR), fun _ _ _ _ _ _ _ => obl rfl (mV (Iw g) dR), ?_, ?_, ?_, ?_, trivial⟩ ?_ (hlocA := xl ⟨dT, dA, dA, dA, dT, dA, dA, dA, dA, dT, fun vals P hv h => fun y aj => (hv 10 (.inl rfl)).trans (h y ((hv 9 (.inr dc)).symm.trans aj)), trivial⟩)
 refine ob1 0 fun _ _ (bM : Sep _ _ _ _) _ => (obl rfl ((zz (k := 10) (parts' := []) (c := #[]) kT lT mR dc rfl kr ?_)))
 intro w71 A bN
 exact fun P hv V => ⟨(Exists.intro A (And.intro hv (bM.new bN))), trivial⟩
 refine fun ab _ _ bO bP ak Q => ?_
 have hkk : ab = 0 ∨ ab = 1 := by have h1 : 0 ≤ ab := bO; have h2 : ab ≤ 1 := bP; omega
 rcases hkk with rfl | rfl
 have hS180 : Sep _ _ _ _ := ak
 refine obl rfl ?_
 exact xj (j := g) (k := 10) (n := f.length) kT lT (Q 1 dc) u.sl (Q 2 dc) bo dR
 obtain ⟨A, D, hS183⟩ := ak
 refine obl rfl ?_
 exact xj (j := g) (k := 10) (n := f.length) kT lT (Q 1 dc) u.sl (Q 2 dc) bo dR
 refine ob1 1 fun _ _ bQ bR => ?_
 obtain ⟨A, D, aI⟩ := bQ
 refine obl rfl ?_
 have al : Sep _ _ ((RowE (α := Ev) (shr F E) 64 (Iy A 0 0) ([] : List Ev)) :: _) _ := Sep.blkRow (src := (shr F E)) (l := ([] : List Ev)) (css := []) aI rfl trivial yqa
 have aJ := al.r0
 have hr107s : _ * 96 ≤ _ := aJ.2
 have ax := RdS.sub_hi (j := g) u (by first | omega | (simp only [List.length_drop, List.length_take]; omega))
 have h108s : _ * 96 ≤ _ := ax.small
 refine (yU (src := (shr F E)) (bytes := 96) al VT D (bR 3 (by decide)) ax yqb rfl (hq' := fun _ _ h _ _ => h) ?_)
 intro C bS R
 have R : Sep F E ((RowE (α := Ev) (shr F E) 64 C (f.take g)) :: (BaseO B d (1 + m) f) :: aa :: Rs) bS := R
 have aK := R.r0
 have hr109s : _ * 96 ≤ _ := aK.2
 exact fun P hv V => ⟨(Exists.intro A (Exists.intro C (And.intro ((V 0 dc).trans D) (And.intro hv R)))), trivial⟩
 refine fun X _ _ bT bU ac ad => ?_
 have hkk : X = 0 ∨ X = 1 ∨ X = 2 := by have h1 : 0 ≤ X := bT; have h2 : X ≤ 2 := bU; omega
 rcases hkk with rfl | rfl | rfl
 have hS204 : Sep _ _ _ _ := ac
 refine obl rfl ?_
 have aL : InR ((g + 1 : Nat) : Int) := bo
 exact zQ (r := ((g + 1 : Nat) : Int)) (k := .i64) (a := ((g : Nat) : Int)) (b := 1) (ad 6 (by decide)) rfl (by rw [show (((g : Nat) : Int) + 1 : Int) = ((g + 1 : Nat) : Int) from bo]; exact zx aL) dR
 obtain ⟨A, D, hS207⟩ := ac
 refine obl rfl ?_
 have aM : InR ((g + 1 : Nat) : Int) := bo
 exact zQ (r := ((g + 1 : Nat) : Int)) (k := .i64) (a := ((g : Nat) : Int)) (b := 1) (ad 6 (by decide)) rfl (by rw [show (((g : Nat) : Int) + 1 : Int) = ((g + 1 : Nat) : Int) from bo]; exact zx aM) dR
 obtain ⟨A, C, D, K, hS210⟩ := ac
 refine obl rfl ?_
 have aN : InR ((g + 1 : Nat) : Int) := bo
 exact zQ (r := ((g + 1 : Nat) : Int)) (k := .i64) (a := ((g : Nat) : Int)) (b := 1) (ad 6 (by decide)) rfl (by rw [show (((g : Nat) : Int) + 1 : Int) = ((g + 1 : Nat) : Int) from bo]; exact zx aN) dR
 refine fun Y _ _ bV bW ae L => ?_
 have hkk : Y = 0 ∨ Y = 1 ∨ Y = 2 := by have h1 : 0 ≤ Y := bV; have h2 : Y ≤ 2 := bW; omega
 rcases hkk with rfl | rfl | rfl
 have hS219 : Sep _ _ _ _ := ae
 refine obl rfl ?_
 exact Zd (i := g + 1) (k := 10) (n := f.length) kT lT (L 5 dc) u.sl (L 7 dc) bo dR
 obtain ⟨A, D, hS222⟩ := ae
 refine obl rfl ?_
 exact Zd (i := g + 1) (k := 10) (n := f.length) kT lT (L 5 dc) u.sl (L 7 dc) bo dR
 obtain ⟨A, C, D, K, hS225⟩ := ae
 refine obl rfl ?_
 exact Zd (i := g + 1) (k := 10) (n := f.length) kT lT (L 5 dc) u.sl (L 7 dc) bo dR
 refine ob1 2 fun _ _ aO aP => ?_
 obtain ⟨A, C, D, K, aQ⟩ := aO
 refine obl rfl ?_
 have ay := RdS.sub_lo (i := g + 1) u (by first | omega | (simp only [List.length_drop, List.length_take]; omega))
 have h152s : _ * 96 ≤ _ := ay.small
 refine (yU (src := (shr F E)) (bytes := 96) aQ VT K (aP 8 (by decide)) ay yqb rfl (hq' := fun _ _ h _ _ => h) ?_)
 intro y w149 am
 have aR := am.r0
 have hr153s : _ * 96 ≤ _ := aR.2
 exact fun P hv V => ⟨(Exists.intro A (Exists.intro C (Exists.intro y (And.intro ((V 0 dc).trans D) (And.intro ((V 4 dc).trans K) (And.intro hv am)))))), trivial⟩
 refine ob1 3 fun _ _ aT _ => ?_
 obtain ⟨A, C, y, D, K, S, hS234⟩ := aT
 refine obl rfl (zt (v := y) S (fun P hv V => ⟨rfl, ?_⟩))
 intro v150q aj
 rw [V 9 (by decide)] at aj; cases S.symm.trans aj
 exact hv
 intro vals bX aU aV
 obtain ⟨A, C, y, D, K, S, aW⟩ := aU
 have bY : vals 10 = (y : Value) := aV 10 dc y S
 refine zX (kv := [(0, .agg (d.cells dd0 dd1).toArray), (1, Iv n), (2, Iw (1 + m)), (3, t), (4, Iw s), (5, Iw g), (6, Ix b2 0), (12, .bool false), (17, .agg (d.cells dd0 dd1).toArray), (18, .bool b5), (19, .bool false), (21, Iv n), (22, Iw O), (23, Iw (1 + O)), (24, vl), (25, t), (26, Iv every), (27, Iw m), (28, Iw (1 + m)), (29, .agg (d.cells dd0 dd1).toArray), (30, Iw (1 + m)), (31, Ix B 0), (13, Ix B 0), (32, Ix B 0), (33, .bool false), (34, Iv ka), (35, t), (36, Iw f.length), (37, Iw (f.length + 1)), (38, Iw s), (39, Ix B 0), (40, t), (41, Iw s), (42, (yT 10 t 0 s)), (43, Iw ((f.take s).length - zH (1 + m) (f.take s) ([] : List Ev))), (44, Iw s), (45, .bool false), (46, .bool false), (47, Ix B 0), (48, t), (49, Iw (f.length - zH (1 + m) f (f.take s))), (50, t), (51, Iw f.length), (52, Iw s), (53, Iw (f.length - s)), (54, .bool false), (55, .bool false), (56, .bool false), (57, Ix B 0), (58, t), (59, Iw (f.length - zH (1 + m) f f)), (60, .bool false), (61, .bool false), (62, t), (63, Iw f.length), (64, .bool false), (66, Iv ko), (67, t), (68, Iw f.length), (69, Iw g), (14, y)]) ⟨rfl, rfl, rfl, rfl, rfl, rfl, rfl, rfl, rfl, rfl, rfl, rfl, rfl, rfl, rfl, rfl, rfl, rfl, rfl, rfl, rfl, rfl, rfl, rfl, rfl, rfl, rfl, rfl, rfl, rfl, rfl, rfl, rfl, rfl, rfl, rfl, rfl, rfl, rfl, rfl, rfl, rfl, rfl, rfl, rfl, rfl, rfl, rfl, rfl, rfl, rfl, rfl, rfl, rfl, rfl, rfl, rfl, rfl, rfl, rfl, (by exact bY), trivial⟩ (fun ρw235 => ?_)
 refine zb (za ?_)
 have aX : Sep F E ((RowE (α := Ev) (shr F E) 64 y (zW f g)) :: (BaseO B d (1 + m) f) :: aa :: Rs) bX := aW
 obtain ⟨G241, aY, H, aZ, an⟩ := aX.lend
 have M := RowE.rdB aY H
 have hrd247s : _ * 96 ≤ _ := M.small
 have Z : g < f.length := by omega
 have hll9 := Xa Z
 have bZ := JA (q := g) (e := (1 + m)) om
 obtain ⟨m9, az⟩ : ∃ z, g / (1 + m) * (1 + m) = z := ⟨_, rfl⟩
 rw [az] at bZ
 have hD9 : zH (1 + m) (zW f g) f = m9 := by rw [Yw (Qd p Z) Z]; exact az
 refine R0 fun _ => st (mV (Ix B 0) (st (mV y ?_)))
 refine st (cL mT (yW (l := (zW f g)) (vl := y) M (RdS.base (RdS.base hKN I) H) aZ (J.1) (J.2) ((by first | exact p.one (fun _ h => List.mem_of_mem_take h) (fun _ h => absurd h List.not_mem_nil) | exact p.one (fun _ h => h) (fun _ h => List.mem_of_mem_take h) | exact p.one (fun _ h => h) (fun _ h => h) | exact p.one xd (fun _ h => h) | exact p.one (fun _ h => h) xd)) ((by first | omega | (simp only [List.length_take, List.length_nil]; omega))) ((by first | omega | (simp only [List.length_take, List.length_nil]; omega)))) ?_)
 rintro _ w248 ⟨rfl, ba⟩
 refine st (aS (Iw ((zW f g).length - zH (1 + m) (zW f g) f)) (zb (za (za (zD kr (st (mV (Iw ((zW f g).length - zH (1 + m) (zW f g) f)) (st (mV y (st (zC (n := (zW f g).length) kT rfl M.sl (st (mV (Iw g) ?_)))))))))))))
 have bb : InR ((((zW f g).length) - g : Nat) : Int) := bo
 refine st (xN (r := ((((zW f g).length) - g : Nat) : Int)) (k := .i64) (a := (((zW f g).length : Nat) : Int)) (b := ((g : Nat) : Int)) rfl rfl (by rw [show ((((zW f g).length : Nat) : Int) - ((g : Nat) : Int) : Int) = ((((zW f g).length) - g : Nat) : Int) from bo]; exact zx bb) (st (zN (k := .i64) (a := ((((zW f g).length - zH (1 + m) (zW f g) f) : Nat) : Int)) (b := ((((zW f g).length) - g : Nat) : Int)) rfl rfl ?_)))
 have aA : (decide (((((zW f g).length - zH (1 + m) (zW f g) f) : Nat) : Int) < ((((zW f g).length) - g : Nat) : Int))) = false := (by simp only [Bool.not_eq_false', decide_eq_true_eq, decide_eq_false_iff_not]; omega)
 rw [aA]
 refine st (mV (.bool false) (sty rfl rfl (mV (Iw ((zW f g).length - zH (1 + m) (zW f g) f)) (sty rfl rfl (mV y (sty rfl rfl (zC (n := (zW f g).length) kT rfl M.sl (sty rfl rfl (mV (Iw g) ?_)))))))))
 have bc : InR ((((zW f g).length) - g : Nat) : Int) := bo
 refine sty rfl rfl (xN (r := ((((zW f g).length) - g : Nat) : Int)) (k := .i64) (a := (((zW f g).length : Nat) : Int)) (b := ((g : Nat) : Int)) rfl rfl (by rw [show ((((zW f g).length : Nat) : Int) - ((g : Nat) : Int) : Int) = ((((zW f g).length) - g : Nat) : Int) from bo]; exact zx bc) (sty rfl rfl (mV (Iw (1 + m)) ?_)))
 have bd : InR ((((zW f g).length) - g + (1 + m) : Nat) : Int) := bo
 refine sty rfl rfl (zQ (r := ((((zW f g).length) - g + (1 + m) : Nat) : Int)) (k := .i64) (a := ((((zW f g).length) - g : Nat) : Int)) (b := ((1 + m : Nat) : Int)) rfl rfl (by rw [show (((((zW f g).length) - g : Nat) : Int) + ((1 + m : Nat) : Int) : Int) = ((((zW f g).length) - g + (1 + m) : Nat) : Int) from bo]; exact zx bd) ?_)
 have be : InR (((((zW f g).length) - g + (1 + m)) - 1 : Nat) : Int) := bo
 refine sty rfl rfl (xN (r := (((((zW f g).length) - g + (1 + m)) - 1 : Nat) : Int)) (k := .i64) (a := ((((zW f g).length) - g + (1 + m) : Nat) : Int)) (b := 1) rfl rfl (by rw [show (((((zW f g).length) - g + (1 + m) : Nat) : Int) - 1 : Int) = (((((zW f g).length) - g + (1 + m)) - 1 : Nat) : Int) from bo]; exact zx be) (sty rfl rfl (yQ (k := .i64) (a := ((((zW f g).length - zH (1 + m) (zW f g) f) : Nat) : Int)) (b := (((((zW f g).length) - g + (1 + m)) - 1 : Nat) : Int)) rfl rfl ?_)))
 have aB : (decide ((((((zW f g).length) - g + (1 + m)) - 1 : Nat) : Int) < ((((zW f g).length - zH (1 + m) (zW f g) f) : Nat) : Int))) = false := (by simp only [Bool.not_eq_false', decide_eq_true_eq, decide_eq_false_iff_not]; omega)
 rw [aB]
 refine st (zZ (v := .bool false) rfl rfl (zb (ze rfl (zo (za ?_)))))
 have cg : ¬ g < (zW f g).length → zH (1 + m) f (zW f g) = g := fun h => Ve (XT p Z) h
 have bw : g < (zW f g).length → zH (1 + m) f (zW f g) = m9 := fun h => (Yw (XT p Z) h).trans az
 refine R0 fun _ => st (mV (Ix B 0) (st (mV t ?_)))
 refine st (cL mT (yW (l := f) (vl := t) (RdS.base u H) (RdS.base (RdS.base hKN I) H) ba (J.1) (J.2) ((by first | exact p.one (fun _ h => List.mem_of_mem_take h) (fun _ h => absurd h List.not_mem_nil) | exact p.one (fun _ h => h) (fun _ h => List.mem_of_mem_take h) | exact p.one (fun _ h => h) (fun _ h => h) | exact p.one xd (fun _ h => h) | exact p.one (fun _ h => h) xd)) ((by first | omega | (simp only [List.length_take, List.length_nil]; omega))) ((by first | omega | (simp only [List.length_take, List.length_nil]; omega)))) ?_)
 rintro _ w256 ⟨rfl, ao⟩
 refine st (aS (Iw (f.length - zH (1 + m) f (zW f g))) (zb (za (R0 fun _ => st (mV t (st (zC (n := f.length) kT rfl (RdS.base u H).sl (st (mV (Iw g) ?_)))))))))
 have bf : InR ((f.length - g : Nat) : Int) := bo
 refine st (xN (r := ((f.length - g : Nat) : Int)) (k := .i64) (a := ((f.length : Nat) : Int)) (b := ((g : Nat) : Int)) rfl rfl (by rw [show (((f.length : Nat) : Int) - ((g : Nat) : Int) : Int) = ((f.length - g : Nat) : Int) from bo]; exact zx bf) (st (aS (Iw (f.length - g)) (zb (za (za (zq (by kernel_rfl) (fun _ => (st (mV (Iw g) (st (mV t (st (zC (n := f.length) kT rfl (RdS.base u H).sl ?_))))))))))))))
 have bg : InR ((f.length - 1 : Nat) : Int) := bo
 refine st (xN (r := ((f.length - 1 : Nat) : Int)) (k := .i64) (a := ((f.length : Nat) : Int)) (b := 1) rfl rfl (by rw [show (((f.length : Nat) : Int) - 1 : Int) = ((f.length - 1 : Nat) : Int) from bo]; exact zx bg) (st (ya (k := .i64) (a := ((g : Nat) : Int)) (b := ((f.length - 1 : Nat) : Int)) rfl rfl (zb ?_))))
 cases N : decide (((g : Nat) : Int) = ((f.length - 1 : Nat) : Int))
 have hc260r := N
 have N := fD N
 refine ze rfl (zo (za (zD kr (st (mV (Iw (f.length - zH (1 + m) f (zW f g))) (st (mV (Iw (f.length - g)) (st (xV (k := .i64) (a := (((f.length - zH (1 + m) f (zW f g)) : Nat) : Int)) (b := ((f.length - g : Nat) : Int)) rfl rfl ?_)))))))))
 have aC : (decide (((f.length - g : Nat) : Int) ≤ (((f.length - zH (1 + m) f (zW f g)) : Nat) : Int))) = true := (by simp only [Bool.not_eq_false', decide_eq_true_eq, decide_eq_false_iff_not]; have h9 := bw (by omega); omega)
 rw [aC]
 refine st (mV (.bool true) (sty rfl rfl (mV (Iw (f.length - zH (1 + m) f (zW f g))) (sty rfl rfl (mV (Iw (f.length - g)) (sty rfl rfl (mV (Iw (1 + m)) ?_)))))))
 have bh : InR ((f.length - g + (1 + m) : Nat) : Int) := bo
 refine sty rfl rfl (zQ (r := ((f.length - g + (1 + m) : Nat) : Int)) (k := .i64) (a := ((f.length - g : Nat) : Int)) (b := ((1 + m : Nat) : Int)) rfl rfl (by rw [show (((f.length - g : Nat) : Int) + ((1 + m : Nat) : Int) : Int) = ((f.length - g + (1 + m) : Nat) : Int) from bo]; exact zx bh) ?_)
 have bi : InR (((f.length - g + (1 + m)) - 1 : Nat) : Int) := bo
 refine sty rfl rfl (xN (r := (((f.length - g + (1 + m)) - 1 : Nat) : Int)) (k := .i64) (a := ((f.length - g + (1 + m) : Nat) : Int)) (b := 1) rfl rfl (by rw [show (((f.length - g + (1 + m) : Nat) : Int) - 1 : Int) = (((f.length - g + (1 + m)) - 1 : Nat) : Int) from bo]; exact zx bi) (sty rfl rfl (Kz (k := .i64) (a := (((f.length - zH (1 + m) f (zW f g)) : Nat) : Int)) (b := (((f.length - g + (1 + m)) - 1 : Nat) : Int)) rfl rfl ?_)))
 have aD : (decide ((((f.length - zH (1 + m) f (zW f g)) : Nat) : Int) ≤ (((f.length - g + (1 + m)) - 1 : Nat) : Int))) = true := (by simp only [Bool.not_eq_false', decide_eq_true_eq, decide_eq_false_iff_not]; have h9 := bw (by omega); omega)
 rw [aD]
 refine st (ye (v := .bool true) rfl rfl (st (mV (.bool true) (sty rfl rfl (cL sT (ZI  (RdS.base (RdS.base hKN I) H) ao) ?_)))))
 rintro _ w265 ⟨rfl, bj⟩
 refine st (ye (v := .bool true) rfl rfl (st (aS (.bool true) (zb (zm (zR tT (show _ = (.bool true : Value) from rfl) ?_))))))
 have bk := an _ _ bj
 have bl := af _ _ bk
 refine ⟨rfl, (bl.s4_)⟩
 have N := tD N
 refine zg rfl (za (zD kr (st (mV (Iw (f.length - zH (1 + m) f (zW f g))) (st (ya (k := .i64) (a := (((f.length - zH (1 + m) f (zW f g)) : Nat) : Int)) (b := 1) rfl rfl ?_))))))
 have aE : (decide ((((f.length - zH (1 + m) f (zW f g)) : Nat) : Int) = 1)) = true := (by simp only [Bool.not_eq_false', decide_eq_true_eq, decide_eq_false_iff_not]; have h9 := cg (by omega); omega)
 rw [aE]
 refine st (mV (.bool true) (sty rfl rfl (cL sT (ZI  (RdS.base (RdS.base hKN I) H) ao) ?_)))
 rintro _ w271 ⟨rfl, bm⟩
 refine st (ye (v := .bool true) rfl rfl (st (aS (.bool true) (zb (zm (zR tT (show _ = (.bool true : Value) from rfl) ?_))))))
 have bn := an _ _ bm
 have bp := af _ _ bn
 refine ⟨rfl, (bp.s4_)⟩
 have T := tD T
 refine zg rfl (za (R0 fun _ => st (cL sT (ZI  (RdS.base hKN I) aw) ?_)))
 rintro _ w276 ⟨rfl, bq⟩
 refine st (aS (.bool true) (zb (zm (zR tT (show _ = (.bool true : Value) from rfl) ?_))))
 have br := af _ _ bq
 refine ⟨rfl, (br.s3_)⟩
 try simp only [zk] at ah
 refine zg rfl (za (R0 fun _ => st (cL sT (ZI  hKN bu) ?_)))
 rintro _ w280 ⟨rfl, bs⟩
 refine st (aS (.bool true) (zb (zm (zR tT (show _ = (.bool true : Value) from rfl) ?_))))
 refine ⟨rfl, (bs.s1_)⟩

end Go.Proofs.YtojlbibionhdjaaGreatDoor
set_option maxRecDepth 8000
set_option maxHeartbeats 4000000
namespace Go.Proofs.YtojlbibionhdjaaGreatDoor
open Go.Proofs Go.RowKit

theorem Xg {w : World} {d : Dcl} {dd0 dd1 : Value} (h0 : RdS w (xm w) dd0 d.types) (h1 : RdS w (xm w) dd1 d.projs) (od : d.Ok) {n0 : Int} (hn0 : InR n0) {n1 : Int} (hn1 : InR n1) {vl : Value} {l : List Ev} (hl : RdS w (xm w) vl l) {n2 : Int} (hn2 : InR n2) {n3 : Int} (hn3 : InR n3) (hK : RdS w (xm w) (.slice (some ⟨0, 0, none⟩) 6 6) kindsL) : Ret Tryz.prog 3 [.agg (d.cells dd0 dd1).toArray, .int .i64 n0, .int .i64 n1, vl, .int .i64 n2, .int .i64 n3] w (fun r w' => r = .bool true ∧ Ext w w') :=
  Ret.mono (YY h0 h1 od hn0 hn1 hl hn2 hn3 hK (Sep.start w)) (fun r w' h => ⟨h.1, h.2.fin⟩)
end Go.Proofs.YtojlbibionhdjaaGreatDoor
