import Derived.Test.YtojlbibionhdjaaGreatDoorD9
set_option linter.unusedSimpArgs false
set_option linter.unusedVariables false
set_option linter.unusedSectionVars false
set_option linter.deprecated false
set_option maxRecDepth 8000
set_option maxHeartbeats 4000000
open Go.Proofs.Tryz renaming underlying41 → kT, isAgg3 → lT, sizeOf44 → mT, sizeOf64 → nT, underlying26 → oT, sizeOf46 → pT, call13 → qT, underlying23 → rT, isAgg64 → sT, isAgg23 → tT, sizeOf25 → uT, underlying39 → vT, results29 → wT, isAgg25 → kR, call16 → lR, isAgg44 → mR, call12 → nR, underlying31 → oR, zeroValue64 → pR, zeroValue44 → qR, call15 → rR, sizeOf66 → sR, underlying35 → tR, call9 → uR, results4 → vR, sizeOf38 → wR, isAgg46 → kY, call17 → lY
namespace Go.Proofs.YtojlbibionhdjaaGreatDoor
open Go.Proofs Go.RowKit

theorem zaB {x y : Operand} {a0 a1 a2 b0 b1 b2 : Int} : ∀ w, (do eqGuard .neq 44 x y (.agg #[.int .i64 a0, .int .i64 a1, .int .i64 a2]) (.agg #[.int .i64 b0, .int .i64 b1, .int .i64 b2]); binOp .neq 44 (.agg #[.int .i64 a0, .int .i64 a1, .int .i64 a2]) (.agg #[.int .i64 b0, .int .i64 b1, .int .i64 b2]) : Sem Value).run Tryz.prog w = .ok (.bool (!decide (a0 = b0 ∧ a1 = b1 ∧ a2 = b2))) w := by
  intro w
  have h : ∀ w, (Op.equal 44 (.agg #[.int .i64 a0, .int .i64 a1, .int .i64 a2]) (.agg #[.int .i64 b0, .int .i64 b1, .int .i64 b2])).run Tryz.prog w = .ok (decide (a0 = b0 ∧ a1 = b1 ∧ a2 = b2)) w := by
    intro w
    rw [show decide (a0 = b0 ∧ a1 = b1 ∧ a2 = b2) = (a0 == b0 && a1 == b1 && a2 == b2) by by_cases h1 : a0 = b0 <;> by_cases h2 : a1 = b1 <;> by_cases h3 : a2 = b2 <;> simp [h1, h2, h3]]; unfold Op.equal Op.maxDepth; simp [go_sem]; by_cases h1 : a0 = b0 <;> by_cases h2 : a1 = b1 <;> by_cases h3 : a2 = b2 <;> simp [h1, h2, h3]
  simp [eqGuard, binOp, h, go_sem]
theorem Ux {G : Nat → Prop} {W w : World} {Rs : List HP} {va : Value} {a : List Row} (ha : RdS W G va a) {vb : Value} {b : List Row} (hb : RdS W G vb b) (hS0 : Sep G W Rs w) : Ret Tryz.prog 29 [va, vb] w (fun r w' => r = (.bool (decide (a = b)) : Value) ∧ Sep G W Rs w') := by
 have has : _ * 24 ≤ _ := ha.small
 have hbs : _ * 24 ≤ _ := hb.small
 refine zk (args := [va, vb]) Tryz.func29 rfl rfl ?_
 refine za (R0 fun _ => st (aS (.bool false) (zb (za (za (R0 fun _ => st (mV va (st (zG (n := a.length) kT rfl ha.sl (st (mV vb (st (zG (n := b.length) kT rfl hb.sl (st (yw (k := .i64) (a := ((a.length : Nat) : Int)) (b := ((b.length : Nat) : Int)) rfl rfl (zb ?_))))))))))))))))
 cases g : !decide (((a.length : Nat) : Int) = ((b.length : Nat) : Int))
 have g := yZ g
 refine zf rfl (zn (za (za (R0 fun _ => st (aS (Iv 0) (zb (zp (zZ (fun mq σ J => ∃ (k : Nat) (ρ : Env), mq = a.length - k ∧ σ = ya ρ [(0, va), (1, vb), (5, Iw k)] ∧ (k ≤ a.length) ∧ (∀ i, i < k → a.getD i default = b.getD i default) ∧ Sep G W Rs J) ⟨0, _, rfl, sSf, Nat.zero_le _, (fun i h => absurd h (Nat.not_lt_zero i)), hS0⟩ ?_))))))))
 rintro m3 σ4 w2 ⟨k, ρl1, rfl, rfl, hkk, hm, I⟩
 refine za (za (R0 fun _ => st (mV (Iw k) (st (mV va (st (zG (n := a.length) kT rfl ha.sl (st (zJ (k := .i64) (a := ((k : Nat) : Int)) (b := ((a.length : Nat) : Int)) rfl rfl (zb ?_))))))))))
 cases m : decide (((k : Nat) : Int) < ((a.length : Nat) : Int))
 have m := fD m
 refine zf rfl (zY (zR (za (R0 fun _ => st (aS (.bool true) (zb (zm (zT wT (show _ = (.bool true : Value) from rfl) ?_))))))))
 refine ⟨?_, I⟩
 rw [decide_eq_true (QM (by omega) (fun i hi => hm i (by omega)))]
 have m := tD m
 refine zi rfl (zn (za (zp (za ?_))))
 refine WD4 (WF [fun vals J => Sep G W Rs J]) (AF [Vl 0 (va), Vl 1 (Iw k), Vl 2 (Ix (sb va) (so va + k * 3)), Vl 3 (.agg ((a.getD k default).cells).toArray), Vl 4 (vb), Vl 5 (Iw k), Vl 6 (Ix (sb vb) (so vb + k * 3)), Vl 7 (.agg ((b.getD k default).cells).toArray), Vl 8 (.bool (!decide ((a.getD k default).group = (b.getD k default).group ∧ (a.getD k default).value = (b.getD k default).value ∧ (a.getD k default).count = (b.getD k default).count)))]) [[], [], [0, 1], [0, 1, 2], [], [], [4, 5], [4, 5, 6], (rg 8)] [] [(0, 0), (0, 0), (0, 0), (0, 0), (0, 0), (0, 0), (0, 0), (0, 0), (0, 0)] I ⟨fun _ _ _ _ _ _ _ => obl rfl (mV va dR), fun _ _ _ _ _ _ _ => obl rfl (mV (Iw k) dR), ?_, ?_, fun _ _ _ _ _ _ _ => obl rfl (mV vb dR), fun _ _ _ _ _ _ _ => obl rfl (mV (Iw k) dR), ?_, ?_, ob1 0 fun _ _ _ o => obl rfl (YY (e := decide ((a.getD k default).group = (b.getD k default).group ∧ (a.getD k default).value = (b.getD k default).value ∧ (a.getD k default).count = (b.getD k default).count)) (xs := #[Iv ((a.getD k default).group), Iv ((a.getD k default).value), Iv ((a.getD k default).count)]) (ys := #[Iv ((b.getD k default).group), Iv ((b.getD k default).value), Iv ((b.getD k default).count)]) zaB (o 3 dc) (o 7 dc) dR), trivial⟩ ?_
 refine ob1 0 fun _ _ _ u => (obl rfl ?_)
 have y : k < a.length := bo
 exact ze (k := 3) (i := k) kT mT (u 0 dc) ha.sl (u 1 dc) y dR
 refine ob1 0 fun _ _ (z : Sep _ _ _ _) A => (obl rfl ?_)
 have d : k < a.length := bo
 obtain ⟨j, s⟩ := ha.row d
 rw [← zw default d] at j s
 have v := z.cells j (ha.foot (ne_of_lt d))
 exact zg (k := 3) mR mT rfl (A 2 dc) v dR
 refine ob1 0 fun _ _ _ p => (obl rfl ?_)
 have B : k < b.length := bo
 exact ze (k := 3) (i := k) kT mT (p 4 dc) hb.sl (p 5 dc) B dR
 refine ob1 0 fun _ _ (C : Sep _ _ _ _) D => (obl rfl ?_)
 have f : k < b.length := bo
 obtain ⟨l, t⟩ := hb.row f
 rw [← zw default f] at l t
 have x := C.cells l (hb.foot (ne_of_lt f))
 exact zg (k := 3) mR mT rfl (D 6 dc) x dR
 intro vals w157 E F
 have q : Sep _ _ _ _ := E
 have K := F 8 dc
 refine zW (kv := [(0, va), (1, vb), (5, Iw k), (11, Iw k), (12, va), (13, Iw a.length), (14, .bool true), (25, .bool (!decide ((a.getD k default).group = (b.getD k default).group ∧ (a.getD k default).value = (b.getD k default).value ∧ (a.getD k default).count = (b.getD k default).count)))]) ⟨rfl, rfl, rfl, rfl, rfl, rfl, rfl, (by exact K), trivial⟩ (fun ρw157 => (zb ?_))
 cases c : !decide ((a.getD k default).group = (b.getD k default).group ∧ (a.getD k default).value = (b.getD k default).value ∧ (a.getD k default).count = (b.getD k default).count)
 have c := yZ c
 refine zf rfl (zn (R0 fun _ => st (mV (Iw k) ?_)))
 have H : InR ((k + 1 : Nat) : Int) := bo
 refine st (zO (r := ((k + 1 : Nat) : Int)) (k := .i64) (a := ((k : Nat) : Int)) (b := 1) rfl rfl (by rw [show (((k : Nat) : Int) + 1 : Int) = ((k + 1 : Nat) : Int) from bo]; exact zy H) (st (aS (Iw (k + 1)) (zb ?_))))
 exact ⟨_, by omega, k + 1, _, rfl, sSf, by omega, (xe hm (Row.eq_iff.2 c)), q⟩
 have c := zV c
 refine zi rfl (za (R0 fun _ => st (aS (.bool false) (zb (zm (zT wT (show _ = (.bool false : Value) from rfl) ?_))))))
 refine ⟨?_, q⟩
 rw [decide_eq_false (fun e => by subst e; first | omega | (simp at c))]
 have g := zV g
 refine zi rfl (za (R0 fun _ => st (aS (.bool false) (zb (zm (zT wT (show _ = (.bool false : Value) from rfl) ?_))))))
 refine ⟨?_, hS0⟩
 rw [decide_eq_false (fun e => by subst e; first | omega | (simp at g))]

theorem QB {G : Nat → Prop} {W w : World} {Rs : List HP}  (hS0 : Sep G W Rs w) : Ret Tryz.prog 31 [] w (fun r w' => ∃ (bt : Nat) (bf : Nat) (bp : Nat), r = (.agg #[(.slice (some ⟨bt, 0, none⟩) 1 1), (.slice (some ⟨bp, 0, none⟩) 1 1)] : Value) ∧ Sep G W ((Blk bt #[(.slice (some ⟨bf, 0, none⟩) 1 1)] 84) :: (Blk bf #[.int .i64 (1), .int .i64 (1), .bool false, .slice none 0 0] 88) :: (Blk bp #[.int .i64 (0), .int .i64 (0), .int .i64 (1), .int .i64 (0), .int .i64 (2)] 46) :: Rs) w') := by
 refine zk (args := []) Tryz.func31 rfl rfl ?_
 refine za (R0 fun _ => st (zI Tryz.zeroValue25 ?_))
 intro w3 b2 j
 refine zb (za (zt (by kernel_rfl) (fun _ => (st (zQ (parts' := [(0, Iv 1), (1, Iv 1)]) (v := .agg #[Iv 1, Iv 1, .bool false, (Iz)]) rfl yqh (st (zD (k := 4) (parts' := [(0, .agg #[Iv 1, Iv 1, .bool false, (Iz)])]) (c := #[Iv 1, Iv 1, .bool false, (Iz)]) Tryz.underlying82 Tryz.sizeOf88 Tryz.zeroValue88 (by decide) rfl (by kernel_rfl) ?_)))))))
 intro w7 e l
 refine st (zQ (parts' := [(0, (Iy e 1 1))]) (v := .agg #[(Iy e 1 1)]) rfl yqh (st (zD (k := 1) (parts' := [(0, .agg #[(Iy e 1 1)])]) (c := #[(Iy e 1 1)]) Tryz.underlying22 Tryz.sizeOf84 Tryz.zeroValue84 (by decide) rfl (by kernel_rfl) ?_)))
 intro w11 a m
 refine st (zQ (parts' := [(2, Iv 1), (4, Iv 2)]) (v := .agg #[Iv 0, Iv 0, Iv 1, Iv 0, Iv 2]) rfl yqh (st (zD (k := 5) (parts' := [(0, .agg #[Iv 0, Iv 0, Iv 1, Iv 0, Iv 2])]) (c := #[Iv 0, Iv 0, Iv 1, Iv 0, Iv 2]) rT pT Tryz.zeroValue46 (by decide) rfl (by kernel_rfl) ?_)))
 intro w15 d h
 have f := (((hS0.new j).new l).new m).new h
 refine st (zQ (parts' := [(0, (Iy a 1 1)), (1, (Iy d 1 1))]) (v := .agg #[(Iy a 1 1), (Iy d 1 1)]) rfl yqh (stn (zA (v := .agg #[(Iy a 1 1), (Iy d 1 1)]) (c' := #[(Iy a 1 1), (Iy d 1 1)]) uT rfl rfl (f.b3) (yf ⟨rfl, rfl, trivial⟩) yqc rfl ?_)))
 intro w17 i
 have g := f.pt3 i
 refine zb (zm (VO (b := b2) Tryz.results31 kR uT rfl rfl (CellsAt.all (g.b3)) ?_))
 refine ⟨a, e, d, rfl, (g.s4_bca)⟩

set_option maxHeartbeats 8000000 in
set_option maxRecDepth 20000 in
theorem Wi {G : Nat → Prop} {W w : World} {Rs : List HP} (hKN : RdS W G (.slice (some ⟨0, 0, none⟩) 6 6) kindsL) (hS0 : Sep G W Rs w) : Ret Tryz.prog 9 [] w (fun r w' => r = (.bool true : Value) ∧ Sep G W Rs w') := by
 have hKNs : _ * 8 ≤ _ := hKN.small
 refine zk (args := []) Tryz.func9 rfl rfl ?_
 refine za ?_
 refine zt (by kernel_rfl) (fun _ => ?_)
 refine st (zv (v := .bool false) rfl ?_)
 refine zb ?_
 refine za ?_
 refine zt (by kernel_rfl) (fun _ => ?_)
 refine st (zL (f := 31) (vals := []) (cap := []) rfl rfl Tryz.call31 (QB  hS0) ?_)
 rintro _ w4 ⟨bt1, bf2, bp3, rfl, hS5⟩
 have hS6 := hS5.mv1
 have hS7 : Sep G W ((RowE (α := Fld) (shr G W) 88 (.slice (some ⟨bf2, 0, none⟩) 1 1) [(⟨1, 1, false, []⟩ : Fld)]) :: (Blk bt1 #[(.slice (some ⟨bf2, 0, none⟩) 1 1)] 84) :: (Blk bp3 #[.int .i64 (0), .int .i64 (0), .int .i64 (1), .int .i64 (0), .int .i64 (2)] 46) :: Rs) w4 := Sep.blkRow (src := (shr G W)) (l := [(⟨1, 1, false, []⟩ : Fld)]) (css := [(⟨1, 1, false, []⟩ : Fld).cells (.slice none 0 0)]) hS6 rfl ⟨fun _ _ => ⟨_, rfl, (RdS.nil _ _), (show Fld.Ok (⟨1, 1, false, []⟩ : Fld) from ⟨by decide, by decide⟩)⟩, trivial⟩ (by first | decide | (simp only [List.length_cons, List.length_nil]; decide)) (show 1 ≤ maxLen by decide)
 have hr8 := hS7.row (i := 0) rfl
 have hr8s : _ * 48 ≤ _ := hr8.2
 obtain ⟨G9, hA11, hB12, hS13, hk14⟩ := hS7.lend
 have hrd15 := RowE.rdB hA11 hB12
 have hrd15s : _ * 48 ≤ _ := hrd15.small
 have hS16 : Sep G9 w4 ((RowE (α := Typ) (shr G9 w4) 84 (.slice (some ⟨bt1, 0, none⟩) 1 1) [(⟨[(⟨1, 1, false, []⟩ : Fld)]⟩ : Typ)]) :: (Blk bp3 #[.int .i64 (0), .int .i64 (0), .int .i64 (1), .int .i64 (0), .int .i64 (2)] 46) :: Rs) w4 := Sep.blkRow (src := (shr G9 w4)) (l := [(⟨[(⟨1, 1, false, []⟩ : Fld)]⟩ : Typ)]) (css := [(⟨[(⟨1, 1, false, []⟩ : Fld)]⟩ : Typ).cells (.slice (some ⟨bf2, 0, none⟩) 1 1)]) hS13 rfl ⟨fun _ _ => ⟨_, rfl, hrd15, (show Typ.Ok (⟨[(⟨1, 1, false, []⟩ : Fld)]⟩ : Typ) from ⟨⟩)⟩, trivial⟩ (by first | decide | (simp only [List.length_cons, List.length_nil]; decide)) (show 1 ≤ maxLen by decide)
 have hr17 := hS16.row (i := 0) rfl
 have hr17s : _ * 24 ≤ _ := hr17.2
 obtain ⟨G18, hA20, hB21, hS22, hk23⟩ := hS16.lend
 have hrd24 := RowE.rdB hA20 hB21
 have hrd24s : _ * 24 ≤ _ := hrd24.small
 have hS25 : Sep G18 w4 ((RowE (α := Prj) own 46 (.slice (some ⟨bp3, 0, none⟩) 1 1) [(⟨0, 0, 1, 0, 2⟩ : Prj)]) :: Rs) w4 := Sep.blkRow (src := own) (l := [(⟨0, 0, 1, 0, 2⟩ : Prj)]) (css := [(⟨0, 0, 1, 0, 2⟩ : Prj).cells]) hS22 rfl ⟨fun _ _ => ⟨rfl, (show Prj.Ok (⟨0, 0, 1, 0, 2⟩ : Prj) from ⟨by decide, by decide, by decide, by decide, by decide⟩)⟩, trivial⟩ (by first | decide | (simp only [List.length_cons, List.length_nil]; decide)) (show 1 ≤ maxLen by decide)
 have hr26 := hS25.row (i := 0) rfl
 have hr26s : _ * 40 ≤ _ := hr26.2
 obtain ⟨G27, hA29, hB30, hS31, hk32⟩ := hS25.lend
 have hrd33 := RowE.rd hA29
 have hrd33s : _ * 40 ≤ _ := hrd33.small
 refine st (zL (f := 12) (vals := [.agg (dC.cells (.slice (some ⟨bt1, 0, none⟩) 1 1) (.slice (some ⟨bp3, 0, none⟩) 1 1)).toArray, .int .i64 (2)]) (cap := []) rfl rfl nR (VD (d := dC) (every := 2) (RdS.base hrd24 hB30) hrd33 (⟨⟩ : Dcl.Ok dC) (by decide) (RdS.base (RdS.base (RdS.base hKN hB12) hB21) hB30) hS31 (Xj)) ?_)
 rintro _ w37 ⟨b34, ev35, rfl, hev36, hS38⟩
 have hS39 := hk32 _ _ hS38
 have hS40 := hk23 _ _ hS39
 have hS41 := hk14 _ _ hS40
 have hS42 : Sep G W ((RowE (α := Fld) (shr G W) 88 (.slice (some ⟨bf2, 0, none⟩) 1 1) [(⟨1, 1, false, []⟩ : Fld)]) :: (RowE (α := Prj) own 46 (.slice (some ⟨bp3, 0, none⟩) 1 1) [(⟨0, 0, 1, 0, 2⟩ : Prj)]) :: (BaseO b34 dC ev35 ([] : List Ev)) :: Rs) w37 := hS41.sel 4 [0, 2, 3] (Nat.le_add_left _ _) rfl rfl
 refine st (zv (v := .pointer (some ⟨b34, 0, none⟩)) rfl ?_)
 refine zb ?_
 refine za ?_
 obtain rfl : ev35 = 2 := by omega
 have hS43 : Sep G W ((RowE (α := Fld) (shr G W) 88 (.slice (some ⟨bf2, 0, none⟩) 1 1) [(⟨1, 1, false, []⟩ : Fld)]) :: (RowE (α := Prj) own 46 (.slice (some ⟨bp3, 0, none⟩) 1 1) [(⟨0, 0, 1, 0, 2⟩ : Prj)]) :: (BaseO b34 dC 2 ([] : List Ev)) :: Rs) w37 := hS42
 refine zt (by kernel_rfl) (fun _ => ?_)
 refine st (zL (f := 30) (vals := []) (cap := []) rfl rfl Tryz.call30 (zbn  hS43) ?_)
 rintro v44 w45 ⟨_, rfl, hS46⟩
 have hr47 := hS46.row (i := 0) rfl
 have hr47s : _ * 96 ≤ _ := hr47.2
 refine st (zv (v := v44) rfl ?_)
 refine zb ?_
 refine za ?_
 refine za ?_
 have hf5 : fiv.length = 5 := rfl
 obtain ⟨G48, hA50, hB51, hS52, hk53⟩ := hS46.lend
 have hrd54 := RowE.rd hA50
 have hrd54s : _ * 96 ≤ _ := hrd54.small
 refine Vn ((fun pp0 pp1 pp2 pp3 => WF [fun vals wq => Sep G48 w45 (pp0 :: pp1 :: (BaseO b34 dC 2 ([] : List Ev)) :: Rs) wq, fun vals wq => (vals 6 = (.int .i64 ((((fiv.take 3).length - yb 2 (fiv.take 3) ([] : List Ev)) : Nat) : Int) : Value)) ∧ Sep G48 w45 ((BaseO b34 dC 2 (fiv.take 3)) :: pp0 :: pp1 :: Rs) wq, fun _ _ => True, fun vals wq => (vals 6 = (.int .i64 ((((fiv.take 3).length - yb 2 (fiv.take 3) ([] : List Ev)) : Nat) : Int) : Value)) ∧ (vals 13 = (.int .i64 ((((fiv.take 4).length - yb 2 (fiv.take 4) (fiv.take 3)) : Nat) : Int) : Value)) ∧ Sep G48 w45 (pp2 :: pp0 :: pp1 :: Rs) wq, fun _ _ => True, fun _ _ => True, fun _ _ => True, fun vals wq => ∃ (b319 : Nat), (vals 6 = (.int .i64 ((((fiv.take 3).length - yb 2 (fiv.take 3) ([] : List Ev)) : Nat) : Int) : Value)) ∧ (vals 13 = (.int .i64 ((((fiv.take 4).length - yb 2 (fiv.take 4) (fiv.take 3)) : Nat) : Int) : Value)) ∧ (vals 30 = ((.slice (some ⟨b319, 0, none⟩) 4 4) : Value)) ∧ Sep G48 w45 ((Blk b319 #[.int .i64 ((fiv.getD 0 default).origin), .int .i64 ((fiv.getD 0 default).seq), .int .i64 ((fiv.getD 0 default).lam), (zC w45 (sb v44) (so v44 + 0 * 10 + 3)), .int .i64 ((fiv.getD 0 default).typ), .int .i64 ((fiv.getD 0 default).agg), .int .i64 ((fiv.getD 0 default).field), .int .i64 ((fiv.getD 0 default).op), .int .i64 ((fiv.getD 0 default).arg), .int .i64 ((fiv.getD 0 default).key), .int .i64 ((fiv.getD 1 default).origin), .int .i64 ((fiv.getD 1 default).seq), .int .i64 ((fiv.getD 1 default).lam), (zC w45 (sb v44) (so v44 + 1 * 10 + 3)), .int .i64 ((fiv.getD 1 default).typ), .int .i64 ((fiv.getD 1 default).agg), .int .i64 ((fiv.getD 1 default).field), .int .i64 ((fiv.getD 1 default).op), .int .i64 ((fiv.getD 1 default).arg), .int .i64 ((fiv.getD 1 default).key), .int .i64 ((fiv.getD 2 default).origin), .int .i64 ((fiv.getD 2 default).seq), .int .i64 ((fiv.getD 2 default).lam), (zC w45 (sb v44) (so v44 + 2 * 10 + 3)), .int .i64 ((fiv.getD 2 default).typ), .int .i64 ((fiv.getD 2 default).agg), .int .i64 ((fiv.getD 2 default).field), .int .i64 ((fiv.getD 2 default).op), .int .i64 ((fiv.getD 2 default).arg), .int .i64 ((fiv.getD 2 default).key), .int .i64 ((fiv.getD 4 default).origin), .int .i64 ((fiv.getD 4 default).seq), .int .i64 ((fiv.getD 4 default).lam), (zC w45 (sb v44) (so v44 + 4 * 10 + 3)), .int .i64 ((fiv.getD 4 default).typ), .int .i64 ((fiv.getD 4 default).agg), .int .i64 ((fiv.getD 4 default).field), .int .i64 ((fiv.getD 4 default).op), .int .i64 ((fiv.getD 4 default).arg), .int .i64 ((fiv.getD 4 default).key)] 64) :: pp2 :: pp0 :: pp1 :: Rs) wq, fun _ _ => True, fun _ _ => True, fun _ _ => True, fun _ _ => True, fun _ _ => True, fun _ _ => True, fun _ _ => True, fun vals wq => ∃ (b319 : Nat), (vals 6 = (.int .i64 ((((fiv.take 3).length - yb 2 (fiv.take 3) ([] : List Ev)) : Nat) : Int) : Value)) ∧ (vals 13 = (.int .i64 ((((fiv.take 4).length - yb 2 (fiv.take 4) (fiv.take 3)) : Nat) : Int) : Value)) ∧ (vals 30 = ((.slice (some ⟨b319, 0, none⟩) 4 4) : Value)) ∧ (vals 31 = (.int .i64 ((([(fiv.getD 0 default), (fiv.getD 1 default), (fiv.getD 2 default), (fiv.getD 4 default)].length - yb 2 [(fiv.getD 0 default), (fiv.getD 1 default), (fiv.getD 2 default), (fiv.getD 4 default)] (fiv.take 4)) : Nat) : Int) : Value)) ∧ Sep G48 w45 ((RowE (α := Ev) (shr G48 w45) 64 (.slice (some ⟨b319, 0, none⟩) 4 4) [(fiv.getD 0 default), (fiv.getD 1 default), (fiv.getD 2 default), (fiv.getD 4 default)]) :: pp3 :: pp0 :: pp1 :: Rs) wq, fun _ _ => True, fun _ _ => True, fun _ _ => True, fun _ _ => True, fun _ _ => True, fun _ _ => True, fun _ _ => True, fun _ _ => True, fun _ _ => True, fun _ _ => True, fun _ _ => True, fun _ _ => True, fun _ _ => True, fun _ _ => True, fun _ _ => True, fun vals wq => ∃ (b319 : Nat) (v400 : Value), (vals 6 = (.int .i64 ((((fiv.take 3).length - yb 2 (fiv.take 3) ([] : List Ev)) : Nat) : Int) : Value)) ∧ (vals 13 = (.int .i64 ((((fiv.take 4).length - yb 2 (fiv.take 4) (fiv.take 3)) : Nat) : Int) : Value)) ∧ (vals 30 = ((.slice (some ⟨b319, 0, none⟩) 4 4) : Value)) ∧ (vals 31 = (.int .i64 ((([(fiv.getD 0 default), (fiv.getD 1 default), (fiv.getD 2 default), (fiv.getD 4 default)].length - yb 2 [(fiv.getD 0 default), (fiv.getD 1 default), (fiv.getD 2 default), (fiv.getD 4 default)] (fiv.take 4)) : Nat) : Int) : Value)) ∧ (vals 36 = (v400 : Value)) ∧ Sep G48 w45 (pp3 :: (RowE (α := Row) own 44 v400 (yJ dC [(fiv.getD 0 default), (fiv.getD 1 default), (fiv.getD 2 default), (fiv.getD 4 default)] 0)) :: (RowE (α := Ev) (shr G48 w45) 64 (.slice (some ⟨b319, 0, none⟩) 4 4) [(fiv.getD 0 default), (fiv.getD 1 default), (fiv.getD 2 default), (fiv.getD 4 default)]) :: pp0 :: pp1 :: Rs) wq, fun _ _ => True, fun _ _ => True, fun _ _ => True, fun _ _ => True, fun _ _ => True, fun _ _ => True, fun _ _ => True, fun _ _ => True, fun _ _ => True, fun _ _ => True, fun _ _ => True, fun _ _ => True, fun _ _ => True, fun _ _ => True, fun _ _ => True, fun vals wq => ∃ (b319 : Nat) (b423 : Nat), (vals 6 = (.int .i64 ((((fiv.take 3).length - yb 2 (fiv.take 3) ([] : List Ev)) : Nat) : Int) : Value)) ∧ (vals 13 = (.int .i64 ((((fiv.take 4).length - yb 2 (fiv.take 4) (fiv.take 3)) : Nat) : Int) : Value)) ∧ (vals 30 = ((.slice (some ⟨b319, 0, none⟩) 4 4) : Value)) ∧ (vals 31 = (.int .i64 ((([(fiv.getD 0 default), (fiv.getD 1 default), (fiv.getD 2 default), (fiv.getD 4 default)].length - yb 2 [(fiv.getD 0 default), (fiv.getD 1 default), (fiv.getD 2 default), (fiv.getD 4 default)] (fiv.take 4)) : Nat) : Int) : Value)) ∧ (vals 38 = ((.slice (some ⟨b423, 0, none⟩) 1 1) : Value)) ∧ Sep G48 w45 ((Blk b423 ((⟨0, 23, 4⟩ : Row).cells).toArray 44) :: (RowE (α := Ev) (shr G48 w45) 64 (.slice (some ⟨b319, 0, none⟩) 4 4) [(fiv.getD 0 default), (fiv.getD 1 default), (fiv.getD 2 default), (fiv.getD 4 default)]) :: pp3 :: pp0 :: pp1 :: Rs) wq, fun _ _ => True, fun _ _ => True, fun _ _ => True, fun _ _ => True, fun _ _ => True, fun _ _ => True, fun _ _ => True, fun _ _ => True, fun _ _ => True, fun _ _ => True, fun _ _ => True, fun _ _ => True, fun _ _ => True, fun _ _ => True, fun _ _ => True, fun vals wq => ∃ (b319 : Nat) (v400 : Value) (b423 : Nat), (vals 6 = (.int .i64 ((((fiv.take 3).length - yb 2 (fiv.take 3) ([] : List Ev)) : Nat) : Int) : Value)) ∧ (vals 13 = (.int .i64 ((((fiv.take 4).length - yb 2 (fiv.take 4) (fiv.take 3)) : Nat) : Int) : Value)) ∧ (vals 30 = ((.slice (some ⟨b319, 0, none⟩) 4 4) : Value)) ∧ (vals 31 = (.int .i64 ((([(fiv.getD 0 default), (fiv.getD 1 default), (fiv.getD 2 default), (fiv.getD 4 default)].length - yb 2 [(fiv.getD 0 default), (fiv.getD 1 default), (fiv.getD 2 default), (fiv.getD 4 default)] (fiv.take 4)) : Nat) : Int) : Value)) ∧ (vals 36 = (v400 : Value)) ∧ (vals 38 = ((.slice (some ⟨b423, 0, none⟩) 1 1) : Value)) ∧ Sep G48 w45 ((Blk b423 ((⟨0, 23, 4⟩ : Row).cells).toArray 44) :: pp3 :: (RowE (α := Row) own 44 v400 (yJ dC [(fiv.getD 0 default), (fiv.getD 1 default), (fiv.getD 2 default), (fiv.getD 4 default)] 0)) :: (RowE (α := Ev) (shr G48 w45) 64 (.slice (some ⟨b319, 0, none⟩) 4 4) [(fiv.getD 0 default), (fiv.getD 1 default), (fiv.getD 2 default), (fiv.getD 4 default)]) :: pp0 :: pp1 :: Rs) wq, fun _ _ => True, fun _ _ => True, fun _ _ => True, fun _ _ => True, fun _ _ => True, fun _ _ => True, fun _ _ => True, fun _ _ => True, fun _ _ => True, fun _ _ => True, fun _ _ => True, fun _ _ => True, fun _ _ => True, fun _ _ => True, fun _ _ => True, fun _ _ => True, fun _ _ => True, fun _ _ => True, fun _ _ => True, fun _ _ => True, fun _ _ => True, fun _ _ => True, fun _ _ => True, fun _ _ => True, fun _ _ => True, fun _ _ => True, fun _ _ => True, fun _ _ => True, fun _ _ => True, fun _ _ => True, fun _ _ => True, fun _ _ => True, fun _ _ => True, fun _ _ => True, fun _ _ => True, fun _ _ => True, fun _ _ => True, fun _ _ => True, fun _ _ => True, fun _ _ => True, fun _ _ => True, fun _ _ => True, fun _ _ => True, fun _ _ => True, fun _ _ => True, fun _ _ => True, fun _ _ => True, fun _ _ => True, fun _ _ => True, fun _ _ => True, fun _ _ => True, fun _ _ => True, fun _ _ => True, fun _ _ => True, fun _ _ => True, fun _ _ => True, fun _ _ => True, fun _ _ => True, fun _ _ => True, fun _ _ => True, fun _ _ => True, fun _ _ => True, fun _ _ => True, fun vals wq => ∃ (b319 : Nat) (v400 : Value) (b423 : Nat), (vals 6 = (.int .i64 ((((fiv.take 3).length - yb 2 (fiv.take 3) ([] : List Ev)) : Nat) : Int) : Value)) ∧ (vals 13 = (.int .i64 ((((fiv.take 4).length - yb 2 (fiv.take 4) (fiv.take 3)) : Nat) : Int) : Value)) ∧ (vals 30 = ((.slice (some ⟨b319, 0, none⟩) 4 4) : Value)) ∧ (vals 31 = (.int .i64 ((([(fiv.getD 0 default), (fiv.getD 1 default), (fiv.getD 2 default), (fiv.getD 4 default)].length - yb 2 [(fiv.getD 0 default), (fiv.getD 1 default), (fiv.getD 2 default), (fiv.getD 4 default)] (fiv.take 4)) : Nat) : Int) : Value)) ∧ (vals 36 = (v400 : Value)) ∧ (vals 38 = ((.slice (some ⟨b423, 0, none⟩) 1 1) : Value)) ∧ (vals 39 = (.bool (decide ((yJ dC [(fiv.getD 0 default), (fiv.getD 1 default), (fiv.getD 2 default), (fiv.getD 4 default)] 0) = [(⟨0, 23, 4⟩ : Row)])) : Value)) ∧ Sep G48 w45 ((RowE (α := Row) own 44 v400 (yJ dC [(fiv.getD 0 default), (fiv.getD 1 default), (fiv.getD 2 default), (fiv.getD 4 default)] 0)) :: (RowE (α := Row) own 44 (.slice (some ⟨b423, 0, none⟩) 1 1) [(⟨0, 23, 4⟩ : Row)]) :: pp3 :: (RowE (α := Ev) (shr G48 w45) 64 (.slice (some ⟨b319, 0, none⟩) 4 4) [(fiv.getD 0 default), (fiv.getD 1 default), (fiv.getD 2 default), (fiv.getD 4 default)]) :: pp0 :: pp1 :: Rs) wq]) (RowE (α := Fld) (shr G W) 88 (.slice (some ⟨bf2, 0, none⟩) 1 1) [(⟨1, 1, false, []⟩ : Fld)]) (RowE (α := Prj) own 46 (.slice (some ⟨bp3, 0, none⟩) 1 1) [(⟨0, 0, 1, 0, 2⟩ : Prj)]) (BaseO b34 dC 2 (fiv.take 4)) (BaseO b34 dC 2 [(fiv.getD 0 default), (fiv.getD 1 default), (fiv.getD 2 default), (fiv.getD 4 default)])) (AF [Vl 0 (.pointer (some ⟨b34, 0, none⟩)), Vl 1 (.bool false), Vl 2 (.bool false), Vl 3 (.pointer (some ⟨b34, 0, none⟩)), Vl 4 (v44), Vl 5 ((xh 10 v44 0 3)), fun _ => True, Vl 7 (.bool false), Vl 8 (.bool false), Vl 9 (.bool false), Vl 10 (.pointer (some ⟨b34, 0, none⟩)), Vl 11 (v44), Vl 12 ((xh 10 v44 0 4)), fun _ => True, Vl 14 (.bool false), Vl 15 (.bool false), Vl 16 (.bool false), Vl 17 (.pointer (some ⟨b34, 0, none⟩)), Vl 18 (v44), Vl 19 (.pointer (some ⟨sb v44, so v44 + 0 * 10, none⟩)), Vl 20 (.agg ((fiv.getD 0 default).cells (zC w45 (sb v44) (so v44 + 0 * 10 + 3))).toArray), Vl 21 (v44), Vl 22 (.pointer (some ⟨sb v44, so v44 + 1 * 10, none⟩)), Vl 23 (.agg ((fiv.getD 1 default).cells (zC w45 (sb v44) (so v44 + 1 * 10 + 3))).toArray), Vl 24 (v44), Vl 25 (.pointer (some ⟨sb v44, so v44 + 2 * 10, none⟩)), Vl 26 (.agg ((fiv.getD 2 default).cells (zC w45 (sb v44) (so v44 + 2 * 10 + 3))).toArray), Vl 27 (v44), Vl 28 (.pointer (some ⟨sb v44, so v44 + 4 * 10, none⟩)), Vl 29 (.agg ((fiv.getD 4 default).cells (zC w45 (sb v44) (so v44 + 4 * 10 + 3))).toArray), fun _ => True, fun _ => True, Vl 32 (.bool false), Vl 33 (.bool false), Vl 34 (.bool false), Vl 35 (.pointer (some ⟨b34, 0, none⟩)), fun _ => True, Vl 37 (.agg ((⟨0, 23, 4⟩ : Row).cells).toArray), fun _ => True, fun _ => True, Vl 40 (.bool false), Vl 41 (.bool false)]) [[], [0], [0, 1], [0, 1, 2], [0, 1, 2], [0, 1, 2, 4], [0, 1, 2, 3, 4, 5], [0, 1, 2, 3, 4, 5, 6], [0, 1, 2, 3, 4, 5, 6, 7], [0, 1, 2, 3, 4, 5, 6, 7, 8], [0, 1, 2, 3, 4, 5, 6, 7, 8, 9], [0, 1, 2, 3, 4, 5, 6, 7, 8, 9], [0, 1, 2, 3, 4, 5, 6, 7, 8, 9, 11], [0, 1, 2, 3, 4, 5, 6, 7, 8, 9, 10, 11, 12], [0, 1, 2, 3, 4, 5, 6, 7, 8, 9, 10, 11, 12, 13], [0, 1, 2, 3, 4, 5, 6, 7, 8, 9, 10, 11, 12, 13, 14], [0, 1, 2, 3, 4, 5, 6, 7, 8, 9, 10, 11, 12, 13, 14, 15], [0, 1, 2, 3, 4, 5, 6, 7, 8, 9, 10, 11, 12, 13, 14, 15, 16], [0, 1, 2, 3, 4, 5, 6, 7, 8, 9, 10, 11, 12, 13, 14, 15, 16], [0, 1, 2, 3, 4, 5, 6, 7, 8, 9, 10, 11, 12, 13, 14, 15, 16, 18], [0, 1, 2, 3, 4, 5, 6, 7, 8, 9, 10, 11, 12, 13, 14, 15, 16, 18, 19], [0, 1, 2, 3, 4, 5, 6, 7, 8, 9, 10, 11, 12, 13, 14, 15, 16], [0, 1, 2, 3, 4, 5, 6, 7, 8, 9, 10, 11, 12, 13, 14, 15, 16, 21], [0, 1, 2, 3, 4, 5, 6, 7, 8, 9, 10, 11, 12, 13, 14, 15, 16, 21, 22], [0, 1, 2, 3, 4, 5, 6, 7, 8, 9, 10, 11, 12, 13, 14, 15, 16], [0, 1, 2, 3, 4, 5, 6, 7, 8, 9, 10, 11, 12, 13, 14, 15, 16, 24], [0, 1, 2, 3, 4, 5, 6, 7, 8, 9, 10, 11, 12, 13, 14, 15, 16, 24, 25], [0, 1, 2, 3, 4, 5, 6, 7, 8, 9, 10, 11, 12, 13, 14, 15, 16], [0, 1, 2, 3, 4, 5, 6, 7, 8, 9, 10, 11, 12, 13, 14, 15, 16, 27], [0, 1, 2, 3, 4, 5, 6, 7, 8, 9, 10, 11, 12, 13, 14, 15, 16, 27, 28], [0, 1, 2, 3, 4, 5, 6, 7, 8, 9, 10, 11, 12, 13, 14, 15, 16, 18, 19, 20, 21, 22, 23, 24, 25, 26, 27, 28, 29], [0, 1, 2, 3, 4, 5, 6, 7, 8, 9, 10, 11, 12, 13, 14, 15, 16, 17, 18, 19, 20, 21, 22, 23, 24, 25, 26, 27, 28, 29, 30], [0, 1, 2, 3, 4, 5, 6, 7, 8, 9, 10, 11, 12, 13, 14, 15, 16, 17, 18, 19, 20, 21, 22, 23, 24, 25, 26, 27, 28, 29, 30, 31], [0, 1, 2, 3, 4, 5, 6, 7, 8, 9, 10, 11, 12, 13, 14, 15, 16, 17, 18, 19, 20, 21, 22, 23, 24, 25, 26, 27, 28, 29, 30, 31, 32], [0, 1, 2, 3, 4, 5, 6, 7, 8, 9, 10, 11, 12, 13, 14, 15, 16, 17, 18, 19, 20, 21, 22, 23, 24, 25, 26, 27, 28, 29, 30, 31, 32, 33], [0, 1, 2, 3, 4, 5, 6, 7, 8, 9, 10, 11, 12, 13, 14, 15, 16, 17, 18, 19, 20, 21, 22, 23, 24, 25, 26, 27, 28, 29, 30, 31, 32, 33, 34], [0, 1, 2, 3, 4, 5, 6, 7, 8, 9, 10, 11, 12, 13, 14, 15, 16, 17, 18, 19, 20, 21, 22, 23, 24, 25, 26, 27, 28, 29, 30, 31, 32, 33, 34, 35], [0, 1, 2, 3, 4, 5, 6, 7, 8, 9, 10, 11, 12, 13, 14, 15, 16, 17, 18, 19, 20, 21, 22, 23, 24, 25, 26, 27, 28, 29, 30, 31, 32, 33, 34], [0, 1, 2, 3, 4, 5, 6, 7, 8, 9, 10, 11, 12, 13, 14, 15, 16, 17, 18, 19, 20, 21, 22, 23, 24, 25, 26, 27, 28, 29, 30, 31, 32, 33, 34, 37], [0, 1, 2, 3, 4, 5, 6, 7, 8, 9, 10, 11, 12, 13, 14, 15, 16, 17, 18, 19, 20, 21, 22, 23, 24, 25, 26, 27, 28, 29, 30, 31, 32, 33, 34, 35, 36, 37, 38], [0, 1, 2, 3, 4, 5, 6, 7, 8, 9, 10, 11, 12, 13, 14, 15, 16, 17, 18, 19, 20, 21, 22, 23, 24, 25, 26, 27, 28, 29, 30, 31, 32, 33, 34, 35, 36, 37, 38, 39], [0, 1, 2, 3, 4, 5, 6, 7, 8, 9, 10, 11, 12, 13, 14, 15, 16, 17, 18, 19, 20, 21, 22, 23, 24, 25, 26, 27, 28, 29, 30, 31, 32, 33, 34, 35, 36, 37, 38, 39, 40]] [6, 13, 30, 31, 36, 38, 39] [[0], [0], [0], [0], [0], [0], [0], [1], [1], [1], [1], [1], [1], [1], [3], [3], [3], [3, 7], [3], [3], [3], [3], [3], [3], [3], [3], [3], [3], [3], [3], [3], [7], [15], [15], [15], [15, 47], [15, 47], [15, 31], [15, 31], [63], [127], [127]] (by kernel_rfl) (by kernel_rfl) (by kernel_rfl) rfl (by kernel_rfl) (by kernel_rfl) (by decide) (fun _ h1 h2 h3 h4 _ => hS52.same h1 h2 h3 h4) ?_ (xt ⟨dA, dA, dA, dA, dA, dA, dT, dA, dA, dA, dA, dA, dA, dT, dA, dA, dA, dA, dA, dA, dA, dA, dA, dA, dA, dA, dA, dA, dA, dA, dT, dT, dA, dA, dA, dA, dT, dA, dT, dT, dA, dA, trivial⟩) ⟨?_, ?_, ?_, ?_, ?_, ?_, ?_, ?_, ?_, ?_, ?_, ?_, ?_, ?_, ?_, ?_, ?_, ?_, ?_, ?_, ?_, ?_, ?_, ?_, ?_, ?_, ?_, ?_, ?_, ?_, ?_, ?_, ?_, ?_, ?_, ?_, ?_, ?_, ?_, ?_, ?_, ?_, trivial⟩ ?_
 ·intro k vals vals' w hv h
  have e : ∀ j ∈ ([6, 13, 30, 31, 36, 38, 39] : List Nat), vals' j = vals j := hv
  match k, h with
  | 0, h => exact h
  | 1, h => exact (by simpa only [WF, List.getElem?_cons_zero, List.getElem?_cons_succ, e 6 (by decide)] using h)
  | 2, h => exact h
  | 3, h => exact (by simpa only [WF, List.getElem?_cons_zero, List.getElem?_cons_succ, e 6 (by decide), e 13 (by decide)] using h)
  | 4, h => exact h
  | 5, h => exact h
  | 6, h => exact h
  | 7, h => exact (by simpa only [WF, List.getElem?_cons_zero, List.getElem?_cons_succ, e 6 (by decide), e 13 (by decide), e 30 (by decide)] using h)
  | 8, h => exact h
  | 9, h => exact h
  | 10, h => exact h
  | 11, h => exact h
  | 12, h => exact h
  | 13, h => exact h
  | 14, h => exact h
  | 15, h => exact (by simpa only [WF, List.getElem?_cons_zero, List.getElem?_cons_succ, e 6 (by decide), e 13 (by decide), e 30 (by decide), e 31 (by decide)] using h)
  | 16, h => exact h
  | 17, h => exact h
  | 18, h => exact h
  | 19, h => exact h
  | 20, h => exact h
  | 21, h => exact h
  | 22, h => exact h
  | 23, h => exact h
  | 24, h => exact h
  | 25, h => exact h
  | 26, h => exact h
  | 27, h => exact h
  | 28, h => exact h
  | 29, h => exact h
  | 30, h => exact h
  | 31, h => exact (by simpa only [WF, List.getElem?_cons_zero, List.getElem?_cons_succ, e 6 (by decide), e 13 (by decide), e 30 (by decide), e 31 (by decide), e 36 (by decide)] using h)
  | 32, h => exact h
  | 33, h => exact h
  | 34, h => exact h
  | 35, h => exact h
  | 36, h => exact h
  | 37, h => exact h
  | 38, h => exact h
  | 39, h => exact h
  | 40, h => exact h
  | 41, h => exact h
  | 42, h => exact h
  | 43, h => exact h
  | 44, h => exact h
  | 45, h => exact h
  | 46, h => exact h
  | 47, h => exact (by simpa only [WF, List.getElem?_cons_zero, List.getElem?_cons_succ, e 6 (by decide), e 13 (by decide), e 30 (by decide), e 31 (by decide), e 38 (by decide)] using h)
  | 48, h => exact h
  | 49, h => exact h
  | 50, h => exact h
  | 51, h => exact h
  | 52, h => exact h
  | 53, h => exact h
  | 54, h => exact h
  | 55, h => exact h
  | 56, h => exact h
  | 57, h => exact h
  | 58, h => exact h
  | 59, h => exact h
  | 60, h => exact h
  | 61, h => exact h
  | 62, h => exact h
  | 63, h => exact (by simpa only [WF, List.getElem?_cons_zero, List.getElem?_cons_succ, e 6 (by decide), e 13 (by decide), e 30 (by decide), e 31 (by decide), e 36 (by decide), e 38 (by decide)] using h)
  | 64, h => exact h
  | 65, h => exact h
  | 66, h => exact h
  | 67, h => exact h
  | 68, h => exact h
  | 69, h => exact h
  | 70, h => exact h
  | 71, h => exact h
  | 72, h => exact h
  | 73, h => exact h
  | 74, h => exact h
  | 75, h => exact h
  | 76, h => exact h
  | 77, h => exact h
  | 78, h => exact h
  | 79, h => exact h
  | 80, h => exact h
  | 81, h => exact h
  | 82, h => exact h
  | 83, h => exact h
  | 84, h => exact h
  | 85, h => exact h
  | 86, h => exact h
  | 87, h => exact h
  | 88, h => exact h
  | 89, h => exact h
  | 90, h => exact h
  | 91, h => exact h
  | 92, h => exact h
  | 93, h => exact h
  | 94, h => exact h
  | 95, h => exact h
  | 96, h => exact h
  | 97, h => exact h
  | 98, h => exact h
  | 99, h => exact h
  | 100, h => exact h
  | 101, h => exact h
  | 102, h => exact h
  | 103, h => exact h
  | 104, h => exact h
  | 105, h => exact h
  | 106, h => exact h
  | 107, h => exact h
  | 108, h => exact h
  | 109, h => exact h
  | 110, h => exact h
  | 111, h => exact h
  | 112, h => exact h
  | 113, h => exact h
  | 114, h => exact h
  | 115, h => exact h
  | 116, h => exact h
  | 117, h => exact h
  | 118, h => exact h
  | 119, h => exact h
  | 120, h => exact h
  | 121, h => exact h
  | 122, h => exact h
  | 123, h => exact h
  | 124, h => exact h
  | 125, h => exact h
  | 126, h => exact h
  | 127, h => exact (by simpa only [WF, List.getElem?_cons_zero, List.getElem?_cons_succ, e 6 (by decide), e 13 (by decide), e 30 (by decide), e 31 (by decide), e 36 (by decide), e 38 (by decide), e 39 (by decide)] using h)
  | _ + 128, _ => trivial
 ·intro k480 vals w481 hk484 hW483 hA482
  refine obl rfl ?_
  exact zq (v := .pointer (some ⟨b34, 0, none⟩)) rfl (fun vals' hv _ => ⟨rfl, hv⟩)
 ·intro k485 vals w486 hk489 hW488 hA487
  have hk4892 : k485 ∈ [0] := hk489
  simp only [List.mem_cons, List.not_mem_nil, or_false] at hk4892
  subst hk4892
  have hS490 : Sep _ _ _ _ := hW488
  have e491 := hA487 0 (by decide)
  refine obl rfl ?_
  exact We (b := b34) (o := 0) oR e491 (fun vals' hv _ => ⟨rfl, hv⟩)
 ·intro k492 vals w493 hk496 hW495 hA494
  have e497 := hA494 1 (by decide)
  refine obl rfl ?_
  exact zq (v := .bool false) e497 (fun vals' hv _ => ⟨rfl, hv⟩)
 ·intro k498 vals w499 hk502 hW501 hA500
  have e503 := hA500 2 (by decide)
  refine zz rfl rfl e503 (fun _ => ?_) (fun hb => absurd rfl hb)
  exact zq (v := .pointer (some ⟨b34, 0, none⟩)) rfl (fun vals' hv _ => ⟨rfl, hv⟩)
 ·intro k504 vals w505 hk508 hW507 hA506
  have e509 := hA506 2 (by decide)
  refine zz rfl rfl e509 (fun _ => ?_) (fun hb => absurd rfl hb)
  exact zq (v := v44) rfl (fun vals' hv _ => ⟨rfl, hv⟩)
 ·intro k510 vals w511 hk514 hW513 hA512
  have hk5142 : k510 ∈ [0] := hk514
  simp only [List.mem_cons, List.not_mem_nil, or_false] at hk5142
  subst hk5142
  have hS515 : Sep _ _ _ _ := hW513
  have e516 := hA512 2 (by decide)
  have e517 := hA512 4 (by decide)
  refine zz rfl rfl e516 (fun _ => ?_) (fun hb => absurd rfl hb)
  exact Zc (j := 3) (k := 10) (n := fiv.length) oT nT e517 hrd54.sl rfl (by first | omega | (simp only [Zx]; omega)) (fun vals' hv _ => ⟨rfl, hv⟩)
 ·intro k518 vals w519 hk522 hW521 hA520
  have hk5222 : k518 ∈ [0] := hk522
  simp only [List.mem_cons, List.not_mem_nil, or_false] at hk5222
  subst hk5222
  have hS523 : Sep _ _ _ _ := hW521
  have e524 := hA520 2 (by decide)
  have e525 := hA520 3 (by decide)
  have e526 := hA520 5 (by decide)
  refine zz rfl rfl e524 (fun _ => ?_) (fun hb => absurd rfl hb)
  have e527 := hA520 2 (by decide)
  have e528 := hA520 3 (by decide)
  have e529 := hA520 5 (by decide)
  have h530 := RdS.sub_hi (j := 3) hrd54 (by first | omega | (simp only [List.length_drop, List.length_take]; omega))
  have h530s : _ * 96 ≤ _ := h530.small
  have hS531 := hS523.mv2
  refine (zL (f := 13) (vals := [.pointer (some ⟨b34, 0, none⟩), (xh 10 v44 0 3)]) (cap := []) rfl (yN ⟨e528, e529, trivial⟩) qT (xL (l := fiv.take 3) (vl := (xh 10 v44 0 3)) h530 (RdS.base hKN hB51) hS531 (Xj) (YH) ((by decide +kernel)) ((by decide +kernel)) ((by decide +kernel))) ?_)
  rintro _ w532 ⟨rfl, hS533⟩
  intro vals' hv hv'
  refine ⟨?_, trivial⟩
  show (vals' 6 = (.int .i64 ((((fiv.take 3).length - yb 2 (fiv.take 3) ([] : List Ev)) : Nat) : Int) : Value)) ∧ Sep G48 w45 ((BaseO b34 dC 2 (fiv.take 3)) :: (RowE (α := Fld) (shr G W) 88 (.slice (some ⟨bf2, 0, none⟩) 1 1) [(⟨1, 1, false, []⟩ : Fld)]) :: (RowE (α := Prj) own 46 (.slice (some ⟨bp3, 0, none⟩) 1 1) [(⟨0, 0, 1, 0, 2⟩ : Prj)]) :: Rs) w532
  exact ⟨hv, hS533⟩
 ·intro k534 vals w535 hk538 hW537 hA536
  have hk5382 : k534 ∈ [1] := hk538
  simp only [List.mem_cons, List.not_mem_nil, or_false] at hk5382
  subst hk5382
  obtain ⟨he109, hS539⟩ := hW537
  have e540 := hA536 2 (by decide)
  refine zz rfl rfl e540 (fun _ => ?_) (fun hb => absurd rfl hb)
  have hl541 : (!decide (((((fiv.take 3).length - yb 2 (fiv.take 3) ([] : List Ev)) : Nat) : Int) = 3)) = false := by decide +kernel
  exact yw (k := .i64) (a := ((((fiv.take 3).length - yb 2 (fiv.take 3) ([] : List Ev)) : Nat) : Int)) (b := 3) he109 rfl (fun vals' hv _ => ⟨rfl, hv.trans (congrArg Value.bool hl541)⟩)
 ·intro k542 vals w543 hk546 hW545 hA544
  have e547 := hA544 2 (by decide)
  have e548 := hA544 7 (by decide)
  refine obl rfl ?_
  exact yd (v := .bool false) e547 e548 (fun vals' hv _ => ⟨rfl, hv⟩)
 ·intro k549 vals w550 hk553 hW552 hA551
  have e554 := hA551 8 (by decide)
  refine obl rfl ?_
  exact zq (v := .bool false) e554 (fun vals' hv _ => ⟨rfl, hv⟩)
 ·intro k555 vals w556 hk559 hW558 hA557
  have e560 := hA557 9 (by decide)
  refine zz rfl rfl e560 (fun _ => ?_) (fun hb => absurd rfl hb)
  exact zq (v := .pointer (some ⟨b34, 0, none⟩)) rfl (fun vals' hv _ => ⟨rfl, hv⟩)
 ·intro k561 vals w562 hk565 hW564 hA563
  have e566 := hA563 9 (by decide)
  refine zz rfl rfl e566 (fun _ => ?_) (fun hb => absurd rfl hb)
  exact zq (v := v44) rfl (fun vals' hv _ => ⟨rfl, hv⟩)
 ·intro k567 vals w568 hk571 hW570 hA569
  have hk5712 : k567 ∈ [1] := hk571
  simp only [List.mem_cons, List.not_mem_nil, or_false] at hk5712
  subst hk5712
  obtain ⟨he109, hS572⟩ := hW570
  have e573 := hA569 9 (by decide)
  have e574 := hA569 11 (by decide)
  refine zz rfl rfl e573 (fun _ => ?_) (fun hb => absurd rfl hb)
  exact Zc (j := 4) (k := 10) (n := fiv.length) oT nT e574 hrd54.sl rfl (by first | omega | (simp only [Zx]; omega)) (fun vals' hv _ => ⟨rfl, hv⟩)
 ·intro k575 vals w576 hk579 hW578 hA577
  have hk5792 : k575 ∈ [1] := hk579
  simp only [List.mem_cons, List.not_mem_nil, or_false] at hk5792
  subst hk5792
  obtain ⟨he109, hS580⟩ := hW578
  have e581 := hA577 9 (by decide)
  have e582 := hA577 10 (by decide)
  have e583 := hA577 12 (by decide)
  refine zz rfl rfl e581 (fun _ => ?_) (fun hb => absurd rfl hb)
  have e584 := hA577 9 (by decide)
  have e585 := hA577 10 (by decide)
  have e586 := hA577 12 (by decide)
  have h587 := RdS.sub_hi (j := 4) hrd54 (by first | omega | (simp only [List.length_drop, List.length_take]; omega))
  have h587s : _ * 96 ≤ _ := h587.small
  refine (zL (f := 13) (vals := [.pointer (some ⟨b34, 0, none⟩), (xh 10 v44 0 4)]) (cap := []) rfl (yN ⟨e585, e586, trivial⟩) qT (xL (l := fiv.take 4) (vl := (xh 10 v44 0 4)) h587 (RdS.base hKN hB51) hS580 (Xj) (YH) ((by decide +kernel)) ((by decide +kernel)) ((by decide +kernel))) ?_)
  rintro _ w588 ⟨rfl, hS589⟩
  intro vals' hv hv'
  refine ⟨?_, trivial⟩
  show (vals' 6 = (.int .i64 ((((fiv.take 3).length - yb 2 (fiv.take 3) ([] : List Ev)) : Nat) : Int) : Value)) ∧ (vals' 13 = (.int .i64 ((((fiv.take 4).length - yb 2 (fiv.take 4) (fiv.take 3)) : Nat) : Int) : Value)) ∧ Sep G48 w45 ((BaseO b34 dC 2 (fiv.take 4)) :: (RowE (α := Fld) (shr G W) 88 (.slice (some ⟨bf2, 0, none⟩) 1 1) [(⟨1, 1, false, []⟩ : Fld)]) :: (RowE (α := Prj) own 46 (.slice (some ⟨bp3, 0, none⟩) 1 1) [(⟨0, 0, 1, 0, 2⟩ : Prj)]) :: Rs) w588
  exact ⟨(by rw [hv' 6 (by decide)]; exact he109), hv, hS589⟩
 ·intro k590 vals w591 hk594 hW593 hA592
  have hk5942 : k590 ∈ [3] := hk594
  simp only [List.mem_cons, List.not_mem_nil, or_false] at hk5942
  subst hk5942
  obtain ⟨he109, he166, hS595⟩ := hW593
  have e596 := hA592 9 (by decide)
  refine zz rfl rfl e596 (fun _ => ?_) (fun hb => absurd rfl hb)
  have hl597 : (!decide (((((fiv.take 4).length - yb 2 (fiv.take 4) (fiv.take 3)) : Nat) : Int) = 1)) = false := by decide +kernel
  exact yw (k := .i64) (a := ((((fiv.take 4).length - yb 2 (fiv.take 4) (fiv.take 3)) : Nat) : Int)) (b := 1) he166 rfl (fun vals' hv _ => ⟨rfl, hv.trans (congrArg Value.bool hl597)⟩)
 ·intro k598 vals w599 hk602 hW601 hA600
  have e603 := hA600 9 (by decide)
  have e604 := hA600 14 (by decide)
  refine obl rfl ?_
  exact yd (v := .bool false) e603 e604 (fun vals' hv _ => ⟨rfl, hv⟩)
 ·intro k605 vals w606 hk609 hW608 hA607
  have e610 := hA607 15 (by decide)
  refine obl rfl ?_
  exact zq (v := .bool false) e610 (fun vals' hv _ => ⟨rfl, hv⟩)
 ·intro k611 vals w612 hk615 hW614 hA613
  have e616 := hA613 16 (by decide)
  refine zz rfl rfl e616 (fun _ => ?_) (fun hb => absurd rfl hb)
  exact zq (v := .pointer (some ⟨b34, 0, none⟩)) rfl (fun vals' hv _ => ⟨rfl, hv⟩)
 ·intro k617 vals w618 hk621 hW620 hA619
  have e622 := hA619 16 (by decide)
  refine zz rfl rfl e622 (fun _ => ?_) (fun hb => absurd rfl hb)
  exact zq (v := v44) rfl (fun vals' hv _ => ⟨rfl, hv⟩)
 ·intro k623 vals w624 hk627 hW626 hA625
  have hk6272 : k623 ∈ [3] := hk627
  simp only [List.mem_cons, List.not_mem_nil, or_false] at hk6272
  subst hk6272
  obtain ⟨he109, he166, hS628⟩ := hW626
  have e629 := hA625 16 (by decide)
  have e630 := hA625 18 (by decide)
  refine zz rfl rfl e629 (fun _ => ?_) (fun hb => absurd rfl hb)
  have hi631 : 0 < fiv.length := (by first | omega | (simp only [Zx]; omega))
  exact ze (k := 10) (i := 0) oT nT e630 hrd54.sl rfl hi631 (fun vals' hv _ => ⟨rfl, hv⟩)
 ·intro k632 vals w633 hk636 hW635 hA634
  have hk6362 : k632 ∈ [3] := hk636
  simp only [List.mem_cons, List.not_mem_nil, or_false] at hk6362
  subst hk6362
  obtain ⟨he109, he166, hS637⟩ := hW635
  have e638 := hA634 16 (by decide)
  have e639 := hA634 19 (by decide)
  refine zz rfl rfl e638 (fun _ => ?_) (fun hb => absurd rfl hb)
  have hi641 : 0 < fiv.length := (by first | omega | (simp only [Zx]; omega))
  obtain ⟨hce640, hde640_0, hoke640⟩ := hrd54.ev hi641
  rw [← zw default hi641] at hce640 hde640_0 hoke640
  have hsm642 : ((fiv.getD 0 default).deps).length * 8 ≤ 140737488355328 := hde640_0.small
  have hcw643 := hS637.cells hce640 (hrd54.foot (ne_of_lt hi641))
  exact zg (k := 10) sT nT rfl e639 hcw643 (fun vals' hv _ => ⟨rfl, hv⟩)
 ·intro k644 vals w645 hk648 hW647 hA646
  have e649 := hA646 16 (by decide)
  refine zz rfl rfl e649 (fun _ => ?_) (fun hb => absurd rfl hb)
  exact zq (v := v44) rfl (fun vals' hv _ => ⟨rfl, hv⟩)
 ·intro k650 vals w651 hk654 hW653 hA652
  have hk6542 : k650 ∈ [3] := hk654
  simp only [List.mem_cons, List.not_mem_nil, or_false] at hk6542
  subst hk6542
  obtain ⟨he109, he166, hS655⟩ := hW653
  have e656 := hA652 16 (by decide)
  have e657 := hA652 21 (by decide)
  refine zz rfl rfl e656 (fun _ => ?_) (fun hb => absurd rfl hb)
  have hi658 : 1 < fiv.length := (by first | omega | (simp only [Zx]; omega))
  exact ze (k := 10) (i := 1) oT nT e657 hrd54.sl rfl hi658 (fun vals' hv _ => ⟨rfl, hv⟩)
 ·intro k659 vals w660 hk663 hW662 hA661
  have hk6632 : k659 ∈ [3] := hk663
  simp only [List.mem_cons, List.not_mem_nil, or_false] at hk6632
  subst hk6632
  obtain ⟨he109, he166, hS664⟩ := hW662
  have e665 := hA661 16 (by decide)
  have e666 := hA661 22 (by decide)
  refine zz rfl rfl e665 (fun _ => ?_) (fun hb => absurd rfl hb)
  have hi668 : 1 < fiv.length := (by first | omega | (simp only [Zx]; omega))
  obtain ⟨hce667, hde667_0, hoke667⟩ := hrd54.ev hi668
  rw [← zw default hi668] at hce667 hde667_0 hoke667
  have hsm669 : ((fiv.getD 1 default).deps).length * 8 ≤ 140737488355328 := hde667_0.small
  have hcw670 := hS664.cells hce667 (hrd54.foot (ne_of_lt hi668))
  exact zg (k := 10) sT nT rfl e666 hcw670 (fun vals' hv _ => ⟨rfl, hv⟩)
 ·intro k671 vals w672 hk675 hW674 hA673
  have e676 := hA673 16 (by decide)
  refine zz rfl rfl e676 (fun _ => ?_) (fun hb => absurd rfl hb)
  exact zq (v := v44) rfl (fun vals' hv _ => ⟨rfl, hv⟩)
 ·intro k677 vals w678 hk681 hW680 hA679
  have hk6812 : k677 ∈ [3] := hk681
  simp only [List.mem_cons, List.not_mem_nil, or_false] at hk6812
  subst hk6812
  obtain ⟨he109, he166, hS682⟩ := hW680
  have e683 := hA679 16 (by decide)
  have e684 := hA679 24 (by decide)
  refine zz rfl rfl e683 (fun _ => ?_) (fun hb => absurd rfl hb)
  have hi685 : 2 < fiv.length := (by first | omega | (simp only [Zx]; omega))
  exact ze (k := 10) (i := 2) oT nT e684 hrd54.sl rfl hi685 (fun vals' hv _ => ⟨rfl, hv⟩)
 ·intro k686 vals w687 hk690 hW689 hA688
  have hk6902 : k686 ∈ [3] := hk690
  simp only [List.mem_cons, List.not_mem_nil, or_false] at hk6902
  subst hk6902
  obtain ⟨he109, he166, hS691⟩ := hW689
  have e692 := hA688 16 (by decide)
  have e693 := hA688 25 (by decide)
  refine zz rfl rfl e692 (fun _ => ?_) (fun hb => absurd rfl hb)
  have hi695 : 2 < fiv.length := (by first | omega | (simp only [Zx]; omega))
  obtain ⟨hce694, hde694_0, hoke694⟩ := hrd54.ev hi695
  rw [← zw default hi695] at hce694 hde694_0 hoke694
  have hsm696 : ((fiv.getD 2 default).deps).length * 8 ≤ 140737488355328 := hde694_0.small
  have hcw697 := hS691.cells hce694 (hrd54.foot (ne_of_lt hi695))
  exact zg (k := 10) sT nT rfl e693 hcw697 (fun vals' hv _ => ⟨rfl, hv⟩)
 ·intro k698 vals w699 hk702 hW701 hA700
  have e703 := hA700 16 (by decide)
  refine zz rfl rfl e703 (fun _ => ?_) (fun hb => absurd rfl hb)
  exact zq (v := v44) rfl (fun vals' hv _ => ⟨rfl, hv⟩)
 ·intro k704 vals w705 hk708 hW707 hA706
  have hk7082 : k704 ∈ [3] := hk708
  simp only [List.mem_cons, List.not_mem_nil, or_false] at hk7082
  subst hk7082
  obtain ⟨he109, he166, hS709⟩ := hW707
  have e710 := hA706 16 (by decide)
  have e711 := hA706 27 (by decide)
  refine zz rfl rfl e710 (fun _ => ?_) (fun hb => absurd rfl hb)
  have hi712 : 4 < fiv.length := (by first | omega | (simp only [Zx]; omega))
  exact ze (k := 10) (i := 4) oT nT e711 hrd54.sl rfl hi712 (fun vals' hv _ => ⟨rfl, hv⟩)
 ·intro k713 vals w714 hk717 hW716 hA715
  have hk7172 : k713 ∈ [3] := hk717
  simp only [List.mem_cons, List.not_mem_nil, or_false] at hk7172
  subst hk7172
  obtain ⟨he109, he166, hS718⟩ := hW716
  have e719 := hA715 16 (by decide)
  have e720 := hA715 28 (by decide)
  refine zz rfl rfl e719 (fun _ => ?_) (fun hb => absurd rfl hb)
  have hi722 : 4 < fiv.length := (by first | omega | (simp only [Zx]; omega))
  obtain ⟨hce721, hde721_0, hoke721⟩ := hrd54.ev hi722
  rw [← zw default hi722] at hce721 hde721_0 hoke721
  have hsm723 : ((fiv.getD 4 default).deps).length * 8 ≤ 140737488355328 := hde721_0.small
  have hcw724 := hS718.cells hce721 (hrd54.foot (ne_of_lt hi722))
  exact zg (k := 10) sT nT rfl e720 hcw724 (fun vals' hv _ => ⟨rfl, hv⟩)
 ·intro k725 vals w726 hk729 hW728 hA727
  have hk7292 : k725 ∈ [3] := hk729
  simp only [List.mem_cons, List.not_mem_nil, or_false] at hk7292
  subst hk7292
  obtain ⟨he109, he166, hS730⟩ := hW728
  have e731 := hA727 16 (by decide)
  have e732 := hA727 20 (by decide)
  have e733 := hA727 23 (by decide)
  have e734 := hA727 26 (by decide)
  have e735 := hA727 29 (by decide)
  refine zz rfl rfl e731 (fun _ => ?_) (fun hb => absurd rfl hb)
  have e736 := hA727 16 (by decide)
  have e737 := hA727 20 (by decide)
  have e738 := hA727 23 (by decide)
  have e739 := hA727 26 (by decide)
  have e740 := hA727 29 (by decide)
  refine (zD (k := 10) (parts' := [(0, .agg ((fiv.getD 0 default).cells (zC w45 (sb v44) (so v44 + 0 * 10 + 3))).toArray), (1, .agg ((fiv.getD 1 default).cells (zC w45 (sb v44) (so v44 + 1 * 10 + 3))).toArray), (2, .agg ((fiv.getD 2 default).cells (zC w45 (sb v44) (so v44 + 2 * 10 + 3))).toArray), (3, .agg ((fiv.getD 4 default).cells (zC w45 (sb v44) (so v44 + 4 * 10 + 3))).toArray)]) (c := #[.int .i64 ((fiv.getD 0 default).origin), .int .i64 ((fiv.getD 0 default).seq), .int .i64 ((fiv.getD 0 default).lam), (zC w45 (sb v44) (so v44 + 0 * 10 + 3)), .int .i64 ((fiv.getD 0 default).typ), .int .i64 ((fiv.getD 0 default).agg), .int .i64 ((fiv.getD 0 default).field), .int .i64 ((fiv.getD 0 default).op), .int .i64 ((fiv.getD 0 default).arg), .int .i64 ((fiv.getD 0 default).key), .int .i64 ((fiv.getD 1 default).origin), .int .i64 ((fiv.getD 1 default).seq), .int .i64 ((fiv.getD 1 default).lam), (zC w45 (sb v44) (so v44 + 1 * 10 + 3)), .int .i64 ((fiv.getD 1 default).typ), .int .i64 ((fiv.getD 1 default).agg), .int .i64 ((fiv.getD 1 default).field), .int .i64 ((fiv.getD 1 default).op), .int .i64 ((fiv.getD 1 default).arg), .int .i64 ((fiv.getD 1 default).key), .int .i64 ((fiv.getD 2 default).origin), .int .i64 ((fiv.getD 2 default).seq), .int .i64 ((fiv.getD 2 default).lam), (zC w45 (sb v44) (so v44 + 2 * 10 + 3)), .int .i64 ((fiv.getD 2 default).typ), .int .i64 ((fiv.getD 2 default).agg), .int .i64 ((fiv.getD 2 default).field), .int .i64 ((fiv.getD 2 default).op), .int .i64 ((fiv.getD 2 default).arg), .int .i64 ((fiv.getD 2 default).key), .int .i64 ((fiv.getD 4 default).origin), .int .i64 ((fiv.getD 4 default).seq), .int .i64 ((fiv.getD 4 default).lam), (zC w45 (sb v44) (so v44 + 4 * 10 + 3)), .int .i64 ((fiv.getD 4 default).typ), .int .i64 ((fiv.getD 4 default).agg), .int .i64 ((fiv.getD 4 default).field), .int .i64 ((fiv.getD 4 default).op), .int .i64 ((fiv.getD 4 default).arg), .int .i64 ((fiv.getD 4 default).key)]) oT nT pR (by decide) (xH ⟨rfl, e737, rfl, e738, rfl, e739, rfl, e740, trivial⟩) (by kernel_rfl) ?_)
  intro w743 b319 hn741
  have hS744 := hS730.new hn741
  intro vals' hv hv'
  refine ⟨?_, trivial⟩
  show ∃ (b319 : Nat), (vals' 6 = (.int .i64 ((((fiv.take 3).length - yb 2 (fiv.take 3) ([] : List Ev)) : Nat) : Int) : Value)) ∧ (vals' 13 = (.int .i64 ((((fiv.take 4).length - yb 2 (fiv.take 4) (fiv.take 3)) : Nat) : Int) : Value)) ∧ (vals' 30 = ((.slice (some ⟨b319, 0, none⟩) 4 4) : Value)) ∧ Sep G48 w45 ((Blk b319 #[.int .i64 ((fiv.getD 0 default).origin), .int .i64 ((fiv.getD 0 default).seq), .int .i64 ((fiv.getD 0 default).lam), (zC w45 (sb v44) (so v44 + 0 * 10 + 3)), .int .i64 ((fiv.getD 0 default).typ), .int .i64 ((fiv.getD 0 default).agg), .int .i64 ((fiv.getD 0 default).field), .int .i64 ((fiv.getD 0 default).op), .int .i64 ((fiv.getD 0 default).arg), .int .i64 ((fiv.getD 0 default).key), .int .i64 ((fiv.getD 1 default).origin), .int .i64 ((fiv.getD 1 default).seq), .int .i64 ((fiv.getD 1 default).lam), (zC w45 (sb v44) (so v44 + 1 * 10 + 3)), .int .i64 ((fiv.getD 1 default).typ), .int .i64 ((fiv.getD 1 default).agg), .int .i64 ((fiv.getD 1 default).field), .int .i64 ((fiv.getD 1 default).op), .int .i64 ((fiv.getD 1 default).arg), .int .i64 ((fiv.getD 1 default).key), .int .i64 ((fiv.getD 2 default).origin), .int .i64 ((fiv.getD 2 default).seq), .int .i64 ((fiv.getD 2 default).lam), (zC w45 (sb v44) (so v44 + 2 * 10 + 3)), .int .i64 ((fiv.getD 2 default).typ), .int .i64 ((fiv.getD 2 default).agg), .int .i64 ((fiv.getD 2 default).field), .int .i64 ((fiv.getD 2 default).op), .int .i64 ((fiv.getD 2 default).arg), .int .i64 ((fiv.getD 2 default).key), .int .i64 ((fiv.getD 4 default).origin), .int .i64 ((fiv.getD 4 default).seq), .int .i64 ((fiv.getD 4 default).lam), (zC w45 (sb v44) (so v44 + 4 * 10 + 3)), .int .i64 ((fiv.getD 4 default).typ), .int .i64 ((fiv.getD 4 default).agg), .int .i64 ((fiv.getD 4 default).field), .int .i64 ((fiv.getD 4 default).op), .int .i64 ((fiv.getD 4 default).arg), .int .i64 ((fiv.getD 4 default).key)] 64) :: (BaseO b34 dC 2 (fiv.take 4)) :: (RowE (α := Fld) (shr G W) 88 (.slice (some ⟨bf2, 0, none⟩) 1 1) [(⟨1, 1, false, []⟩ : Fld)]) :: (RowE (α := Prj) own 46 (.slice (some ⟨bp3, 0, none⟩) 1 1) [(⟨0, 0, 1, 0, 2⟩ : Prj)]) :: Rs) w743
  exact ⟨b319, (by rw [hv' 6 (by decide)]; exact he109), (by rw [hv' 13 (by decide)]; exact he166), hv, hS744⟩
 ·intro k745 vals w746 hk749 hW748 hA747
  have hk7492 : k745 ∈ [7] := hk749
  simp only [List.mem_cons, List.not_mem_nil, or_false] at hk7492
  subst hk7492
  obtain ⟨b319, he109, he166, he322, hS750⟩ := hW748
  have e751 := hA747 16 (by decide)
  have e752 := hA747 17 (by decide)
  refine zz rfl rfl e751 (fun _ => ?_) (fun hb => absurd rfl hb)
  have e753 := hA747 16 (by decide)
  have e754 := hA747 17 (by decide)
  have hi756 : 0 < fiv.length := (by first | omega | (simp only [Zx]; omega))
  obtain ⟨hce755, hde755_0, hoke755⟩ := hrd54.ev hi756
  rw [← zw default hi756] at hce755 hde755_0 hoke755
  have hsm757 : ((fiv.getD 0 default).deps).length * 8 ≤ 140737488355328 := hde755_0.small
  have hcw758 := hS750.cells hce755 (hrd54.foot (ne_of_lt hi756))
  have hi760 : 1 < fiv.length := (by first | omega | (simp only [Zx]; omega))
  obtain ⟨hce759, hde759_0, hoke759⟩ := hrd54.ev hi760
  rw [← zw default hi760] at hce759 hde759_0 hoke759
  have hsm761 : ((fiv.getD 1 default).deps).length * 8 ≤ 140737488355328 := hde759_0.small
  have hcw762 := hS750.cells hce759 (hrd54.foot (ne_of_lt hi760))
  have hi764 : 2 < fiv.length := (by first | omega | (simp only [Zx]; omega))
  obtain ⟨hce763, hde763_0, hoke763⟩ := hrd54.ev hi764
  rw [← zw default hi764] at hce763 hde763_0 hoke763
  have hsm765 : ((fiv.getD 2 default).deps).length * 8 ≤ 140737488355328 := hde763_0.small
  have hcw766 := hS750.cells hce763 (hrd54.foot (ne_of_lt hi764))
  have hi768 : 4 < fiv.length := (by first | omega | (simp only [Zx]; omega))
  obtain ⟨hce767, hde767_0, hoke767⟩ := hrd54.ev hi768
  rw [← zw default hi768] at hce767 hde767_0 hoke767
  have hsm769 : ((fiv.getD 4 default).deps).length * 8 ≤ 140737488355328 := hde767_0.small
  have hcw770 := hS750.cells hce767 (hrd54.foot (ne_of_lt hi768))
  have hS771 : Sep G48 w45 ((RowE (α := Ev) (shr G48 w45) 64 (.slice (some ⟨b319, 0, none⟩) 4 4) [(fiv.getD 0 default), (fiv.getD 1 default), (fiv.getD 2 default), (fiv.getD 4 default)]) :: (BaseO b34 dC 2 (fiv.take 4)) :: (RowE (α := Fld) (shr G W) 88 (.slice (some ⟨bf2, 0, none⟩) 1 1) [(⟨1, 1, false, []⟩ : Fld)]) :: (RowE (α := Prj) own 46 (.slice (some ⟨bp3, 0, none⟩) 1 1) [(⟨0, 0, 1, 0, 2⟩ : Prj)]) :: Rs) w746 := Sep.blkRow (src := (shr G48 w45)) (l := [(fiv.getD 0 default), (fiv.getD 1 default), (fiv.getD 2 default), (fiv.getD 4 default)]) (css := [(fiv.getD 0 default).cells (zC w45 (sb v44) (so v44 + 0 * 10 + 3)), (fiv.getD 1 default).cells (zC w45 (sb v44) (so v44 + 1 * 10 + 3)), (fiv.getD 2 default).cells (zC w45 (sb v44) (so v44 + 2 * 10 + 3)), (fiv.getD 4 default).cells (zC w45 (sb v44) (so v44 + 4 * 10 + 3))]) hS750 rfl ⟨fun _ _ => ⟨_, rfl, hde755_0, hoke755⟩, fun _ _ => ⟨_, rfl, hde759_0, hoke759⟩, fun _ _ => ⟨_, rfl, hde763_0, hoke763⟩, fun _ _ => ⟨_, rfl, hde767_0, hoke767⟩, trivial⟩ (by first | decide | (simp only [List.length_cons, List.length_nil]; decide)) (show 4 ≤ maxLen by decide)
  have hr772 := hS771.row (i := 0) rfl
  have hr772s : _ * 96 ≤ _ := hr772.2
  obtain ⟨G773, hA775, hB776, hS777, hk778⟩ := hS771.lend
  have hrd779 := RowE.rdB hA775 hB776
  have hrd779s : _ * 96 ≤ _ := hrd779.small
  refine (zL (f := 13) (vals := [.pointer (some ⟨b34, 0, none⟩), (.slice (some ⟨b319, 0, none⟩) 4 4)]) (cap := []) rfl (yN ⟨e754, he322, trivial⟩) qT (xL (l := [(fiv.getD 0 default), (fiv.getD 1 default), (fiv.getD 2 default), (fiv.getD 4 default)]) (vl := (.slice (some ⟨b319, 0, none⟩) 4 4)) hrd779 (RdS.base (RdS.base hKN hB51) hB776) hS777 (Xj) (YH) ((by decide +kernel)) ((by decide +kernel)) ((by decide +kernel))) ?_)
  rintro _ w780 ⟨rfl, hS781⟩
  have hS782 := hk778 _ _ hS781
  intro vals' hv hv'
  refine ⟨?_, trivial⟩
  show ∃ (b319 : Nat), (vals' 6 = (.int .i64 ((((fiv.take 3).length - yb 2 (fiv.take 3) ([] : List Ev)) : Nat) : Int) : Value)) ∧ (vals' 13 = (.int .i64 ((((fiv.take 4).length - yb 2 (fiv.take 4) (fiv.take 3)) : Nat) : Int) : Value)) ∧ (vals' 30 = ((.slice (some ⟨b319, 0, none⟩) 4 4) : Value)) ∧ (vals' 31 = (.int .i64 ((([(fiv.getD 0 default), (fiv.getD 1 default), (fiv.getD 2 default), (fiv.getD 4 default)].length - yb 2 [(fiv.getD 0 default), (fiv.getD 1 default), (fiv.getD 2 default), (fiv.getD 4 default)] (fiv.take 4)) : Nat) : Int) : Value)) ∧ Sep G48 w45 ((RowE (α := Ev) (shr G48 w45) 64 (.slice (some ⟨b319, 0, none⟩) 4 4) [(fiv.getD 0 default), (fiv.getD 1 default), (fiv.getD 2 default), (fiv.getD 4 default)]) :: (BaseO b34 dC 2 [(fiv.getD 0 default), (fiv.getD 1 default), (fiv.getD 2 default), (fiv.getD 4 default)]) :: (RowE (α := Fld) (shr G W) 88 (.slice (some ⟨bf2, 0, none⟩) 1 1) [(⟨1, 1, false, []⟩ : Fld)]) :: (RowE (α := Prj) own 46 (.slice (some ⟨bp3, 0, none⟩) 1 1) [(⟨0, 0, 1, 0, 2⟩ : Prj)]) :: Rs) w780
  exact ⟨b319, (by rw [hv' 6 (by decide)]; exact he109), (by rw [hv' 13 (by decide)]; exact he166), (by rw [hv' 30 (by decide)]; exact he322), hv, hS782⟩
 ·intro k783 vals w784 hk787 hW786 hA785
  have hk7872 : k783 ∈ [15] := hk787
  simp only [List.mem_cons, List.not_mem_nil, or_false] at hk7872
  subst hk7872
  obtain ⟨b319, he109, he166, he322, he361, hS788⟩ := hW786
  have e789 := hA785 16 (by decide)
  refine zz rfl rfl e789 (fun _ => ?_) (fun hb => absurd rfl hb)
  have hl790 : (!decide (((([(fiv.getD 0 default), (fiv.getD 1 default), (fiv.getD 2 default), (fiv.getD 4 default)].length - yb 2 [(fiv.getD 0 default), (fiv.getD 1 default), (fiv.getD 2 default), (fiv.getD 4 default)] (fiv.take 4)) : Nat) : Int) = 2)) = false := by decide +kernel
  exact yw (k := .i64) (a := ((([(fiv.getD 0 default), (fiv.getD 1 default), (fiv.getD 2 default), (fiv.getD 4 default)].length - yb 2 [(fiv.getD 0 default), (fiv.getD 1 default), (fiv.getD 2 default), (fiv.getD 4 default)] (fiv.take 4)) : Nat) : Int)) (b := 2) he361 rfl (fun vals' hv _ => ⟨rfl, hv.trans (congrArg Value.bool hl790)⟩)
 ·intro k791 vals w792 hk795 hW794 hA793
  have e796 := hA793 16 (by decide)
  have e797 := hA793 32 (by decide)
  refine obl rfl ?_
  exact yd (v := .bool false) e796 e797 (fun vals' hv _ => ⟨rfl, hv⟩)
 ·intro k798 vals w799 hk802 hW801 hA800
  have e803 := hA800 33 (by decide)
  refine obl rfl ?_
  exact zq (v := .bool false) e803 (fun vals' hv _ => ⟨rfl, hv⟩)
 ·intro k804 vals w805 hk808 hW807 hA806
  have e809 := hA806 34 (by decide)
  refine zz rfl rfl e809 (fun _ => ?_) (fun hb => absurd rfl hb)
  exact zq (v := .pointer (some ⟨b34, 0, none⟩)) rfl (fun vals' hv _ => ⟨rfl, hv⟩)
 ·intro k810 vals w811 hk814 hW813 hA812
  have hk8142 : k810 ∈ [15, 47] := hk814
  simp only [List.mem_cons, List.not_mem_nil, or_false] at hk8142
  rcases hk8142 with rfl | rfl
  ·skip
   obtain ⟨b319, he109, he166, he322, he361, hS815⟩ := hW813
   have e816 := hA812 34 (by decide)
   have e817 := hA812 35 (by decide)
   refine zz rfl rfl e816 (fun _ => ?_) (fun hb => absurd rfl hb)
   have e818 := hA812 34 (by decide)
   have e819 := hA812 35 (by decide)
   have hS820 := hS815.mv1
   refine (zL (f := 16) (vals := [.pointer (some ⟨b34, 0, none⟩), .int .i64 (0)]) (cap := []) rfl (yN ⟨e819, rfl, trivial⟩) lR (WY (q := 0) (by decide) hS820 ((by decide +kernel))) ?_)
   rintro v400 w822 ⟨_, rfl, hS823⟩
   have hr824 := hS823.row (i := 1) rfl
   have hr824s : _ * 24 ≤ _ := hr824.2
   intro vals' hv hv'
   refine ⟨?_, trivial⟩
   show ∃ (b319 : Nat) (v400 : Value), (vals' 6 = (.int .i64 ((((fiv.take 3).length - yb 2 (fiv.take 3) ([] : List Ev)) : Nat) : Int) : Value)) ∧ (vals' 13 = (.int .i64 ((((fiv.take 4).length - yb 2 (fiv.take 4) (fiv.take 3)) : Nat) : Int) : Value)) ∧ (vals' 30 = ((.slice (some ⟨b319, 0, none⟩) 4 4) : Value)) ∧ (vals' 31 = (.int .i64 ((([(fiv.getD 0 default), (fiv.getD 1 default), (fiv.getD 2 default), (fiv.getD 4 default)].length - yb 2 [(fiv.getD 0 default), (fiv.getD 1 default), (fiv.getD 2 default), (fiv.getD 4 default)] (fiv.take 4)) : Nat) : Int) : Value)) ∧ (vals' 36 = (v400 : Value)) ∧ Sep G48 w45 ((BaseO b34 dC 2 [(fiv.getD 0 default), (fiv.getD 1 default), (fiv.getD 2 default), (fiv.getD 4 default)]) :: (RowE (α := Row) own 44 v400 (yJ dC [(fiv.getD 0 default), (fiv.getD 1 default), (fiv.getD 2 default), (fiv.getD 4 default)] 0)) :: (RowE (α := Ev) (shr G48 w45) 64 (.slice (some ⟨b319, 0, none⟩) 4 4) [(fiv.getD 0 default), (fiv.getD 1 default), (fiv.getD 2 default), (fiv.getD 4 default)]) :: (RowE (α := Fld) (shr G W) 88 (.slice (some ⟨bf2, 0, none⟩) 1 1) [(⟨1, 1, false, []⟩ : Fld)]) :: (RowE (α := Prj) own 46 (.slice (some ⟨bp3, 0, none⟩) 1 1) [(⟨0, 0, 1, 0, 2⟩ : Prj)]) :: Rs) w822
   exact ⟨b319, v400, (by rw [hv' 6 (by decide)]; exact he109), (by rw [hv' 13 (by decide)]; exact he166), (by rw [hv' 30 (by decide)]; exact he322), (by rw [hv' 31 (by decide)]; exact he361), hv, hS823⟩
  ·skip
   obtain ⟨b319, b423, he109, he166, he322, he361, he426, hS825⟩ := hW813
   have e826 := hA812 34 (by decide)
   have e827 := hA812 35 (by decide)
   refine zz rfl rfl e826 (fun _ => ?_) (fun hb => absurd rfl hb)
   have e828 := hA812 34 (by decide)
   have e829 := hA812 35 (by decide)
   have hS830 := hS825.mv2
   refine (zL (f := 16) (vals := [.pointer (some ⟨b34, 0, none⟩), .int .i64 (0)]) (cap := []) rfl (yN ⟨e829, rfl, trivial⟩) lR (WY (q := 0) (by decide) hS830 ((by decide +kernel))) ?_)
   rintro v400 w832 ⟨_, rfl, hS833⟩
   have hr834 := hS833.row (i := 1) rfl
   have hr834s : _ * 24 ≤ _ := hr834.2
   have hS835 := hS833.mv2
   intro vals' hv hv'
   refine ⟨?_, trivial⟩
   show ∃ (b319 : Nat) (v400 : Value) (b423 : Nat), (vals' 6 = (.int .i64 ((((fiv.take 3).length - yb 2 (fiv.take 3) ([] : List Ev)) : Nat) : Int) : Value)) ∧ (vals' 13 = (.int .i64 ((((fiv.take 4).length - yb 2 (fiv.take 4) (fiv.take 3)) : Nat) : Int) : Value)) ∧ (vals' 30 = ((.slice (some ⟨b319, 0, none⟩) 4 4) : Value)) ∧ (vals' 31 = (.int .i64 ((([(fiv.getD 0 default), (fiv.getD 1 default), (fiv.getD 2 default), (fiv.getD 4 default)].length - yb 2 [(fiv.getD 0 default), (fiv.getD 1 default), (fiv.getD 2 default), (fiv.getD 4 default)] (fiv.take 4)) : Nat) : Int) : Value)) ∧ (vals' 36 = (v400 : Value)) ∧ (vals' 38 = ((.slice (some ⟨b423, 0, none⟩) 1 1) : Value)) ∧ Sep G48 w45 ((Blk b423 ((⟨0, 23, 4⟩ : Row).cells).toArray 44) :: (BaseO b34 dC 2 [(fiv.getD 0 default), (fiv.getD 1 default), (fiv.getD 2 default), (fiv.getD 4 default)]) :: (RowE (α := Row) own 44 v400 (yJ dC [(fiv.getD 0 default), (fiv.getD 1 default), (fiv.getD 2 default), (fiv.getD 4 default)] 0)) :: (RowE (α := Ev) (shr G48 w45) 64 (.slice (some ⟨b319, 0, none⟩) 4 4) [(fiv.getD 0 default), (fiv.getD 1 default), (fiv.getD 2 default), (fiv.getD 4 default)]) :: (RowE (α := Fld) (shr G W) 88 (.slice (some ⟨bf2, 0, none⟩) 1 1) [(⟨1, 1, false, []⟩ : Fld)]) :: (RowE (α := Prj) own 46 (.slice (some ⟨bp3, 0, none⟩) 1 1) [(⟨0, 0, 1, 0, 2⟩ : Prj)]) :: Rs) w832
   exact ⟨b319, v400, b423, (by rw [hv' 6 (by decide)]; exact he109), (by rw [hv' 13 (by decide)]; exact he166), (by rw [hv' 30 (by decide)]; exact he322), (by rw [hv' 31 (by decide)]; exact he361), hv, (by rw [hv' 38 (by decide)]; exact he426), hS835⟩
 ·intro k836 vals w837 hk840 hW839 hA838
  have e841 := hA838 34 (by decide)
  refine zz rfl rfl e841 (fun _ => ?_) (fun hb => absurd rfl hb)
  have ok842 : Row.Ok (⟨0, 23, 4⟩ : Row) := ⟨(show InR (0) from (by decide)), (show InR (23) from (by decide)), (show InR (4) from (by decide))⟩
  exact zQ (parts' := [(1, .int .i64 (23)), (2, .int .i64 (4))]) (v := .agg ((⟨0, 23, 4⟩ : Row).cells).toArray) rfl (by simp [Instr.build, Instr.fill, Ev.cells, go_sem, Mv.cells, Fld.cells, Typ.cells, Prj.cells, Dcl.cells, Cel.cells, AskR.cells, CelS.cells, Ev.cells, Ent.cells, Sta.cells, Row.cells, Trn.cells]) (fun vals' hv _ => ⟨rfl, hv⟩)
 ·intro k843 vals w844 hk847 hW846 hA845
  have hk8472 : k843 ∈ [15, 31] := hk847
  simp only [List.mem_cons, List.not_mem_nil, or_false] at hk8472
  rcases hk8472 with rfl | rfl
  ·skip
   obtain ⟨b319, he109, he166, he322, he361, hS848⟩ := hW846
   have e849 := hA845 34 (by decide)
   have e850 := hA845 37 (by decide)
   refine zz rfl rfl e849 (fun _ => ?_) (fun hb => absurd rfl hb)
   have e851 := hA845 34 (by decide)
   have e852 := hA845 37 (by decide)
   refine (zD (k := 3) (parts' := [(0, .agg ((⟨0, 23, 4⟩ : Row).cells).toArray)]) (c := ((⟨0, 23, 4⟩ : Row).cells).toArray) kT mT qR (by decide) (xH ⟨rfl, e852, trivial⟩) (by kernel_rfl) ?_)
   intro w855 b423 hn853
   have hS856 := hS848.new hn853
   intro vals' hv hv'
   refine ⟨?_, trivial⟩
   show ∃ (b319 : Nat) (b423 : Nat), (vals' 6 = (.int .i64 ((((fiv.take 3).length - yb 2 (fiv.take 3) ([] : List Ev)) : Nat) : Int) : Value)) ∧ (vals' 13 = (.int .i64 ((((fiv.take 4).length - yb 2 (fiv.take 4) (fiv.take 3)) : Nat) : Int) : Value)) ∧ (vals' 30 = ((.slice (some ⟨b319, 0, none⟩) 4 4) : Value)) ∧ (vals' 31 = (.int .i64 ((([(fiv.getD 0 default), (fiv.getD 1 default), (fiv.getD 2 default), (fiv.getD 4 default)].length - yb 2 [(fiv.getD 0 default), (fiv.getD 1 default), (fiv.getD 2 default), (fiv.getD 4 default)] (fiv.take 4)) : Nat) : Int) : Value)) ∧ (vals' 38 = ((.slice (some ⟨b423, 0, none⟩) 1 1) : Value)) ∧ Sep G48 w45 ((Blk b423 ((⟨0, 23, 4⟩ : Row).cells).toArray 44) :: (RowE (α := Ev) (shr G48 w45) 64 (.slice (some ⟨b319, 0, none⟩) 4 4) [(fiv.getD 0 default), (fiv.getD 1 default), (fiv.getD 2 default), (fiv.getD 4 default)]) :: (BaseO b34 dC 2 [(fiv.getD 0 default), (fiv.getD 1 default), (fiv.getD 2 default), (fiv.getD 4 default)]) :: (RowE (α := Fld) (shr G W) 88 (.slice (some ⟨bf2, 0, none⟩) 1 1) [(⟨1, 1, false, []⟩ : Fld)]) :: (RowE (α := Prj) own 46 (.slice (some ⟨bp3, 0, none⟩) 1 1) [(⟨0, 0, 1, 0, 2⟩ : Prj)]) :: Rs) w855
   exact ⟨b319, b423, (by rw [hv' 6 (by decide)]; exact he109), (by rw [hv' 13 (by decide)]; exact he166), (by rw [hv' 30 (by decide)]; exact he322), (by rw [hv' 31 (by decide)]; exact he361), hv, hS856⟩
  ·skip
   obtain ⟨b319, v400, he109, he166, he322, he361, he404, hS857⟩ := hW846
   have e858 := hA845 34 (by decide)
   have e859 := hA845 37 (by decide)
   refine zz rfl rfl e858 (fun _ => ?_) (fun hb => absurd rfl hb)
   have e860 := hA845 34 (by decide)
   have e861 := hA845 37 (by decide)
   refine (zD (k := 3) (parts' := [(0, .agg ((⟨0, 23, 4⟩ : Row).cells).toArray)]) (c := ((⟨0, 23, 4⟩ : Row).cells).toArray) kT mT qR (by decide) (xH ⟨rfl, e861, trivial⟩) (by kernel_rfl) ?_)
   intro w864 b423 hn862
   have hS865 := hS857.new hn862
   intro vals' hv hv'
   refine ⟨?_, trivial⟩
   show ∃ (b319 : Nat) (v400 : Value) (b423 : Nat), (vals' 6 = (.int .i64 ((((fiv.take 3).length - yb 2 (fiv.take 3) ([] : List Ev)) : Nat) : Int) : Value)) ∧ (vals' 13 = (.int .i64 ((((fiv.take 4).length - yb 2 (fiv.take 4) (fiv.take 3)) : Nat) : Int) : Value)) ∧ (vals' 30 = ((.slice (some ⟨b319, 0, none⟩) 4 4) : Value)) ∧ (vals' 31 = (.int .i64 ((([(fiv.getD 0 default), (fiv.getD 1 default), (fiv.getD 2 default), (fiv.getD 4 default)].length - yb 2 [(fiv.getD 0 default), (fiv.getD 1 default), (fiv.getD 2 default), (fiv.getD 4 default)] (fiv.take 4)) : Nat) : Int) : Value)) ∧ (vals' 36 = (v400 : Value)) ∧ (vals' 38 = ((.slice (some ⟨b423, 0, none⟩) 1 1) : Value)) ∧ Sep G48 w45 ((Blk b423 ((⟨0, 23, 4⟩ : Row).cells).toArray 44) :: (BaseO b34 dC 2 [(fiv.getD 0 default), (fiv.getD 1 default), (fiv.getD 2 default), (fiv.getD 4 default)]) :: (RowE (α := Row) own 44 v400 (yJ dC [(fiv.getD 0 default), (fiv.getD 1 default), (fiv.getD 2 default), (fiv.getD 4 default)] 0)) :: (RowE (α := Ev) (shr G48 w45) 64 (.slice (some ⟨b319, 0, none⟩) 4 4) [(fiv.getD 0 default), (fiv.getD 1 default), (fiv.getD 2 default), (fiv.getD 4 default)]) :: (RowE (α := Fld) (shr G W) 88 (.slice (some ⟨bf2, 0, none⟩) 1 1) [(⟨1, 1, false, []⟩ : Fld)]) :: (RowE (α := Prj) own 46 (.slice (some ⟨bp3, 0, none⟩) 1 1) [(⟨0, 0, 1, 0, 2⟩ : Prj)]) :: Rs) w864
   exact ⟨b319, v400, b423, (by rw [hv' 6 (by decide)]; exact he109), (by rw [hv' 13 (by decide)]; exact he166), (by rw [hv' 30 (by decide)]; exact he322), (by rw [hv' 31 (by decide)]; exact he361), (by rw [hv' 36 (by decide)]; exact he404), hv, hS865⟩
 ·intro k866 vals w867 hk870 hW869 hA868
  have hk8702 : k866 ∈ [63] := hk870
  simp only [List.mem_cons, List.not_mem_nil, or_false] at hk8702
  subst hk8702
  obtain ⟨b319, v400, b423, he109, he166, he322, he361, he404, he426, hS871⟩ := hW869
  have e872 := hA868 34 (by decide)
  refine zz rfl rfl e872 (fun _ => ?_) (fun hb => absurd rfl hb)
  have e873 := hA868 34 (by decide)
  have hS874 := hS871.mv2
  obtain ⟨G875, hA877, hB878, hS879, hk880⟩ := hS874.lend
  have hrd881 := RowE.rd hA877
  have hrd881s : _ * 24 ≤ _ := hrd881.small
  have ok882 : Row.Ok (⟨0, 23, 4⟩ : Row) := ⟨(show InR (0) from (by decide)), (show InR (23) from (by decide)), (show InR (4) from (by decide))⟩
  have hS883 : Sep G875 w867 ((RowE (α := Row) own 44 (.slice (some ⟨b423, 0, none⟩) 1 1) [(⟨0, 23, 4⟩ : Row)]) :: (BaseO b34 dC 2 [(fiv.getD 0 default), (fiv.getD 1 default), (fiv.getD 2 default), (fiv.getD 4 default)]) :: (RowE (α := Ev) (shr G48 w45) 64 (.slice (some ⟨b319, 0, none⟩) 4 4) [(fiv.getD 0 default), (fiv.getD 1 default), (fiv.getD 2 default), (fiv.getD 4 default)]) :: (RowE (α := Fld) (shr G W) 88 (.slice (some ⟨bf2, 0, none⟩) 1 1) [(⟨1, 1, false, []⟩ : Fld)]) :: (RowE (α := Prj) own 46 (.slice (some ⟨bp3, 0, none⟩) 1 1) [(⟨0, 0, 1, 0, 2⟩ : Prj)]) :: Rs) w867 := Sep.blkRow (src := own) (l := [(⟨0, 23, 4⟩ : Row)]) (css := [(⟨0, 23, 4⟩ : Row).cells]) hS879 rfl ⟨fun _ _ => ⟨rfl, ok882⟩, trivial⟩ (by first | decide | (simp only [List.length_cons, List.length_nil]; decide)) (show 1 ≤ maxLen by decide)
  have hr884 := hS883.row (i := 0) rfl
  have hr884s : _ * 24 ≤ _ := hr884.2
  obtain ⟨G885, hA887, hB888, hS889, hk890⟩ := hS883.lend
  have hrd891 := RowE.rd hA887
  have hrd891s : _ * 24 ≤ _ := hrd891.small
  refine (zL (f := 29) (vals := [v400, (.slice (some ⟨b423, 0, none⟩) 1 1)]) (cap := []) rfl (yN ⟨he404, he426, trivial⟩) Tryz.call29 (Ux (a := (yJ dC [(fiv.getD 0 default), (fiv.getD 1 default), (fiv.getD 2 default), (fiv.getD 4 default)] 0)) (va := v400) (b := [(⟨0, 23, 4⟩ : Row)]) (vb := (.slice (some ⟨b423, 0, none⟩) 1 1)) (RdS.base hrd881 hB888) hrd891 hS889) ?_)
  rintro _ w892 ⟨rfl, hS893⟩
  have hS894 := hk890 _ _ hS893
  have hS895 := hk880 _ _ hS894
  intro vals' hv hv'
  refine ⟨?_, trivial⟩
  show ∃ (b319 : Nat) (v400 : Value) (b423 : Nat), (vals' 6 = (.int .i64 ((((fiv.take 3).length - yb 2 (fiv.take 3) ([] : List Ev)) : Nat) : Int) : Value)) ∧ (vals' 13 = (.int .i64 ((((fiv.take 4).length - yb 2 (fiv.take 4) (fiv.take 3)) : Nat) : Int) : Value)) ∧ (vals' 30 = ((.slice (some ⟨b319, 0, none⟩) 4 4) : Value)) ∧ (vals' 31 = (.int .i64 ((([(fiv.getD 0 default), (fiv.getD 1 default), (fiv.getD 2 default), (fiv.getD 4 default)].length - yb 2 [(fiv.getD 0 default), (fiv.getD 1 default), (fiv.getD 2 default), (fiv.getD 4 default)] (fiv.take 4)) : Nat) : Int) : Value)) ∧ (vals' 36 = (v400 : Value)) ∧ (vals' 38 = ((.slice (some ⟨b423, 0, none⟩) 1 1) : Value)) ∧ (vals' 39 = (.bool (decide ((yJ dC [(fiv.getD 0 default), (fiv.getD 1 default), (fiv.getD 2 default), (fiv.getD 4 default)] 0) = [(⟨0, 23, 4⟩ : Row)])) : Value)) ∧ Sep G48 w45 ((RowE (α := Row) own 44 v400 (yJ dC [(fiv.getD 0 default), (fiv.getD 1 default), (fiv.getD 2 default), (fiv.getD 4 default)] 0)) :: (RowE (α := Row) own 44 (.slice (some ⟨b423, 0, none⟩) 1 1) [(⟨0, 23, 4⟩ : Row)]) :: (BaseO b34 dC 2 [(fiv.getD 0 default), (fiv.getD 1 default), (fiv.getD 2 default), (fiv.getD 4 default)]) :: (RowE (α := Ev) (shr G48 w45) 64 (.slice (some ⟨b319, 0, none⟩) 4 4) [(fiv.getD 0 default), (fiv.getD 1 default), (fiv.getD 2 default), (fiv.getD 4 default)]) :: (RowE (α := Fld) (shr G W) 88 (.slice (some ⟨bf2, 0, none⟩) 1 1) [(⟨1, 1, false, []⟩ : Fld)]) :: (RowE (α := Prj) own 46 (.slice (some ⟨bp3, 0, none⟩) 1 1) [(⟨0, 0, 1, 0, 2⟩ : Prj)]) :: Rs) w892
  exact ⟨b319, v400, b423, (by rw [hv' 6 (by decide)]; exact he109), (by rw [hv' 13 (by decide)]; exact he166), (by rw [hv' 30 (by decide)]; exact he322), (by rw [hv' 31 (by decide)]; exact he361), (by rw [hv' 36 (by decide)]; exact he404), (by rw [hv' 38 (by decide)]; exact he426), hv, hS895⟩
 ·intro k896 vals w897 hk900 hW899 hA898
  have hk9002 : k896 ∈ [127] := hk900
  simp only [List.mem_cons, List.not_mem_nil, or_false] at hk9002
  subst hk9002
  obtain ⟨b319, v400, b423, he109, he166, he322, he361, he404, he426, he464, hS901⟩ := hW899
  have e902 := hA898 34 (by decide)
  refine zz rfl rfl e902 (fun _ => ?_) (fun hb => absurd rfl hb)
  have hl903 : (!(decide ((yJ dC [(fiv.getD 0 default), (fiv.getD 1 default), (fiv.getD 2 default), (fiv.getD 4 default)] 0) = [(⟨0, 23, 4⟩ : Row)]))) = false := by decide +kernel
  exact yK (a := decide ((yJ dC [(fiv.getD 0 default), (fiv.getD 1 default), (fiv.getD 2 default), (fiv.getD 4 default)] 0) = [(⟨0, 23, 4⟩ : Row)])) he464 (fun vals' hv _ => ⟨rfl, hv.trans (congrArg Value.bool hl903)⟩)
 ·intro k904 vals w905 hk908 hW907 hA906
  have e909 := hA906 34 (by decide)
  have e910 := hA906 40 (by decide)
  refine obl rfl ?_
  exact yd (v := .bool false) e909 e910 (fun vals' hv _ => ⟨rfl, hv⟩)
 intro vals w911 hW912 hA913
 obtain ⟨b319, v400, b423, he109, he166, he322, he361, he404, he426, he464, hS914⟩ := hW912
 have e915 := hA913 41 (by decide)
 refine zW (kv := [(0, .bool false), (3, .agg #[(.slice (some ⟨bt1, 0, none⟩) 1 1), (.slice (some ⟨bp3, 0, none⟩) 1 1)]), (4, .pointer (some ⟨b34, 0, none⟩)), (1, .pointer (some ⟨b34, 0, none⟩)), (5, v44), (2, v44), (47, .bool false)]) ⟨rfl, rfl, rfl, rfl, rfl, rfl, (by exact e915), trivial⟩ (fun ρw911 => ?_)
 refine zb ?_
 refine zf rfl ?_
 refine zn ?_
 refine za ?_
 refine zH (by kernel_rfl) ?_
 refine st (zq (v := .pointer (some ⟨b34, 0, none⟩)) rfl ?_)
 refine st (zq (v := v44) rfl ?_)
 refine st (Zc (j := 2) (k := 10) (n := fiv.length) oT nT rfl hrd54.sl rfl (by first | omega | (simp only [Zx]; omega)) ?_)
 have h916 := RdS.sub_hi (j := 2) hrd54 (by first | omega | (simp only [List.length_drop, List.length_take]; omega))
 have h916s : _ * 96 ≤ _ := h916.small
 have hS917 := hS914.mv2
 refine st (zL (f := 13) (vals := [.pointer (some ⟨b34, 0, none⟩), (xh 10 v44 0 2)]) (cap := []) rfl rfl qT (xL (l := fiv.take 2) (vl := (xh 10 v44 0 2)) h916 (RdS.base hKN hB51) hS917 (Xj) (YH) ((by decide +kernel)) ((by decide +kernel)) ((by decide +kernel))) ?_)
 rintro _ w918 ⟨rfl, hS919⟩
 refine st (zX (k := .i64) (a := ((((fiv.take 2).length - yb 2 (fiv.take 2) [(fiv.getD 0 default), (fiv.getD 1 default), (fiv.getD 2 default), (fiv.getD 4 default)]) : Nat) : Int)) (b := 0) rfl rfl ?_)
 have hkn920 : (decide (((((fiv.take 2).length - yb 2 (fiv.take 2) [(fiv.getD 0 default), (fiv.getD 1 default), (fiv.getD 2 default), (fiv.getD 4 default)]) : Nat) : Int) = 0)) = true := (by decide +kernel)
 rw [hkn920]
 refine st (zq (v := .bool true) rfl ?_)
 refine sty rfl rfl (zq (v := .pointer (some ⟨b34, 0, none⟩)) rfl ?_)
 refine sty rfl rfl (zq (v := v44) rfl ?_)
 refine sty rfl rfl (Zc (j := 1) (k := 10) (n := fiv.length) oT nT rfl hrd54.sl rfl (by first | omega | (simp only [Zx]; omega)) ?_)
 have h921 := RdS.sub_hi (j := 1) hrd54 (by first | omega | (simp only [List.length_drop, List.length_take]; omega))
 have h921s : _ * 96 ≤ _ := h921.small
 refine sty rfl rfl (zL (f := 13) (vals := [.pointer (some ⟨b34, 0, none⟩), (xh 10 v44 0 1)]) (cap := []) rfl rfl qT (xL (l := fiv.take 1) (vl := (xh 10 v44 0 1)) h921 (RdS.base hKN hB51) hS919 (Xj) (YH) ((by decide +kernel)) ((by decide +kernel)) ((by decide +kernel))) ?_)
 rintro _ w922 ⟨rfl, hS923⟩
 refine sty rfl rfl (zX (k := .i64) (a := ((((fiv.take 1).length - yb 2 (fiv.take 1) (fiv.take 2)) : Nat) : Int)) (b := 1) rfl rfl ?_)
 have hkn924 : (decide (((((fiv.take 1).length - yb 2 (fiv.take 1) (fiv.take 2)) : Nat) : Int) = 1)) = true := (by decide +kernel)
 rw [hkn924]
 refine st (yn (v := .bool true) rfl rfl ?_)
 refine st (zq (v := .bool true) rfl ?_)
 refine sty rfl rfl (zq (v := .pointer (some ⟨b34, 0, none⟩)) rfl ?_)
 refine sty rfl rfl (zL (f := 13) (vals := [.pointer (some ⟨b34, 0, none⟩), (.slice none 0 0)]) (cap := []) rfl rfl qT (xL (l := ([] : List Ev)) (vl := (.slice none 0 0)) (RdS.nil _ _) (RdS.base hKN hB51) hS923 (Xj) (YH) ((by decide +kernel)) ((by decide +kernel)) ((by decide +kernel))) ?_)
 rintro _ w925 ⟨rfl, hS926⟩
 refine sty rfl rfl (zX (k := .i64) (a := (((([] : List Ev).length - yb 2 ([] : List Ev) (fiv.take 1)) : Nat) : Int)) (b := 0) rfl rfl ?_)
 have hkn927 : (decide ((((([] : List Ev).length - yb 2 ([] : List Ev) (fiv.take 1)) : Nat) : Int) = 0)) = true := (by decide +kernel)
 rw [hkn927]
 refine st (yn (v := .bool true) rfl rfl ?_)
 refine st (zq (v := .bool true) rfl ?_)
 refine sty rfl rfl (zq (v := .pointer (some ⟨b34, 0, none⟩)) rfl ?_)
 refine sty rfl rfl (zL (f := 15) (vals := [.pointer (some ⟨b34, 0, none⟩)]) (cap := []) rfl rfl rR (Xq  hS926) ?_)
 rintro v928 w929 ⟨_, rfl, hS930⟩
 have hr931 := hS930.row (i := 1) rfl
 have hr931s : _ * 120 ≤ _ := hr931.2
 refine sty rfl rfl (zG (n := (zu dC ([] : List Ev)).length) vT rfl hr931.1 ?_)
 refine sty rfl rfl (zX (k := .i64) (a := (((zu dC ([] : List Ev)).length : Nat) : Int)) (b := 0) rfl rfl ?_)
 have hkn932 : (decide ((((zu dC ([] : List Ev)).length : Nat) : Int) = 0)) = true := (by decide +kernel)
 rw [hkn932]
 refine st (yn (v := .bool true) rfl rfl ?_)
 refine st (zv (v := .bool true) rfl ?_)
 refine zb ?_
 refine zm ?_
 refine zT Tryz.results9 (show _ = (.bool true : Value) from rfl) ?_
 have hS933 := hk53 _ _ hS930
 have hS934 : Sep G W Rs w929 := hS933.sel 8 [] (Nat.le_add_left _ _) rfl rfl
 refine ⟨rfl, hS934⟩

section
variable {U : List Ev} {every k q : Nat}
end
end Go.Proofs.YtojlbibionhdjaaGreatDoor
set_option maxRecDepth 8000
set_option maxHeartbeats 4000000
namespace Go.Proofs.YtojlbibionhdjaaGreatDoor
open Go.Proofs Go.RowKit

end Go.Proofs.YtojlbibionhdjaaGreatDoor
namespace Go.Proofs.YtojlbibionhdjaaGreatDoor

def dnB (p : Prj) (agg : Int) (one : Bool) (x : Ent) : Bool := ((!x.void && decide (x.ev.typ = p.ptyp)) && decide (x.ev.field = p.pfield)) && (!one || decide (x.ev.agg = agg))
def xl (x : List Ent) (p : Prj) (agg : Int) (one : Bool) : Nat := (x.filter (dnB p agg one)).length
theorem Zb {L : List Ent} {x : Ent} {p : Prj} {agg : Int} {one : Bool} : xl (L ++ [x]) p agg one = xl L p agg one + if dnB p agg one x = true then 1 else 0 := by
  unfold xl
  rw [List.filter_append, List.length_append, List.filter_cons]
  split <;> simp
theorem Wl {L : List Ent} {p : Prj} {agg : Int} {one : Bool} {k : Nat} (h : k < L.length) : xl (L.take (k + 1)) p agg one = xl (L.take k) p agg one + if dnB p agg one (L.getD k default) = true then 1 else 0 := by rw [List.take_getD (d := default) h, Zb]
def xX : List Row → Int
  | [] => 0
  | r :: l => r.count + xX l
theorem Vg (a b : List Row) : xX (a ++ b) = xX a + xX b := by
  induction a with
  | nil => simp [xX]
  | cons x a ih => simp only [List.cons_append, xX, ih]; omega
theorem Qx {a b : List Row} (h : a.Perm b) : xX a = xX b := by
  induction h with
  | nil => rfl
  | cons x _ ih => simp only [xX, ih]
  | swap x y l => simp only [xX]; omega
  | trans _ _ h1 h2 => exact h1.trans h2
theorem Qe {R : List Row} {k : Nat} (h : k < R.length) : xX (R.take (k + 1)) = xX (R.take k) + (R.getD k default).count := by
  rw [List.take_getD (d := default) h, Vg]
  simp [xX]
theorem Vv : ∀ {l : List Row} {j : Nat} {x : Row} (h : j < l.length), xX (l.set j x) = xX l - l[j].count + x.count
  | y :: l, 0, x, _ => by simp only [List.set_cons_zero, xX, List.getElem_cons_zero]; omega
  | y :: l, j + 1, x, h => by
    have := Vv (l := l) (j := j) (x := x) (by simpa using h)
    simp only [List.set_cons_succ, xX, List.getElem_cons_succ]; omega
  | [], j, _, h => absurd h (Nat.not_lt_zero j)
def Jn (M : List (Int × Row)) : Int := xX (M.map (·.2))
theorem JR {M : List (Int × Row)} {g : Int} {r : Row} : Jn (yU M g r) = Jn M - ((zK M g).getD (⟨0, 0, 0⟩ : Row)).count + r.count := by
  unfold Jn yU zK
  split
  · rename_i j hj
    obtain ⟨h1, h2, h3⟩ := List.findIdx?_eq_some_iff_getElem.1 hj
    have hf : M.find? (fun p => p.1 == g) = some M[j] := by
      rw [List.find?_eq_some_iff_getElem]
      exact ⟨h2, j, h1, rfl, fun i hi => by have := h3 i hi; simpa using this⟩
    rw [hf, List.map_set, Vv (by rw [List.length_map]; exact h1), List.getElem_map]
    rfl
  · rename_i hj
    rw [List.findIdx?_eq_none_iff] at hj
    have hf : M.find? (fun p => p.1 == g) = none := by
      rw [List.find?_eq_none]
      intro p hp; simpa using hj p hp
    rw [hf, List.map_append, Vg]
    simp [xX]
theorem KQ {p : Prj} {e : Ev} {reg : Int} (h : 1 ≤ p.pgroup ∧ p.pgroup ≤ 3) : ∃ g, zo p e reg = some g ∧ (p.pgroup = 1 → g = e.agg) := by
  unfold zo
  by_cases h1 : p.pgroup = 1
  · exact ⟨_, if_pos h1, fun _ => rfl⟩
  · by_cases h2 : p.pgroup = 2
    · exact ⟨_, by rw [if_neg h1, if_pos h2], fun h => absurd h h1⟩
    · exact ⟨_, by rw [if_neg h1, if_neg h2, if_pos (by omega)], fun h => absurd h h1⟩
structure CntLaw (p : Prj) (M : List (Int × Row)) (L : List Ent) : Prop where
  sum : Jn M = ((xl L p 0 false : Nat) : Int)
  one : p.pgroup = 1 → ∀ g, ((zK M g).getD (⟨0, 0, 0⟩ : Row)).count = ((xl L p g true : Nat) : Int)
  val : p.pmake = 1 → ∀ q ∈ M, q.2.value = q.2.count
theorem CntLaw.add {p : Prj} {M : List (Int × Row)} {L : List Ent} {e : Ent} {reg : Int} (hp : 1 ≤ p.pgroup ∧ p.pgroup ≤ 3) (h : CntLaw p M L) : CntLaw p (Zl p M e reg) (L ++ [e]) := by
  obtain ⟨g, hg, hga⟩ := KQ (e := e.ev) (reg := reg) hp
  unfold Zl
  rw [hg]
  dsimp only
  by_cases hk : e.void = true ∨ e.ev.typ ≠ p.ptyp ∨ e.ev.field ≠ p.pfield
  · rw [if_pos hk]
    have hd : ∀ a o, dnB p a o e = false := fun a o => by
      unfold dnB
      rcases hk with hk | hk | hk
      · rw [hk]; simp
      · simp [hk]
      · simp [hk]
    refine ⟨?_, fun h1 g' => ?_, h.val⟩
    · rw [Zb, hd]; simpa using h.sum
    · rw [Zb, hd]; simpa using h.one h1 g'
  · rw [if_neg hk]
    have hv : e.void = false := by cases hv : e.void with
      | false => rfl
      | true => exact absurd (.inl hv) hk
    have ht : e.ev.typ = p.ptyp := Decidable.not_not.1 fun h9 => hk (.inr (.inl h9))
    have hf : e.ev.field = p.pfield := Decidable.not_not.1 fun h9 => hk (.inr (.inr h9))
    have hd0 : dnB p 0 false e = true := by unfold dnB; rw [hv]; simp [ht, hf]
    have hd1 : ∀ g', dnB p g' true e = decide (e.ev.agg = g') := fun g' => by unfold dnB; rw [hv]; simp [ht, hf]
    refine ⟨?_, fun h1 g' => ?_, fun h1 q hq => ?_⟩
    · rw [JR, Zb, if_pos hd0, h.sum]
      simp only []
      omega
    · have ha := hga h1
      rw [Qt, Zb, hd1]
      by_cases hgg : g' = g
      · rw [if_pos hgg, if_pos (by rw [decide_eq_true_eq, hgg, ha])]
        have := h.one h1 g'
        rw [hgg] at this
        simp only [Option.getD_some, hgg]
        omega
      · rw [if_neg hgg, if_neg (by rw [decide_eq_true_eq]; intro h9; exact hgg (by rw [ha, h9]))]
        exact h.one h1 g'
    · rcases XG hq with rfl | hq
      · show yT p _ _ = _
        unfold yT
        rw [if_pos h1]
      · exact h.val h1 q hq
theorem QX {d : Dcl} {p : Prj} (hp : 1 ≤ p.pgroup ∧ p.pgroup ≤ 3) (l : List Ev) : CntLaw p (xx d p l) (zu d l) := by
  induction l using Zg with
  | h0 => exact ⟨rfl, fun _ _ => rfl, fun _ q hq => absurd hq List.not_mem_nil⟩
  | h1 l e ih => rw [YA, xm]; exact ih.add hp
structure RowsLaw (p : Prj) (L : List Ent) (R : List Row) : Prop where
  len : R.length ≤ L.length
  cnt : ∀ i, i < R.length → 1 ≤ (R.getD i default).count ∧ (R.getD i default).count ≤ L.length
  ris : ∀ i, 0 < i → i < R.length → (R.getD (i - 1) default).group < (R.getD i default).group
  val : p.pmake = 1 → ∀ i, i < R.length → (R.getD i default).value = (R.getD i default).count
  one : p.pgroup = 1 → ∀ i, i < R.length → (R.getD i default).count = ((xl L p (R.getD i default).group true : Nat) : Int)
  sum : xX R = ((xl L p 0 false : Nat) : Int)
theorem KE {d : Dcl} {p : Prj} (hp : 1 ≤ p.pgroup ∧ p.pgroup ≤ 3) (l : List Ev) : RowsLaw p (zu d l) (Zn d l p) := by
  have hg := ZI d p l
  have hl := QX (d := d) hp l
  have hper : (Zn d l p).Perm ((xx d p l).map (·.2)) := Yx _
  have hin : ∀ i, i < (Zn d l p).length → ∃ q ∈ xx d p l, q.2 = (Zn d l p).getD i default := fun i hi => by
    rw [zw _ hi]
    exact List.mem_map.1 (hper.subset (List.getElem_mem hi))
  have hnd : ((Zn d l p).map (·.group)).Nodup := ((hper.map (·.group)).nodup_iff).2 (Yl hg.grp hg.nodup)
  refine ⟨?_, fun i hi => ?_, fun i h0 hi => ?_, fun h1 i hi => ?_, fun h1 i hi => ?_, ?_⟩
  · rw [hper.length_eq, List.length_map, xA]; exact hg.len
  · obtain ⟨q, hq, e⟩ := hin i hi
    have := hg.cnt q hq
    rw [← e, xA]; exact this
  · have h2 := List.pairwise_iff_getElem.1 (Zy ((xx d p l).map (·.2))) (i - 1) i (by show i - 1 < (Zn d l p).length; omega) hi (by omega)
    have h3 := List.pairwise_iff_getElem.1 hnd (i - 1) i (by rw [List.length_map]; omega) (by rw [List.length_map]; exact hi) (by omega)
    rw [List.getElem_map, List.getElem_map] at h3
    have h4 : ¬ (Zn d l p)[i].group < (Zn d l p)[i - 1].group := h2
    rw [zw _ hi, zw _ (show i - 1 < (Zn d l p).length by omega)]
    omega
  · obtain ⟨q, hq, e⟩ := hin i hi
    rw [← e]; exact hl.val h1 q hq
  · obtain ⟨q, hq, e⟩ := hin i hi
    have h2 := Qn hg.nodup hq
    have h3 := hl.one h1 q.1
    rw [h2] at h3
    rw [← e, ← hg.grp q hq]
    exact h3
  · rw [Qx hper]; exact hl.sum
theorem Uo {d : Dcl} {l : List Ev} {i : Nat} (hp : YD d) (hi : i < d.projs.length) : RowsLaw (d.projs.getD i default) (zu d l) (yJ d l ((i : Nat) : Int)) := by
  have e : yJ d l ((i : Nat) : Int) = Zn d l (d.projs.getD i default) := by
    unfold yJ
    rw [if_neg (by omega), Int.toNat_natCast]
  rw [e]
  exact KE (hp.2 i hi).2.1 l
end Go.Proofs.YtojlbibionhdjaaGreatDoor
set_option maxRecDepth 8000
set_option maxHeartbeats 4000000
namespace Go.Proofs.YtojlbibionhdjaaGreatDoor
open Go.Proofs Go.RowKit

theorem Va {G : Nat → Prop} {W w : World} {Rs : List HP} {vx : Value} {x : List Ent} (hx : RdS W G vx x) {p : Prj} (op : p.Ok) {agg : Int} (hagg : InR agg) {one : Bool} (hS0 : Sep G W Rs w) : Ret Tryz.prog 17 [vx, .agg (p.cells).toArray, .int .i64 (agg), .bool one] w (fun r w' => r = (.int .i64 (((xl x p agg one) : Nat) : Int) : Value) ∧ Sep G W Rs w') := by
 have hxs : _ * 120 ≤ _ := hx.small
 refine zk (args := [vx, .agg (p.cells).toArray, Iv agg, .bool one]) Tryz.func17 rfl rfl ?_
 refine za (R0 fun _ => st (zS (v := .agg (p.cells).toArray) rfl ?_))
 intro w3 b2 ay
 refine st (aS (Iv 0) (zb (za (R0 fun _ => st (aS (Iv 0) (zb (za (za (R0 fun _ => st (aS (Iv 0) (zb (zp (zZ (fun mq σ wq => ∃ (k : Nat) (d : Nat) (ρ : Env), mq = x.length - k ∧ σ = ya ρ [(0, vx), (2, Iv agg), (3, .bool one), (5, Ix b2 0), (8, Iv 0), (9, Iw d), (10, Iw k)] ∧ (k ≤ x.length) ∧ (d = xl (x.take k) p agg one ∧ d ≤ k) ∧ Sep G W ((Blk b2 (p.cells).toArray 46) :: Rs) wq) ⟨0, 0, _, rfl, sSf, Nat.zero_le _, ⟨rfl, Nat.le_refl _⟩, (hS0.new ay)⟩ ?_)))))))))))))
 rintro m6 σ7 w5 ⟨k, d, ρl1, rfl, rfl, hkk, hcz, y⟩
 let az := zC W (sb vx) (so vx + k * 13 + 3)
 refine za (za (R0 fun _ => st (mV (Iw k) (st (mV vx (st (zG (n := x.length) vT rfl hx.sl (st (zJ (k := .i64) (a := ((k : Nat) : Int)) (b := ((x.length : Nat) : Int)) rfl rfl (zb ?_))))))))))
 cases m : decide (((k : Nat) : Int) < ((x.length : Nat) : Int))
 have hc9r := m
 have m := fD m
 refine zf rfl (zY (zR (za (R0 fun _ => st (mV (Iw d) (st (aS (Iw d) (zb (zm (zT Tryz.results17 (show _ = (Iw d : Value) from rfl) ?_))))))))))
 refine ⟨?_, (y.s1_)⟩
 obtain rfl : k = x.length := by omega
 rw [hcz.1, List.take_length]
 have m := tD m
 refine zi rfl (zn (za (zp (za (R0 fun _ => st (mV vx (st (mV (Iw k) ?_))))))))
 have M : k < x.length := bo
 refine st (ze (k := 13) (i := k) vT sR rfl hx.sl rfl M (st (VN rfl ?_)))
 have o : k < x.length := bo
 obtain ⟨u, f, hoke12⟩ := hx.entD o
 have hsm14 : ((x.getD k default).ev.deps).length * 8 ≤ 140737488355328 := f.small
 have K := y.cells u (hx.foot (ne_of_lt o))
 refine st (zg (k := 10) (cs := [Iv ((x.getD k default).ev.origin), Iv ((x.getD k default).ev.seq), Iv ((x.getD k default).ev.lam), az, Iv ((x.getD k default).ev.typ), Iv ((x.getD k default).ev.agg), Iv ((x.getD k default).ev.field), Iv ((x.getD k default).ev.op), Iv ((x.getD k default).ev.arg), Iv ((x.getD k default).ev.key)]) sT nT rfl rfl (CellsAt.sub K 0 (cs2 := [Iv ((x.getD k default).ev.origin), Iv ((x.getD k default).ev.seq), Iv ((x.getD k default).ev.lam), az, Iv ((x.getD k default).ev.typ), Iv ((x.getD k default).ev.agg), Iv ((x.getD k default).ev.field), Iv ((x.getD k default).ev.op), Iv ((x.getD k default).ev.arg), Iv ((x.getD k default).ev.key)]) rfl) (st (zI pR ?_)))
 intro w18 z N
 have A := y.new N
 refine stn (zA (v := .agg (((x.getD k default).ev).cells az).toArray) (c' := (((x.getD k default).ev).cells az).toArray) nT rfl rfl (A.b0) (yf ⟨rfl, rfl, rfl, f.sl.one, rfl, rfl, rfl, rfl, rfl, rfl, trivial⟩) yqc rfl ?_)
 intro w20 O
 have c := A.pt0 O
 refine zb (za (zH kr (st (mV vx (st (mV (Iw k) ?_))))))
 have P : k < x.length := bo
 refine st (ze (k := 13) (i := k) vT sR rfl hx.sl rfl P (st (zaL rfl ?_)))
 have L := c.cells u (hx.foot (ne_of_lt o))
 refine st (lD (.bool ((x.getD k default).void)) Tryz.isAgg4 rfl (L.get (j := 10) rfl) (st (yK (a := (x.getD k default).void) rfl (st (mV (.bool (!((x.getD k default).void))) (stc (V := Ix z 4) rfl rfl (fun Q => ?_) ?_))))))
 have R := Q
 try simp only [zh] at R
 exact ZY rfl ⟨rfl, rfl⟩
 refine stc (V := Iv (((x.getD k default).ev).typ)) rfl rfl (fun B => ?_) ?_
 have S := B
 try simp only [zh] at S
 exact lD (Iv (((x.getD k default).ev).typ)) lT (if_pos B) (zd (c.b0) rfl) ⟨rfl, rfl⟩
 refine stc (V := Ix b2 0) rfl rfl (fun T => ?_) ?_
 have U := T
 try simp only [zh] at U
 exact Uw rfl ⟨rfl, rfl⟩
 refine stc (V := Iv (p.ptyp)) rfl rfl (fun C => ?_) ?_
 have X := C
 try simp only [zh] at X
 exact lD (Iv (p.ptyp)) lT (if_pos C) (zd (c.b1) rfl) ⟨rfl, rfl⟩
 refine stc (V := .bool (decide ((((x.getD k default).ev).typ) = p.ptyp))) rfl rfl (fun q => ?_) ?_
 have Y := q
 try simp only [zh] at Y
 exact zX (k := .i64) (a := ((x.getD k default).ev).typ) (b := p.ptyp) (if_pos q) (if_pos q) ⟨rfl, rfl⟩
 refine st (zB (b := !((x.getD k default).void)) (b' := decide ((((x.getD k default).ev).typ) = p.ptyp)) rfl (fun hbp => (if_pos hbp)) (st (mV (.bool ((!((x.getD k default).void)) && (decide ((((x.getD k default).ev).typ) = p.ptyp)))) (stc (V := Ix z 6) rfl rfl (fun Z => ?_) ?_))))
 have aa := Z
 try simp only [zh] at aa
 exact Zr rfl ⟨rfl, rfl⟩
 refine stc (V := Iv (((x.getD k default).ev).field)) rfl rfl (fun D => ?_) ?_
 have ab := D
 try simp only [zh] at ab
 exact lD (Iv (((x.getD k default).ev).field)) lT (if_pos D) (zd (c.b0) rfl) ⟨rfl, rfl⟩
 refine stc (V := Ix b2 1) rfl rfl (fun ac => ?_) ?_
 have ad := ac
 try simp only [zh] at ad
 exact Kn rfl ⟨rfl, rfl⟩
 refine stc (V := Iv (p.pfield)) rfl rfl (fun E => ?_) ?_
 have ae := E
 try simp only [zh] at ae
 exact lD (Iv (p.pfield)) lT (if_pos E) (zd (c.b1) rfl) ⟨rfl, rfl⟩
 refine stc (V := .bool (decide ((((x.getD k default).ev).field) = p.pfield))) rfl rfl (fun s => ?_) ?_
 have af := s
 try simp only [zh] at af
 exact zX (k := .i64) (a := ((x.getD k default).ev).field) (b := p.pfield) (if_pos s) (if_pos s) ⟨rfl, rfl⟩
 refine st (zB (b := (!((x.getD k default).void)) && (decide ((((x.getD k default).ev).typ) = p.ptyp))) (b' := decide ((((x.getD k default).ev).field) = p.pfield)) rfl (fun hbp => (if_pos hbp)) (st (mV (.bool (((!((x.getD k default).void)) && (decide ((((x.getD k default).ev).typ) = p.ptyp))) && (decide ((((x.getD k default).ev).field) = p.pfield)))) (stc (V := .bool one) rfl rfl (fun ag => ?_) ?_))))
 have ah := ag
 try simp only [zh] at ah
 exact mV (.bool one) ⟨rfl, rfl⟩
 refine stc (V := .bool (!one)) rfl rfl (fun F => ?_) ?_
 have ai := F
 try simp only [zh] at ai
 exact yK (a := one) (if_pos F) ⟨rfl, rfl⟩
 refine stc (V := .bool (!one)) rfl rfl (fun H => ?_) ?_
 have aj := H
 try simp only [zh] at aj
 exact zq (v := .bool (!one)) (if_pos H) ⟨rfl, rfl⟩
 refine yD (V := Ix z 5) rfl rfl (fun I => ?_) ?_
 have ak := I.1
 try simp only [zh] at ak
 have al := I.2
 try simp only [zh] at al
 exact WO rfl ⟨rfl, rfl⟩
 refine yD (V := Iv (((x.getD k default).ev).agg)) rfl rfl (fun g => ?_) ?_
 have am := g.1
 try simp only [zh] at am
 have an := g.2
 try simp only [zh] at an
 exact lD (Iv (((x.getD k default).ev).agg)) lT (if_pos ⟨g.1, g.2⟩) (zd (c.b0) rfl) ⟨rfl, rfl⟩
 refine yD (V := Iv agg) rfl rfl (fun J => ?_) ?_
 have ao := J.1
 try simp only [zh] at ao
 have ap := J.2
 try simp only [zh] at ap
 exact mV (Iv agg) ⟨rfl, rfl⟩
 refine yD (V := .bool (decide ((((x.getD k default).ev).agg) = agg))) rfl rfl (fun e => ?_) ?_
 have aq := e.1
 try simp only [zh] at aq
 have ar := e.2
 try simp only [zh] at ar
 exact zX (k := .i64) (a := ((x.getD k default).ev).agg) (b := agg) (if_pos ⟨e.1, e.2⟩) (if_pos ⟨e.1, e.2⟩) ⟨rfl, rfl⟩
 refine stc (V := .bool ((!one) || (decide ((((x.getD k default).ev).agg) = agg)))) rfl rfl (fun t => ?_) ?_
 have au := t
 try simp only [zh] at au
 exact zx (b := !one) (b' := decide ((((x.getD k default).ev).agg) = agg)) (if_pos t) (fun hbp => (if_pos ⟨t, hbp⟩)) ⟨rfl, rfl⟩
 refine st (zB (b := ((!((x.getD k default).void)) && (decide ((((x.getD k default).ev).typ) = p.ptyp))) && (decide ((((x.getD k default).ev).field) = p.pfield))) (b' := (!one) || (decide ((((x.getD k default).ev).agg) = agg))) rfl (fun hbp => (if_pos hbp)) (zb ?_))
 cases h : (((!((x.getD k default).void)) && (decide ((((x.getD k default).ev).typ) = p.ptyp))) && (decide ((((x.getD k default).ev).field) = p.pfield))) && ((!one) || (decide ((((x.getD k default).ev).agg) = agg)))
 have l := h
 try simp only [zh] at h
 refine zf rfl (zn (R0 fun _ => st (mV (Iw k) ?_)))
 have av : InR ((k + 1 : Nat) : Int) := bo
 refine st (zO (r := ((k + 1 : Nat) : Int)) (k := .i64) (a := ((k : Nat) : Int)) (b := 1) rfl rfl (by rw [show (((k : Nat) : Int) + 1 : Int) = ((k + 1 : Nat) : Int) from bo]; exact zy av) (st (aS (Iw (k + 1)) (zb ?_))))
 exact ⟨_, by omega, k + 1, d, _, rfl, sSf, by omega, ⟨by rw [Wl (by omega), if_neg (fun h9 => Bool.false_ne_true ((show dnB p agg one (x.getD k default) = false from l).symm.trans h9)), ← hcz.1, Nat.add_zero], by omega⟩, (c.s2_b)⟩
 have l := h
 try simp only [zh] at h
 refine zi rfl (R0 fun _ => st (mV (Iw d) ?_))
 have aw : InR ((d + 1 : Nat) : Int) := bo
 refine st (zO (r := ((d + 1 : Nat) : Int)) (k := .i64) (a := ((d : Nat) : Int)) (b := 1) rfl rfl (by rw [show (((d : Nat) : Int) + 1 : Int) = ((d + 1 : Nat) : Int) from bo]; exact zy aw) (st (aS (Iw (d + 1)) (zb (zt (by kernel_rfl) (fun _ => (st (mV (Iw k) ?_))))))))
 have ax : InR ((k + 1 : Nat) : Int) := bo
 refine st (zO (r := ((k + 1 : Nat) : Int)) (k := .i64) (a := ((k : Nat) : Int)) (b := 1) rfl rfl (by rw [show (((k : Nat) : Int) + 1 : Int) = ((k + 1 : Nat) : Int) from bo]; exact zy ax) (st (aS (Iw (k + 1)) (zb ?_))))
 exact ⟨_, by omega, k + 1, (d + 1), _, rfl, sSf, by omega, ⟨by rw [Wl (by omega), if_pos (show dnB p agg one (x.getD k default) = true from l), ← hcz.1], by omega⟩, (c.s2_b)⟩

set_option maxHeartbeats 8000000 in
theorem Xa {G : Nat → Prop} {W w : World} {Rs : List HP} {d : Dcl} {dd0 : Value} (hdd0 : RdS W G dd0 d.types) {dd1 : Value} (hdd1 : RdS W G dd1 d.projs) (od : d.Ok) {n : Int} (hn : InR n) {every : Int} (hevery : InR every) {vl : Value} {l : List Ev} (hl : RdS W G vl l) {vt : Value} {t : List Trn} (ht : RdS W G vt t) (hKN : RdS W G (.slice (some ⟨0, 0, none⟩) 6 6) kindsL) (hS0 : Sep G W Rs w) : Ret Tryz.prog 4 [.agg (d.cells dd0 dd1).toArray, .int .i64 (n), .int .i64 (every), vl, vt] w (fun r w' => r = (.bool true : Value) ∧ Sep G W Rs w') := by
 have hdd0s : _ * 24 ≤ _ := hdd0.small
 have hdd1s : _ * 40 ≤ _ := hdd1.small
 have hls : _ * 96 ≤ _ := hl.small
 have hts : _ * 32 ≤ _ := ht.small
 have hKNs : _ * 8 ≤ _ := hKN.small
 refine zk (args := [.agg (d.cells dd0 dd1).toArray, Iv n, Iv every, vl, vt]) Tryz.func4 rfl rfl ?_
 refine za (R0 fun _ => st (zS (v := .agg (d.cells dd0 dd1).toArray) rfl ?_))
 intro w3 b2 fW
 let bf := Blk b2 (d.cells dd0 dd1).toArray 25
 have fj := hS0.new fW
 refine st (aS (.bool false) (zb (za (za (R0 fun _ => st (zg (k := 2) kR uT rfl rfl (CellsAt.all (fj.b0)) (st (cL Tryz.call8 (JX (d := d) hdd0 hdd1 od fj) ?_))))))))
 rintro _ w7 ⟨b5, rfl, fY, fk⟩
 refine st (yK (a := b5) rfl (zb ?_))
 cases cb : !b5
 have hc9r := cb
 try simp only [zh] at cb
 have cc := fY (by simpa using cb)
 refine zf rfl (zn (za (R0 fun _ => st (mV (Iv n) ?_))))
 refine st (cL Tryz.call11 (Wx (x := n) (n := 64) hn yqi fk) ?_)
 rintro _ w12 ⟨bn, rfl, hq11, fq⟩
 have cM : InR ((1 + bn : Nat) : Int) := bo
 refine st (zO (r := ((1 + bn : Nat) : Int)) (k := .i64) (a := 1) (b := ((bn : Nat) : Int)) rfl rfl (by rw [show (1 + ((bn : Nat) : Int) : Int) = ((1 + bn : Nat) : Int) from bo]; exact zy cM) (st (mV vl (st (cL Tryz.call10 (Ji (n := ((1 + bn : Nat) : Int)) (l := l) (vl := vl) cM hl fq) ?_)))))
 rintro aZ fl ⟨_, cd, rfl, ho4017, ce, cN⟩
 have fr := cN.r0
 have hr21s : _ * 96 ≤ _ := fr.2
 refine st (aS aZ (zb (za ?_)))
 obtain ⟨fm, fs, z, cO, ft⟩ := cN.lend
 have cf := RowE.rdB fs z
 have hrd28s : _ * 96 ≤ _ := cf.small
 refine R0 fun _ => st (zg (k := 2) kR uT rfl rfl (CellsAt.all (cO.b0)) (st (mV (Iv every) (st (cL nR (VD (d := d) (every := every) (RdS.base hdd0 z) (RdS.base hdd1 z) od hevery (RdS.base hKN z) cO (cc.1)) ?_)))))
 rintro _ w32 ⟨F, aj, rfl, hev31, fu⟩
 refine st (aS (Ix F 0) (zb (za (za (R0 fun _ => st (mV (Ix F 0) (st (We (b := F) (o := 0) oR rfl (zb (zf rfl (zn (za (za (R0 fun _ => st (aS (Iv 0) (zb (zp (zZ (fun mq σ wq => ∃ (k : Nat) (E9 : List Ev) (ρ : Env), mq = t.length - k ∧ σ = ya ρ [(3, aZ), (4, vt), (5, Ix b2 0), (10, .bool false), (11, Ix F 0), (12, Iw k)] ∧ (k ≤ t.length) ∧ (∀ x ∈ E9, x ∈ cd) ∧ (E9.length ≤ 40) ∧ Sep fm fl ((BaseO F d aj E9) :: (Blk b2 (d.cells dd0 dd1).toArray 25) :: Rs) wq) ⟨0, [], _, rfl, sSf, Nat.zero_le _, (fun _ h => absurd h List.not_mem_nil), Nat.zero_le _, fu⟩ ?_))))))))))))))))))
 rintro m35 σ36 w34 ⟨k, E9, ρl1, rfl, rfl, hkk, fZ, hEl9, bV⟩
 refine za (za (zH kr (st (mV (Iw k) (st (mV vt (st (zG (n := t.length) tR rfl (RdS.base ht z).sl (st (zJ (k := .i64) (a := ((k : Nat) : Int)) (b := ((t.length : Nat) : Int)) rfl rfl (st (mV (.bool (decide (((k : Nat) : Int) < ((t.length : Nat) : Int)))) (stc (V := Iw k) rfl rfl (fun fv => ?_) ?_)))))))))))))
 have hl39 := tD fv
 exact mV (Iw k) ⟨rfl, rfl⟩
 refine stc (V := .bool (decide (((k : Nat) : Int) < 20))) rfl rfl (fun cP => ?_) ?_
 have hl41 := tD cP
 exact zJ (k := .i64) (a := ((k : Nat) : Int)) (b := 20) (if_pos cP) rfl ⟨rfl, rfl⟩
 refine st (zB (b := decide (((k : Nat) : Int) < ((t.length : Nat) : Int))) (b' := decide (((k : Nat) : Int) < 20)) rfl (fun hbp => (if_pos hbp)) (zb ?_))
 cases bW : (decide (((k : Nat) : Int) < ((t.length : Nat) : Int))) && (decide (((k : Nat) : Int) < 20))
 have hc42r := bW
 try simp only [zh] at bW
 refine zf rfl (zY (zR (za (R0 fun _ => st (cL uR (Wi  (RdS.base hKN z) bV) ?_)))))
 rintro _ w43 ⟨rfl, fw⟩
 refine st (aS (.bool true) (zb (zm (zT vR (show _ = (.bool true : Value) from rfl) ?_))))
 have fx := ft _ _ fw
 refine ⟨rfl, (fx.s3_)⟩
 try simp only [zh] at bW
 refine zi rfl (zn (za (zp (za (R0 fun _ => st (mV (Ix F 0) (st (mV aZ (st (mV vt (st (mV (Iw k) ?_))))))))))))
 have fy : k < t.length := bo
 refine st (ze (k := 4) (i := k) tR wR rfl (RdS.base ht z).sl rfl fy ?_)
 have bX : k < t.length := bo
 obtain ⟨cg, bB⟩ := (RdS.base ht z).trn bX
 rw [← zw default bX] at cg bB
 have eh := bV.cells cg ((RdS.base ht z).foot (ne_of_lt bX))
 refine st (zg (k := 4) Tryz.isAgg38 wR rfl rfl eh (st (cL Tryz.call14 (KU (l := cd) (vl := aZ) (t := (t.getD k default)) cf bB bV (om)) ?_)))
 rintro ga w55 ⟨_, A, rfl, hxl53, br, cQ⟩
 have fz := cQ.r0
 have hr57s : _ * 96 ≤ _ := fz.2
 obtain ⟨G58, fA, B, fB, fC⟩ := cQ.lend
 have ch := RowE.rdB fA B
 have hrd64s : _ * 96 ≤ _ := ch.small
 refine st (cL qT (xL (l := A) (vl := ga) ch (RdS.base (RdS.base hKN z) B) fB (cc.1) (cc.2) ((by first | exact ce.one br fZ | exact ce.one br (fun _ h => absurd h List.not_mem_nil))) ((by first | omega | (simp only [List.length_nil]; omega))) ((by omega))) ?_)
 rintro _ w65 ⟨rfl, fE⟩
 refine zb (za (R0 fun _ => st (mV (Ix F 0) (st (cL rR (Xq  fE) ?_)))))
 rintro ak fn ⟨_, rfl, cR⟩
 have fF := cR.r1
 have hr70s : _ * 120 ≤ _ := fF.2
 refine st (aS ak (zb (za ?_)))
 obtain ⟨fo, fG, E, fH, fI⟩ := (cR.mv1).lend
 have bs := RowE.rd fG
 have hrd78s : _ * 120 ≤ _ := bs.small
 have hrl9 := xA d A
 refine R0 fun _ => st (aS (Iv 0) (zb (zp (zZ (fun mq σ wq => ∃ (s : Nat) (ρ : Env), mq = d.projs.length - s ∧ σ = ya ρ [(3, aZ), (4, vt), (5, Ix b2 0), (10, .bool false), (11, Ix F 0), (12, Iw k), (13, ak), (14, Iw s)] ∧ (s ≤ d.projs.length) ∧ Sep fo fn ((BaseO F d aj A) :: (Blk b2 (d.cells dd0 dd1).toArray 25) :: Rs) wq) ⟨0, _, rfl, sSf, Nat.zero_le _, fH⟩ ?_))))
 rintro m80 σ81 gc ⟨s, ρl2, rfl, rfl, hkp9, bY⟩
 refine za (za (R0 fun _ => st (mV (Iw s) (st (xv rfl (st (lD dd1 tT rfl (zd (bY.b1) rfl) (st (zG (n := d.projs.length) rT rfl (RdS.base (RdS.base (RdS.base hdd1 z) B) E).sl (st (zJ (k := .i64) (a := ((s : Nat) : Int)) (b := ((d.projs.length : Nat) : Int)) rfl rfl (zb ?_))))))))))))
 cases bg : decide (((s : Nat) : Int) < ((d.projs.length : Nat) : Int))
 have hc83r := bg
 have bg := fD bg
 refine zf rfl (zY (zR (R0 fun _ => st (mV (Iw k) ?_))))
 have fJ : InR ((k + 1 : Nat) : Int) := bo
 refine st (zO (r := ((k + 1 : Nat) : Int)) (k := .i64) (a := ((k : Nat) : Int)) (b := 1) rfl rfl (by rw [show (((k : Nat) : Int) + 1 : Int) = ((k + 1 : Nat) : Int) from bo]; exact zy fJ) (st (aS (Iw (k + 1)) (zb ?_))))
 have fK := fI _ _ bY
 have fL := fC _ _ fK
 have fM : Sep fm fl ((BaseO F d aj A) :: bf :: Rs) gc := fL.sel 4 [2, 3] (Nat.le_add_left _ _) rfl rfl
 exact ⟨_, by omega, k + 1, A, _, rfl, sSf, by omega, br, by omega, fM⟩
 have bg := tD bg
 refine zi rfl (zn (za (zp (za (R0 fun _ => st (mV (Ix F 0) (st (mV (Iw s) (st (cL lR (WY (q := ((s : Nat) : Int)) om bY (om)) ?_))))))))))
 rintro u bp ⟨_, rfl, bZ⟩
 have fN := bZ.r1
 have hr91s : _ * 24 ≤ _ := fN.2
 refine st (aS u (zb (za ?_)))
 have ay := Uo (d := d) (l := A) (i := s) cc.2 om
 obtain ⟨m, gd⟩ : ∃ R, (yJ d A ((s : Nat) : Int)) = R := ⟨_, rfl⟩
 rw [gd] at ay bZ
 have fO : Sep fo fn ((BaseO F d aj A) :: (RowE (α := Row) own 44 u m) :: bf :: Rs) bp := bZ
 obtain ⟨bC, fP, C, fQ, fR⟩ := (fO.mv1).lend
 have y := RowE.rd fP
 have hrd100s : _ * 24 ≤ _ := y.small
 have fS := ay.len
 rw [xA] at fS
 refine R0 fun _ => st (aS (Iv 0) (zb (za (za (R0 fun _ => st (aS (Iv 0) (zb (zp (zZ (fun mq σ wq => ∃ (c : Nat) (D : Int) (ρ : Env), mq = m.length - c ∧ σ = ya ρ [(3, aZ), (4, vt), (5, Ix b2 0), (10, .bool false), (11, Ix F 0), (12, Iw k), (13, ak), (14, Iw s), (15, u), (16, Iv D), (17, Iw c)] ∧ (c ≤ m.length) ∧ (D = xX (m.take c) ∧ 0 ≤ D ∧ D ≤ 1000 * (c : Int)) ∧ Sep bC bp ((BaseO F d aj A) :: (Blk b2 (d.cells dd0 dd1).toArray 25) :: Rs) wq) ⟨0, 0, _, rfl, sSf, Nat.zero_le _, ⟨rfl, by decide, by decide⟩, fQ⟩ ?_)))))))))
 rintro m102 σ103 w101 ⟨c, D, ρl3, rfl, rfl, hi9, cS, az⟩
 refine za (za (R0 fun _ => st (mV (Iw c) (st (mV u (st (zG (n := m.length) kT rfl y.sl (st (zJ (k := .i64) (a := ((c : Nat) : Int)) (b := ((m.length : Nat) : Int)) rfl rfl (zb ?_))))))))))
 cases aA : decide (((c : Nat) : Int) < ((m.length : Nat) : Int))
 have hc105r := aA
 have aA := fD aA
 have fT : c = m.length := by omega
 have hsx9 : D = ((xl (zu d A) (d.projs.getD s default) 0 false : Nat) : Int) := by rw [cS.1, fT, List.take_length]; exact ay.sum
 refine zf rfl (zY (zR (za (R0 fun _ => st (mV (Iv D) (st (mV ak (st (xv rfl (st (lD dd1 tT rfl (zd (az.b1) rfl) (st (mV (Iw s) ?_)))))))))))))
 have ei : s < d.projs.length := bo
 refine st (ze (k := 5) (i := s) rT pT rfl (RdS.base (RdS.base (RdS.base (RdS.base hdd1 z) B) E) C).sl rfl ei ?_)
 have ci : s < d.projs.length := bo
 obtain ⟨cT, cz⟩ := (RdS.base (RdS.base (RdS.base (RdS.base hdd1 z) B) E) C).prjD ci
 have cU := az.cells cT ((RdS.base (RdS.base (RdS.base (RdS.base hdd1 z) B) E) C).foot (ne_of_lt ci))
 refine st (zg (k := 5) kY pT rfl rfl cU (st (cL lY (Va (x := (zu d A)) (vx := ak) (p := (d.projs.getD s default)) (agg := 0) (one := false) (RdS.base bs C) cz dc az) ?_)))
 rintro _ w110 ⟨rfl, ej⟩
 refine st (yw (k := .i64) (a := D) (b := (((xl (zu d A) (d.projs.getD s default) 0 false) : Nat) : Int)) rfl rfl ?_)
 have cV : (!decide (D = (((xl (zu d A) (d.projs.getD s default) 0 false) : Nat) : Int))) = false := (by simp only [Bool.not_eq_false', decide_eq_true_eq]; omega)
 rw [cV]
 refine zb (zf rfl (zn (R0 fun _ => st (mV (Iw s) ?_))))
 have ek : InR ((s + 1 : Nat) : Int) := bo
 refine st (zO (r := ((s + 1 : Nat) : Int)) (k := .i64) (a := ((s : Nat) : Int)) (b := 1) rfl rfl (by rw [show (((s : Nat) : Int) + 1 : Int) = ((s + 1 : Nat) : Int) from bo]; exact zy ek) (st (aS (Iw (s + 1)) (zb ?_))))
 have el := fR _ _ ej
 exact ⟨_, by omega, s + 1, _, rfl, sSf, by omega, (el.s3_bc)⟩
 have aA := tD aA
 have fU := ay.cnt c om
 rw [xA] at fU
 have hri9 := fun h => ay.ris c h om
 have hva9 := fun h => ay.val h c om
 have hon9 := fun h => ay.one h c om
 refine zi rfl (zn (za (zp (za (R0 fun _ => st (mV (Iv D) (st (mV u (st (mV (Iw c) ?_))))))))))
 have em : c < m.length := bo
 refine st (ze (k := 3) (i := c) kT mT rfl y.sl rfl em (st (WK rfl ?_)))
 have K : c < m.length := bo
 obtain ⟨H, bq⟩ := y.row K
 rw [← zw default K] at H bq
 have cW := az.cells H (y.foot (ne_of_lt K))
 refine st (lD (Iv ((m.getD c default).count)) lT rfl (cW.get (j := 2) rfl) ?_)
 have en : InR (D + ((m.getD c default).count)) := by omega
 refine st (zO (r := D + ((m.getD c default).count)) (k := .i64) (a := D) (b := (m.getD c default).count) rfl rfl (zy en) (st (aS (Iv (D + ((m.getD c default).count))) (zb (za (za ?_))))))
 refine WD4 (WF [fun vals wq => Sep bC bp ((BaseO F d aj A) :: bf :: Rs) wq]) (AF [Vl 0 (u), Vl 1 (Iw c), Vl 2 (Ix (sb u) (so u + c * 3)), Vl 3 (Ix (sb u) (so u + c * 3 + 2)), Vl 4 (Iv ((m.getD c default).count)), Vl 5 (.bool (decide (((m.getD c default).count) < 1))), Vl 6 (.bool (decide (((m.getD c default).count) < 1))), Vl 7 (if (decide (((m.getD c default).count) < 1)) = false then Iw c else undef), Vl 8 (if (decide (((m.getD c default).count) < 1)) = false then .bool (decide (0 < ((c : Nat) : Int))) else undef), Vl 9 (if (decide (((m.getD c default).count) < 1)) = false then .bool (decide (0 < ((c : Nat) : Int))) else undef), Vl 10 (if ((decide (((m.getD c default).count) < 1)) = false) ∧ (decide (0 < ((c : Nat) : Int))) = true then u else undef), Vl 11 (if ((decide (((m.getD c default).count) < 1)) = false) ∧ (decide (0 < ((c : Nat) : Int))) = true then Iw c else undef), Vl 12 (if ((decide (((m.getD c default).count) < 1)) = false) ∧ (decide (0 < ((c : Nat) : Int))) = true then Iw (c - 1) else undef), Vl 13 (if ((decide (((m.getD c default).count) < 1)) = false) ∧ (decide (0 < ((c : Nat) : Int))) = true then Ix (sb u) (so u + (c - 1) * 3) else undef), Vl 14 (if ((decide (((m.getD c default).count) < 1)) = false) ∧ (decide (0 < ((c : Nat) : Int))) = true then Ix (sb u) (so u + (c - 1) * 3) else undef), Vl 15 (if ((decide (((m.getD c default).count) < 1)) = false) ∧ (decide (0 < ((c : Nat) : Int))) = true then Iv ((m.getD (c - 1) default).group) else undef), Vl 16 (if ((decide (((m.getD c default).count) < 1)) = false) ∧ (decide (0 < ((c : Nat) : Int))) = true then u else undef), Vl 17 (if ((decide (((m.getD c default).count) < 1)) = false) ∧ (decide (0 < ((c : Nat) : Int))) = true then Iw c else undef), Vl 18 (if ((decide (((m.getD c default).count) < 1)) = false) ∧ (decide (0 < ((c : Nat) : Int))) = true then Ix (sb u) (so u + c * 3) else undef), Vl 19 (if ((decide (((m.getD c default).count) < 1)) = false) ∧ (decide (0 < ((c : Nat) : Int))) = true then Ix (sb u) (so u + c * 3) else undef), Vl 20 (if ((decide (((m.getD c default).count) < 1)) = false) ∧ (decide (0 < ((c : Nat) : Int))) = true then Iv ((m.getD c default).group) else undef), Vl 21 (if ((decide (((m.getD c default).count) < 1)) = false) ∧ (decide (0 < ((c : Nat) : Int))) = true then .bool (decide (((m.getD c default).group) ≤ ((m.getD (c - 1) default).group))) else undef), Vl 22 (if (decide (((m.getD c default).count) < 1)) = false then .bool ((decide (0 < ((c : Nat) : Int))) && (decide (((m.getD c default).group) ≤ ((m.getD (c - 1) default).group)))) else undef), Vl 23 (.bool ((decide (((m.getD c default).count) < 1)) || ((decide (0 < ((c : Nat) : Int))) && (decide (((m.getD c default).group) ≤ ((m.getD (c - 1) default).group)))))), Vl 24 (.bool ((decide (((m.getD c default).count) < 1)) || ((decide (0 < ((c : Nat) : Int))) && (decide (((m.getD c default).group) ≤ ((m.getD (c - 1) default).group)))))), Vl 25 (if ((decide (((m.getD c default).count) < 1)) || ((decide (0 < ((c : Nat) : Int))) && (decide (((m.getD c default).group) ≤ ((m.getD (c - 1) default).group))))) = false then Ix b2 1 else undef), Vl 26 (if ((decide (((m.getD c default).count) < 1)) || ((decide (0 < ((c : Nat) : Int))) && (decide (((m.getD c default).group) ≤ ((m.getD (c - 1) default).group))))) = false then dd1 else undef), Vl 27 (if ((decide (((m.getD c default).count) < 1)) || ((decide (0 < ((c : Nat) : Int))) && (decide (((m.getD c default).group) ≤ ((m.getD (c - 1) default).group))))) = false then Iw s else undef), Vl 28 (if ((decide (((m.getD c default).count) < 1)) || ((decide (0 < ((c : Nat) : Int))) && (decide (((m.getD c default).group) ≤ ((m.getD (c - 1) default).group))))) = false then Ix (sb dd1) (so dd1 + s * 5) else undef), Vl 29 (if ((decide (((m.getD c default).count) < 1)) || ((decide (0 < ((c : Nat) : Int))) && (decide (((m.getD c default).group) ≤ ((m.getD (c - 1) default).group))))) = false then Ix (sb dd1) (so dd1 + s * 5 + 4) else undef), Vl 30 (if ((decide (((m.getD c default).count) < 1)) || ((decide (0 < ((c : Nat) : Int))) && (decide (((m.getD c default).group) ≤ ((m.getD (c - 1) default).group))))) = false then Iv ((d.projs.getD s default).pmake) else undef), Vl 31 (if ((decide (((m.getD c default).count) < 1)) || ((decide (0 < ((c : Nat) : Int))) && (decide (((m.getD c default).group) ≤ ((m.getD (c - 1) default).group))))) = false then .bool (decide (((d.projs.getD s default).pmake) = 1)) else undef), Vl 32 (if ((decide (((m.getD c default).count) < 1)) || ((decide (0 < ((c : Nat) : Int))) && (decide (((m.getD c default).group) ≤ ((m.getD (c - 1) default).group))))) = false then .bool (decide (((d.projs.getD s default).pmake) = 1)) else undef), Vl 33 (if (((decide (((m.getD c default).count) < 1)) || ((decide (0 < ((c : Nat) : Int))) && (decide (((m.getD c default).group) ≤ ((m.getD (c - 1) default).group))))) = false) ∧ (decide (((d.projs.getD s default).pmake) = 1)) = true then u else undef), Vl 34 (if (((decide (((m.getD c default).count) < 1)) || ((decide (0 < ((c : Nat) : Int))) && (decide (((m.getD c default).group) ≤ ((m.getD (c - 1) default).group))))) = false) ∧ (decide (((d.projs.getD s default).pmake) = 1)) = true then Iw c else undef), Vl 35 (if (((decide (((m.getD c default).count) < 1)) || ((decide (0 < ((c : Nat) : Int))) && (decide (((m.getD c default).group) ≤ ((m.getD (c - 1) default).group))))) = false) ∧ (decide (((d.projs.getD s default).pmake) = 1)) = true then Ix (sb u) (so u + c * 3) else undef), Vl 36 (if (((decide (((m.getD c default).count) < 1)) || ((decide (0 < ((c : Nat) : Int))) && (decide (((m.getD c default).group) ≤ ((m.getD (c - 1) default).group))))) = false) ∧ (decide (((d.projs.getD s default).pmake) = 1)) = true then Ix (sb u) (so u + c * 3 + 1) else undef), Vl 37 (if (((decide (((m.getD c default).count) < 1)) || ((decide (0 < ((c : Nat) : Int))) && (decide (((m.getD c default).group) ≤ ((m.getD (c - 1) default).group))))) = false) ∧ (decide (((d.projs.getD s default).pmake) = 1)) = true then Iv ((m.getD c default).value) else undef), Vl 38 (if (((decide (((m.getD c default).count) < 1)) || ((decide (0 < ((c : Nat) : Int))) && (decide (((m.getD c default).group) ≤ ((m.getD (c - 1) default).group))))) = false) ∧ (decide (((d.projs.getD s default).pmake) = 1)) = true then u else undef), Vl 39 (if (((decide (((m.getD c default).count) < 1)) || ((decide (0 < ((c : Nat) : Int))) && (decide (((m.getD c default).group) ≤ ((m.getD (c - 1) default).group))))) = false) ∧ (decide (((d.projs.getD s default).pmake) = 1)) = true then Iw c else undef), Vl 40 (if (((decide (((m.getD c default).count) < 1)) || ((decide (0 < ((c : Nat) : Int))) && (decide (((m.getD c default).group) ≤ ((m.getD (c - 1) default).group))))) = false) ∧ (decide (((d.projs.getD s default).pmake) = 1)) = true then Ix (sb u) (so u + c * 3) else undef), Vl 41 (if (((decide (((m.getD c default).count) < 1)) || ((decide (0 < ((c : Nat) : Int))) && (decide (((m.getD c default).group) ≤ ((m.getD (c - 1) default).group))))) = false) ∧ (decide (((d.projs.getD s default).pmake) = 1)) = true then Ix (sb u) (so u + c * 3 + 2) else undef), Vl 42 (if (((decide (((m.getD c default).count) < 1)) || ((decide (0 < ((c : Nat) : Int))) && (decide (((m.getD c default).group) ≤ ((m.getD (c - 1) default).group))))) = false) ∧ (decide (((d.projs.getD s default).pmake) = 1)) = true then Iv ((m.getD c default).count) else undef), Vl 43 (if (((decide (((m.getD c default).count) < 1)) || ((decide (0 < ((c : Nat) : Int))) && (decide (((m.getD c default).group) ≤ ((m.getD (c - 1) default).group))))) = false) ∧ (decide (((d.projs.getD s default).pmake) = 1)) = true then .bool (!decide (((m.getD c default).value) = ((m.getD c default).count))) else undef), Vl 44 (if ((decide (((m.getD c default).count) < 1)) || ((decide (0 < ((c : Nat) : Int))) && (decide (((m.getD c default).group) ≤ ((m.getD (c - 1) default).group))))) = false then .bool ((decide (((d.projs.getD s default).pmake) = 1)) && (!decide (((m.getD c default).value) = ((m.getD c default).count)))) else undef), Vl 45 (.bool false)]) [[], [], [0, 1], [0, 1, 2], (rg 4), (rg 5), (rg 6), (rg 7), (rg 8), (rg 9), (rg 10), (rg 10), [0, 1, 2, 3, 4, 5, 6, 7, 8, 9, 11], (rg 13), (rg 14), (rg 15), (rg 10), (rg 10), [0, 1, 2, 3, 4, 5, 6, 7, 8, 9, 16, 17], [0, 1, 2, 3, 4, 5, 6, 7, 8, 9, 16, 17, 18], [0, 1, 2, 3, 4, 5, 6, 7, 8, 9, 16, 17, 18, 19], (rg 21), (rg 22), (rg 23), (rg 24), (rg 25), (rg 26), (rg 25), (rg 28), (rg 29), (rg 30), (rg 31), (rg 32), (rg 33), (rg 33), (rg 35), (rg 36), (rg 37), (rg 33), (rg 33), [0, 1, 2, 3, 4, 5, 6, 7, 8, 9, 10, 11, 12, 13, 14, 15, 16, 17, 18, 19, 20, 21, 22, 23, 24, 25, 26, 27, 28, 29, 30, 31, 32, 38, 39], [0, 1, 2, 3, 4, 5, 6, 7, 8, 9, 10, 11, 12, 13, 14, 15, 16, 17, 18, 19, 20, 21, 22, 23, 24, 25, 26, 27, 28, 29, 30, 31, 32, 38, 39, 40], [0, 1, 2, 3, 4, 5, 6, 7, 8, 9, 10, 11, 12, 13, 14, 15, 16, 17, 18, 19, 20, 21, 22, 23, 24, 25, 26, 27, 28, 29, 30, 31, 32, 38, 39, 40, 41], (rg 43), (rg 44), (rg 45)] [] [(0, 0), (0, 0), (0, 0), (0, 0), (0, 0), (0, 0), (0, 0), (0, 0), (0, 0), (0, 0), (0, 0), (0, 0), (0, 0), (0, 0), (0, 0), (0, 0), (0, 0), (0, 0), (0, 0), (0, 0), (0, 0), (0, 0), (0, 0), (0, 0), (0, 0), (0, 0), (0, 0), (0, 0), (0, 0), (0, 0), (0, 0), (0, 0), (0, 0), (0, 0), (0, 0), (0, 0), (0, 0), (0, 0), (0, 0), (0, 0), (0, 0), (0, 0), (0, 0), (0, 0), (0, 0), (0, 0)] az ⟨fun _ _ _ _ _ _ _ => obl rfl (mV u dR), fun _ _ _ _ _ _ _ => obl rfl (mV (Iw c) dR), ?_, fun _ _ _ _ _ _ eo => obl rfl (WK (eo 2 dc) dR), ?_, ob1 0 fun _ _ _ er => obl rfl (zJ (k := .i64) (a := (m.getD c default).count) (b := 1) (er 4 dc) rfl dR), fun _ _ _ _ _ _ es => obl rfl (zq (v := .bool (decide (((m.getD c default).count) < 1))) (es 5 dc) dR), ?_, ?_, ?_, ?_, ?_, ?_, ?_, ?_, ?_, ?_, ?_, ?_, ?_, ?_, ?_, ?_, fun _ _ _ _ _ _ cj => obl rfl (zx (b := decide (((m.getD c default).count) < 1)) (b' := (decide (0 < ((c : Nat) : Int))) && (decide (((m.getD c default).group) ≤ ((m.getD (c - 1) default).group)))) (cj 6 dc) (fun hbp => (Eq.trans (cj 22 dc) (if_pos hbp))) dR), fun _ _ _ _ _ _ et => obl rfl (zq (v := .bool ((decide (((m.getD c default).count) < 1)) || ((decide (0 < ((c : Nat) : Int))) && (decide (((m.getD c default).group) ≤ ((m.getD (c - 1) default).group)))))) (et 23 dc) dR), ?_, ?_, ?_, ?_, ?_, ?_, ?_, ?_, ?_, ?_, ?_, ?_, ?_, ?_, ?_, ?_, ?_, ?_, ?_, ?_, ?_, trivial⟩ ?_
 refine ob1 0 fun _ _ _ ck => (obl rfl ?_)
 have eu : c < m.length := bo
 exact ze (k := 3) (i := c) kT mT (ck 0 dc) y.sl (ck 1 dc) eu dR
 refine ob1 0 fun _ _ (ew : Sep _ _ _ _) ex => (obl rfl ?_)
 have cX := ew.cells H (y.foot (ne_of_lt K))
 exact lD (Iv ((m.getD c default).count)) lT (ex 3 dc) (cX.get (j := 2) rfl) dR
 refine fun _ _ _ _ _ _ ey => (zz rfl rfl (ey 6 dc) (fun ba => ?_) (fun ba => fun e g _ => ⟨trivial, g.trans (if_neg ba).symm⟩))
 have hl676 := fD ba
 exact mV (Iw c) (fun e g _ => ⟨rfl, g.trans (if_pos ba).symm⟩)
 refine ob1 0 fun _ _ _ cl => (zz rfl rfl (cl 6 dc) (fun aB => ?_) (fun aB => fun e g _ => ⟨trivial, g.trans (if_neg aB).symm⟩))
 have hl687 := fD aB
 exact yS (k := .i64) (a := ((c : Nat) : Int)) (b := 0) (Eq.trans (cl 7 dc) (if_pos aB)) rfl (fun e g _ => ⟨rfl, g.trans (if_pos aB).symm⟩)
 refine fun _ _ _ _ _ _ cm => (zz rfl rfl (cm 6 dc) (fun aC => ?_) (fun aC => fun e g _ => ⟨trivial, g.trans (if_neg aC).symm⟩))
 have hl697 := fD aC
 exact zq (v := .bool (decide (0 < ((c : Nat) : Int)))) (Eq.trans (cm 8 dc) (if_pos aC)) (fun e g _ => ⟨rfl, g.trans (if_pos aC).symm⟩)
 refine fun _ _ _ _ _ _ ez => (yy rfl rfl (ez 9 dc) (fun aD => ?_) (fun aD => fun e g _ => ⟨trivial, g.trans (if_neg aD).symm⟩))
 have hl706 := fD aD.1
 have hl707 := tD aD.2
 exact mV u (fun e g _ => ⟨rfl, g.trans (if_pos aD).symm⟩)
 refine fun _ _ _ _ _ _ eA => (yy rfl rfl (eA 9 dc) (fun aE => ?_) (fun aE => fun e g _ => ⟨trivial, g.trans (if_neg aE).symm⟩))
 have hl716 := fD aE.1
 have hl717 := tD aE.2
 exact mV (Iw c) (fun e g _ => ⟨rfl, g.trans (if_pos aE).symm⟩)
 refine ob1 0 fun _ _ _ cn => (yy rfl rfl (cn 9 dc) (fun ad => ?_) (fun ad => fun e g _ => ⟨trivial, g.trans (if_neg ad).symm⟩))
 have hl728 := fD ad.1
 have hl729 := tD ad.2
 have eB : InR ((c - 1 : Nat) : Int) := bo
 exact ZU (r := ((c - 1 : Nat) : Int)) (k := .i64) (a := ((c : Nat) : Int)) (b := 1) (Eq.trans (cn 11 (by decide)) (if_pos ⟨ad.1, ad.2⟩)) rfl (by rw [show (((c : Nat) : Int) - 1 : Int) = ((c - 1 : Nat) : Int) from bo]; exact zy eB) (fun e g _ => ⟨rfl, g.trans (if_pos ad).symm⟩)
 refine ob1 0 fun _ _ _ bt => (yy rfl rfl (bt 9 dc) (fun L => ?_) (fun L => fun e g _ => ⟨trivial, g.trans (if_neg L).symm⟩))
 have hl742 := fD L.1
 have hl743 := tD L.2
 have eC : c - 1 < m.length := bo
 exact ze (k := 3) (i := c - 1) kT mT (Eq.trans (bt 10 dc) (if_pos ⟨L.1, L.2⟩)) y.sl (Eq.trans (bt 12 dc) (if_pos ⟨L.1, L.2⟩)) eC (fun e g _ => ⟨rfl, g.trans (if_pos L).symm⟩)
 refine fun _ _ _ _ _ _ co => (yy rfl rfl (co 9 dc) (fun ae => ?_) (fun ae => fun e g _ => ⟨trivial, g.trans (if_neg ae).symm⟩))
 have hl754 := fD ae.1
 have hl755 := tD ae.2
 exact Ub (Eq.trans (co 13 dc) (if_pos ⟨ae.1, ae.2⟩)) (fun e g _ => ⟨rfl, g.trans (if_pos ae).symm⟩)
 refine ob1 0 fun _ _ (eD : Sep _ _ _ _) cp => (yy rfl rfl (cp 9 dc) (fun af => ?_) (fun af => fun e g _ => ⟨trivial, g.trans (if_neg af).symm⟩))
 have hl766 := fD af.1
 have hl767 := tD af.2
 have bu : c - 1 < m.length := bo
 obtain ⟨bD, cA⟩ := y.row bu
 rw [← zw default bu] at bD cA
 have cY := eD.cells bD (y.foot (ne_of_lt bu))
 exact lD (Iv ((m.getD (c - 1) default).group)) lT (Eq.trans (cp 14 dc) (if_pos ⟨af.1, af.2⟩)) (cY.get (j := 0) rfl) (fun e g _ => ⟨rfl, g.trans (if_pos af).symm⟩)
 refine fun _ _ _ _ _ _ eE => (yy rfl rfl (eE 9 dc) (fun aF => ?_) (fun aF => fun e g _ => ⟨trivial, g.trans (if_neg aF).symm⟩))
 have hl779 := fD aF.1
 have hl780 := tD aF.2
 exact mV u (fun e g _ => ⟨rfl, g.trans (if_pos aF).symm⟩)
 refine fun _ _ _ _ _ _ eF => (yy rfl rfl (eF 9 dc) (fun aG => ?_) (fun aG => fun e g _ => ⟨trivial, g.trans (if_neg aG).symm⟩))
 have hl789 := fD aG.1
 have hl790 := tD aG.2
 exact mV (Iw c) (fun e g _ => ⟨rfl, g.trans (if_pos aG).symm⟩)
 refine ob1 0 fun _ _ _ bv => (yy rfl rfl (bv 9 dc) (fun M => ?_) (fun M => fun e g _ => ⟨trivial, g.trans (if_neg M).symm⟩))
 have hl802 := fD M.1
 have hl803 := tD M.2
 have eG : c < m.length := bo
 exact ze (k := 3) (i := c) kT mT (Eq.trans (bv 16 dc) (if_pos ⟨M.1, M.2⟩)) y.sl (Eq.trans (bv 17 dc) (if_pos ⟨M.1, M.2⟩)) eG (fun e g _ => ⟨rfl, g.trans (if_pos M).symm⟩)
 refine fun _ _ _ _ _ _ cq => (yy rfl rfl (cq 9 dc) (fun ag => ?_) (fun ag => fun e g _ => ⟨trivial, g.trans (if_neg ag).symm⟩))
 have hl814 := fD ag.1
 have hl815 := tD ag.2
 exact Ub (Eq.trans (cq 18 dc) (if_pos ⟨ag.1, ag.2⟩)) (fun e g _ => ⟨rfl, g.trans (if_pos ag).symm⟩)
 refine ob1 0 fun _ _ (eH : Sep _ _ _ _) cr => (yy rfl rfl (cr 9 dc) (fun ah => ?_) (fun ah => fun e g _ => ⟨trivial, g.trans (if_neg ah).symm⟩))
 have hl826 := fD ah.1
 have hl827 := tD ah.2
 have cZ := eH.cells H (y.foot (ne_of_lt K))
 exact lD (Iv ((m.getD c default).group)) lT (Eq.trans (cr 19 dc) (if_pos ⟨ah.1, ah.2⟩)) (cZ.get (j := 0) rfl) (fun e g _ => ⟨rfl, g.trans (if_pos ah).symm⟩)
 refine ob1 0 fun _ _ _ bw => (yy rfl rfl (bw 9 dc) (fun N => ?_) (fun N => fun e g _ => ⟨trivial, g.trans (if_neg N).symm⟩))
 have hl841 := fD N.1
 have hl842 := tD N.2
 exact xS (k := .i64) (a := (m.getD (c - 1) default).group) (b := (m.getD c default).group) (Eq.trans (bw 15 dc) (if_pos ⟨N.1, N.2⟩)) (Eq.trans (bw 20 dc) (if_pos ⟨N.1, N.2⟩)) (fun e g _ => ⟨rfl, g.trans (if_pos N).symm⟩)
 refine fun _ _ _ _ _ _ bx => (zz rfl rfl (bx 6 dc) (fun aw => ?_) (fun aw => fun e g _ => ⟨trivial, g.trans (if_neg aw).symm⟩))
 have hl853 := fD aw
 exact zB (b := decide (0 < ((c : Nat) : Int))) (b' := decide (((m.getD c default).group) ≤ ((m.getD (c - 1) default).group))) (Eq.trans (bx 9 dc) (if_pos aw)) (fun hbp => (Eq.trans (bx 21 dc) (if_pos ⟨aw, hbp⟩))) (fun e g _ => ⟨rfl, g.trans (if_pos aw).symm⟩)
 refine fun _ _ _ _ _ _ eI => (zz rfl rfl (eI 24 dc) (fun bb => ?_) (fun bb => fun e g _ => ⟨trivial, g.trans (if_neg bb).symm⟩))
 have eJ := bb
 try simp only [zh] at eJ
 exact xv rfl (fun e g _ => ⟨rfl, g.trans (if_pos bb).symm⟩)
 refine ob1 0 fun _ _ (eK : Sep _ _ _ _) cs => (zz rfl rfl (cs 24 dc) (fun aH => ?_) (fun aH => fun e g _ => ⟨trivial, g.trans (if_neg aH).symm⟩))
 have eL := aH
 try simp only [zh] at eL
 exact lD dd1 tT (Eq.trans (cs 25 dc) (if_pos aH)) (zd (eK.b1) rfl) (fun e g _ => ⟨rfl, g.trans (if_pos aH).symm⟩)
 refine fun _ _ _ _ _ _ eM => (zz rfl rfl (eM 24 dc) (fun bc => ?_) (fun bc => fun e g _ => ⟨trivial, g.trans (if_neg bc).symm⟩))
 have eN := bc
 try simp only [zh] at eN
 exact mV (Iw s) (fun e g _ => ⟨rfl, g.trans (if_pos bc).symm⟩)
 refine ob1 0 fun _ _ _ bz => (zz rfl rfl (bz 24 dc) (fun ax => ?_) (fun ax => fun e g _ => ⟨trivial, g.trans (if_neg ax).symm⟩))
 have eO := ax
 try simp only [zh] at eO
 have eP : s < d.projs.length := bo
 exact ze (k := 5) (i := s) rT pT (Eq.trans (bz 26 dc) (if_pos ax)) (RdS.base (RdS.base (RdS.base (RdS.base hdd1 z) B) E) C).sl (Eq.trans (bz 27 dc) (if_pos ax)) eP (fun e g _ => ⟨rfl, g.trans (if_pos ax).symm⟩)
 refine fun _ _ _ _ _ _ ct => (zz rfl rfl (ct 24 dc) (fun aI => ?_) (fun aI => fun e g _ => ⟨trivial, g.trans (if_neg aI).symm⟩))
 have eQ := aI
 try simp only [zh] at eQ
 exact Us (Eq.trans (ct 28 dc) (if_pos aI)) (fun e g _ => ⟨rfl, g.trans (if_pos aI).symm⟩)
 refine ob1 0 fun _ _ (eR : Sep _ _ _ _) cu => (zz rfl rfl (cu 24 dc) (fun aJ => ?_) (fun aJ => fun e g _ => ⟨trivial, g.trans (if_neg aJ).symm⟩))
 have eS := aJ
 try simp only [zh] at eS
 have cv : s < d.projs.length := bo
 obtain ⟨da, hoke932⟩ := (RdS.base (RdS.base (RdS.base (RdS.base hdd1 z) B) E) C).prjD cv
 have db := eR.cells da ((RdS.base (RdS.base (RdS.base (RdS.base hdd1 z) B) E) C).foot (ne_of_lt cv))
 exact lD (Iv ((d.projs.getD s default).pmake)) lT (Eq.trans (cu 29 dc) (if_pos aJ)) (db.get (j := 4) rfl) (fun e g _ => ⟨rfl, g.trans (if_pos aJ).symm⟩)
 refine ob1 0 fun _ _ _ cw => (zz rfl rfl (cw 24 dc) (fun aK => ?_) (fun aK => fun e g _ => ⟨trivial, g.trans (if_neg aK).symm⟩))
 have eT := aK
 try simp only [zh] at eT
 exact zX (k := .i64) (a := (d.projs.getD s default).pmake) (b := 1) (Eq.trans (cw 30 dc) (if_pos aK)) rfl (fun e g _ => ⟨rfl, g.trans (if_pos aK).symm⟩)
 refine fun _ _ _ _ _ _ cx => (zz rfl rfl (cx 24 dc) (fun aL => ?_) (fun aL => fun e g _ => ⟨trivial, g.trans (if_neg aL).symm⟩))
 have eU := aL
 try simp only [zh] at eU
 exact zq (v := .bool (decide (((d.projs.getD s default).pmake) = 1))) (Eq.trans (cx 31 dc) (if_pos aL)) (fun e g _ => ⟨rfl, g.trans (if_pos aL).symm⟩)
 refine fun _ _ _ _ _ _ eV => (yy rfl rfl (eV 32 dc) (fun aM => ?_) (fun aM => fun e g _ => ⟨trivial, g.trans (if_neg aM).symm⟩))
 have eW := aM.1
 try simp only [zh] at eW
 have hl965 := tD aM.2
 exact mV u (fun e g _ => ⟨rfl, g.trans (if_pos aM).symm⟩)
 refine fun _ _ _ _ _ _ eX => (yy rfl rfl (eX 32 dc) (fun aN => ?_) (fun aN => fun e g _ => ⟨trivial, g.trans (if_neg aN).symm⟩))
 have eY := aN.1
 try simp only [zh] at eY
 have hl975 := tD aN.2
 exact mV (Iw c) (fun e g _ => ⟨rfl, g.trans (if_pos aN).symm⟩)
 refine ob1 0 fun _ _ _ bA => (yy rfl rfl (bA 32 dc) (fun O => ?_) (fun O => fun e g _ => ⟨trivial, g.trans (if_neg O).symm⟩))
 have eZ := O.1
 try simp only [zh] at eZ
 have hl988 := tD O.2
 have fa : c < m.length := bo
 exact ze (k := 3) (i := c) kT mT (Eq.trans (bA 33 dc) (if_pos ⟨O.1, O.2⟩)) y.sl (Eq.trans (bA 34 dc) (if_pos ⟨O.1, O.2⟩)) fa (fun e g _ => ⟨rfl, g.trans (if_pos O).symm⟩)
 refine fun _ _ _ _ _ _ cy => (yy rfl rfl (cy 32 dc) (fun ai => ?_) (fun ai => fun e g _ => ⟨trivial, g.trans (if_neg ai).symm⟩))
 have fb := ai.1
 try simp only [zh] at fb
 have hl1000 := tD ai.2
 exact zaw (Eq.trans (cy 35 dc) (if_pos ⟨ai.1, ai.2⟩)) (fun e g _ => ⟨rfl, g.trans (if_pos ai).symm⟩)
 refine ob1 0 fun _ _ (dd : Sep _ _ _ _) bE => (yy rfl rfl (bE 32 dc) (fun P => ?_) (fun P => fun e g _ => ⟨trivial, g.trans (if_neg P).symm⟩))
 have de := P.1
 try simp only [zh] at de
 have hl1012 := tD P.2
 have cB := dd.cells H (y.foot (ne_of_lt K))
 exact lD (Iv ((m.getD c default).value)) lT (Eq.trans (bE 36 dc) (if_pos ⟨P.1, P.2⟩)) (cB.get (j := 1) rfl) (fun e g _ => ⟨rfl, g.trans (if_pos P).symm⟩)
 refine fun _ _ _ _ _ _ df => (yy rfl rfl (df 32 dc) (fun al => ?_) (fun al => fun e g _ => ⟨trivial, g.trans (if_neg al).symm⟩))
 have dg := al.1
 try simp only [zh] at dg
 have hl1024 := tD al.2
 exact mV u (fun e g _ => ⟨rfl, g.trans (if_pos al).symm⟩)
 refine fun _ _ _ _ _ _ dh => (yy rfl rfl (dh 32 dc) (fun am => ?_) (fun am => fun e g _ => ⟨trivial, g.trans (if_neg am).symm⟩))
 have di := am.1
 try simp only [zh] at di
 have hl1034 := tD am.2
 exact mV (Iw c) (fun e g _ => ⟨rfl, g.trans (if_pos am).symm⟩)
 refine ob1 0 fun _ _ _ bh => (yy rfl rfl (bh 32 dc) (fun I => ?_) (fun I => fun e g _ => ⟨trivial, g.trans (if_neg I).symm⟩))
 have dj := I.1
 try simp only [zh] at dj
 have hl1047 := tD I.2
 have dk : c < m.length := bo
 exact ze (k := 3) (i := c) kT mT (Eq.trans (bh 38 dc) (if_pos ⟨I.1, I.2⟩)) y.sl (Eq.trans (bh 39 dc) (if_pos ⟨I.1, I.2⟩)) dk (fun e g _ => ⟨rfl, g.trans (if_pos I).symm⟩)
 refine fun _ _ _ _ _ _ bF => (yy rfl rfl (bF 32 dc) (fun Q => ?_) (fun Q => fun e g _ => ⟨trivial, g.trans (if_neg Q).symm⟩))
 have dl := Q.1
 try simp only [zh] at dl
 have hl1059 := tD Q.2
 exact WK (Eq.trans (bF 40 dc) (if_pos ⟨Q.1, Q.2⟩)) (fun e g _ => ⟨rfl, g.trans (if_pos Q).symm⟩)
 refine ob1 0 fun _ _ (dm : Sep _ _ _ _) bG => (yy rfl rfl (bG 32 dc) (fun S => ?_) (fun S => fun e g _ => ⟨trivial, g.trans (if_neg S).symm⟩))
 have dp := S.1
 try simp only [zh] at dp
 have hl1071 := tD S.2
 have cC := dm.cells H (y.foot (ne_of_lt K))
 exact lD (Iv ((m.getD c default).count)) lT (Eq.trans (bG 41 dc) (if_pos ⟨S.1, S.2⟩)) (cC.get (j := 2) rfl) (fun e g _ => ⟨rfl, g.trans (if_pos S).symm⟩)
 refine ob1 0 fun _ _ _ bi => (yy rfl rfl (bi 32 dc) (fun J => ?_) (fun J => fun e g _ => ⟨trivial, g.trans (if_neg J).symm⟩))
 have dq := J.1
 try simp only [zh] at dq
 have hl1086 := tD J.2
 exact yw (k := .i64) (a := (m.getD c default).value) (b := (m.getD c default).count) (Eq.trans (bi 37 dc) (if_pos ⟨J.1, J.2⟩)) (Eq.trans (bi 42 dc) (if_pos ⟨J.1, J.2⟩)) (fun e g _ => ⟨rfl, g.trans (if_pos J).symm⟩)
 refine fun _ _ _ _ _ _ bj => (zz rfl rfl (bj 24 dc) (fun U => ?_) (fun U => fun e g _ => ⟨trivial, g.trans (if_neg U).symm⟩))
 have dr := U
 try simp only [zh] at dr
 exact zB (b := decide (((d.projs.getD s default).pmake) = 1)) (b' := !decide (((m.getD c default).value) = ((m.getD c default).count))) (Eq.trans (bj 32 dc) (if_pos U)) (fun hbp => (Eq.trans (bj 43 dc) (if_pos ⟨U, hbp⟩))) (fun e g _ => ⟨rfl, g.trans (if_pos U).symm⟩)
 refine fun _ _ _ _ _ _ bH => (obl rfl ?_)
 have ds : (((decide (((m.getD c default).count) < 1)) || ((decide (0 < ((c : Nat) : Int))) && (decide (((m.getD c default).group) ≤ ((m.getD (c - 1) default).group))))) || ((decide (((d.projs.getD s default).pmake) = 1)) && (!decide (((m.getD c default).value) = ((m.getD c default).count))))) = false := (by rw [Bool.eq_false_iff]; intro h9; simp only [Bool.or_eq_true, Bool.and_eq_true, Bool.not_eq_true', decide_eq_true_eq, decide_eq_false_iff_not] at h9; omega)
 exact zx (b := (decide (((m.getD c default).count) < 1)) || ((decide (0 < ((c : Nat) : Int))) && (decide (((m.getD c default).group) ≤ ((m.getD (c - 1) default).group))))) (b' := (decide (((d.projs.getD s default).pmake) = 1)) && (!decide (((m.getD c default).value) = ((m.getD c default).count)))) (bH 24 dc) (fun hbp => (Eq.trans (bH 44 dc) (if_pos hbp))) (fun e g _ => ⟨rfl, g.trans (congrArg Value.bool ds)⟩)
 intro vals w1107 dt du
 have dv : Sep _ _ _ _ := dt
 have fc := du 45 dc
 refine zW (kv := [(3, aZ), (4, vt), (5, Ix b2 0), (10, .bool false), (11, Ix F 0), (12, Iw k), (13, ak), (14, Iw s), (15, u), (16, Iv (D + ((m.getD c default).count))), (17, Iw c), (62, Iw c), (63, u), (64, Iw m.length), (65, .bool true), (68, Iv D), (69, u), (70, Iw c), (71, Ix (sb u) (so u + c * 3)), (72, Ix (sb u) (so u + c * 3 + 2)), (73, Iv ((m.getD c default).count)), (74, Iv (D + ((m.getD c default).count))), (120, .bool false)]) ⟨rfl, rfl, rfl, rfl, rfl, rfl, rfl, rfl, rfl, rfl, rfl, rfl, rfl, rfl, rfl, rfl, rfl, rfl, rfl, rfl, rfl, rfl, (by exact fc), trivial⟩ (fun ρw1107 => (zb (zf rfl (zn (za ?_)))))
 refine WD4 ((fun TT fp => WF [fun vals wq => Sep bC bp (fp :: TT) wq, fun vals wq => (vals 24 = (if (decide (((d.projs.getD s default).pgroup) = 1)) = true then (Iw (xl (zu d A) (d.projs.getD s default) ((m.getD c default).group) true) : Value) else undef)) ∧ Sep bC bp (fp :: TT) wq]) (bf :: Rs) (BaseO F d aj A)) (AF [Vl 0 (Ix b2 1), Vl 1 (dd1), Vl 2 (Iw s), Vl 3 (Ix (sb dd1) (so dd1 + s * 5)), Vl 4 (Ix (sb dd1) (so dd1 + s * 5 + 2)), Vl 5 (Iv ((d.projs.getD s default).pgroup)), Vl 6 (.bool (decide (((d.projs.getD s default).pgroup) = 1))), Vl 7 (.bool (decide (((d.projs.getD s default).pgroup) = 1))), Vl 8 (if (decide (((d.projs.getD s default).pgroup) = 1)) = true then u else undef), Vl 9 (if (decide (((d.projs.getD s default).pgroup) = 1)) = true then Iw c else undef), Vl 10 (if (decide (((d.projs.getD s default).pgroup) = 1)) = true then Ix (sb u) (so u + c * 3) else undef), Vl 11 (if (decide (((d.projs.getD s default).pgroup) = 1)) = true then Ix (sb u) (so u + c * 3 + 2) else undef), Vl 12 (if (decide (((d.projs.getD s default).pgroup) = 1)) = true then Iv ((m.getD c default).count) else undef), Vl 13 (if (decide (((d.projs.getD s default).pgroup) = 1)) = true then ak else undef), Vl 14 (if (decide (((d.projs.getD s default).pgroup) = 1)) = true then Ix b2 1 else undef), Vl 15 (if (decide (((d.projs.getD s default).pgroup) = 1)) = true then dd1 else undef), Vl 16 (if (decide (((d.projs.getD s default).pgroup) = 1)) = true then Iw s else undef), Vl 17 (if (decide (((d.projs.getD s default).pgroup) = 1)) = true then Ix (sb dd1) (so dd1 + s * 5) else undef), Vl 18 (if (decide (((d.projs.getD s default).pgroup) = 1)) = true then .agg ((d.projs.getD s default).cells).toArray else undef), Vl 19 (if (decide (((d.projs.getD s default).pgroup) = 1)) = true then u else undef), Vl 20 (if (decide (((d.projs.getD s default).pgroup) = 1)) = true then Iw c else undef), Vl 21 (if (decide (((d.projs.getD s default).pgroup) = 1)) = true then Ix (sb u) (so u + c * 3) else undef), Vl 22 (if (decide (((d.projs.getD s default).pgroup) = 1)) = true then Ix (sb u) (so u + c * 3) else undef), Vl 23 (if (decide (((d.projs.getD s default).pgroup) = 1)) = true then Iv ((m.getD c default).group) else undef), fun _ => True, Vl 25 (if (decide (((d.projs.getD s default).pgroup) = 1)) = true then .bool (!decide (((m.getD c default).count) = (((xl (zu d A) (d.projs.getD s default) ((m.getD c default).group) true) : Nat) : Int))) else undef), Vl 26 (.bool false)]) [[], [0], [], [0, 1, 2], (rg 4), (rg 5), (rg 6), (rg 7), (rg 8), (rg 8), (rg 10), (rg 11), (rg 12), (rg 8), (rg 8), [0, 1, 2, 3, 4, 5, 6, 7, 14], (rg 8), [0, 1, 2, 3, 4, 5, 6, 7, 14, 15, 16], [0, 1, 2, 3, 4, 5, 6, 7, 14, 15, 16, 17], (rg 8), (rg 8), [0, 1, 2, 3, 4, 5, 6, 7, 19, 20], [0, 1, 2, 3, 4, 5, 6, 7, 19, 20, 21], [0, 1, 2, 3, 4, 5, 6, 7, 19, 20, 21, 22], [0, 1, 2, 3, 4, 5, 6, 7, 13, 14, 15, 16, 17, 18, 19, 20, 21, 22, 23], (rg 25), (rg 26)] [24] [(0, 0), (0, 0), (0, 0), (0, 0), (0, 0), (0, 0), (0, 0), (0, 0), (0, 1), (0, 1), (0, 1), (0, 1), (0, 1), (0, 0), (0, 0), (0, 0), (0, 0), (0, 0), (0, 0), (0, 0), (0, 0), (0, 0), (0, 0), (0, 0), (0, 0), (1, 1), (1, 1)] dv ⟨fun _ _ _ _ _ _ _ => obl rfl (xv rfl dR), ob1 0 fun _ _ (dw : Sep _ _ _ _) dx => obl rfl (lD dd1 tT (dx 0 dc) (zd (dw.b1) rfl) dR), fun _ _ _ _ _ _ _ => obl rfl (mV (Iw s) dR), ?_, fun _ _ _ _ _ _ dy => obl rfl (Xl (dy 3 dc) dR), ?_, ob1 0 fun _ _ _ dz => obl rfl (zX (k := .i64) (a := (d.projs.getD s default).pgroup) (b := 1) (dz 5 dc) rfl dR), fun _ _ _ _ _ _ dB => obl rfl (zq (v := .bool (decide (((d.projs.getD s default).pgroup) = 1))) (dB 6 dc) dR), ?_, ?_, ?_, ?_, ?_, ?_, ?_, ?_, ?_, ?_, ?_, ?_, ?_, ?_, ?_, ?_, ?_, ?_, ?_, trivial⟩ ?_
 refine ob1 0 fun _ _ _ bI => (obl rfl ?_)
 have dD : s < d.projs.length := bo
 exact ze (k := 5) (i := s) rT pT (bI 1 dc) (RdS.base (RdS.base (RdS.base (RdS.base hdd1 z) B) E) C).sl (bI 2 dc) dD dR
 refine ob1 0 fun _ _ (dE : Sep _ _ _ _) dF => (obl rfl ?_)
 have bJ : s < d.projs.length := bo
 obtain ⟨cD, hoke1432⟩ := (RdS.base (RdS.base (RdS.base (RdS.base hdd1 z) B) E) C).prjD bJ
 have cE := dE.cells cD ((RdS.base (RdS.base (RdS.base (RdS.base hdd1 z) B) E) C).foot (ne_of_lt bJ))
 exact lD (Iv ((d.projs.getD s default).pgroup)) lT (dF 4 dc) (cE.get (j := 2) rfl) dR
 refine fun _ _ _ _ _ _ dG => (zz rfl rfl (dG 7 dc) (fun aO => ?_) (fun aO => fun e g _ => ⟨trivial, g.trans (if_neg aO).symm⟩))
 have hl1458 := tD aO
 exact mV u (fun e g _ => ⟨rfl, g.trans (if_pos aO).symm⟩)
 refine fun _ _ _ _ _ _ dH => (zz rfl rfl (dH 7 dc) (fun aP => ?_) (fun aP => fun e g _ => ⟨trivial, g.trans (if_neg aP).symm⟩))
 have hl1467 := tD aP
 exact mV (Iw c) (fun e g _ => ⟨rfl, g.trans (if_pos aP).symm⟩)
 refine fun bd _ _ fd fe bK X => ?_
 have hkk : bd = 0 ∨ bd = 1 := by have h1 : 0 ≤ bd := fd; have h2 : bd ≤ 1 := fe; omega
 rcases hkk with rfl | rfl
 have hS1474 : Sep _ _ _ _ := bK
 refine zz rfl rfl (X 7 dc) (fun Y => ?_) (fun Y => fun e g _ => ⟨trivial, g.trans (if_neg Y).symm⟩)
 have hl1479 := tD Y
 have dI : c < m.length := bo
 exact ze (k := 3) (i := c) kT mT (Eq.trans (X 8 dc) (if_pos Y)) y.sl (Eq.trans (X 9 dc) (if_pos Y)) dI (fun e g _ => ⟨rfl, g.trans (if_pos Y).symm⟩)
 obtain ⟨aQ, hS1481⟩ := bK
 refine zz rfl rfl (X 7 dc) (fun Z => ?_) (fun Z => fun e g _ => ⟨trivial, g.trans (if_neg Z).symm⟩)
 have hl1486 := tD Z
 have dJ : c < m.length := bo
 exact ze (k := 3) (i := c) kT mT (Eq.trans (X 8 dc) (if_pos Z)) y.sl (Eq.trans (X 9 dc) (if_pos Z)) dJ (fun e g _ => ⟨rfl, g.trans (if_pos Z).symm⟩)
 refine fun _ _ _ _ _ _ bL => (zz rfl rfl (bL 7 dc) (fun an => ?_) (fun an => fun e g _ => ⟨trivial, g.trans (if_neg an).symm⟩))
 have hl1497 := tD an
 exact WK (Eq.trans (bL 10 dc) (if_pos an)) (fun e g _ => ⟨rfl, g.trans (if_pos an).symm⟩)
 refine fun be _ _ ff fg bM aR => ?_
 have hkk : be = 0 ∨ be = 1 := by have h1 : 0 ≤ be := ff; have h2 : be ≤ 1 := fg; omega
 rcases hkk with rfl | rfl
 have dK : Sep _ _ _ _ := bM
 refine zz rfl rfl (aR 7 dc) (fun ao => ?_) (fun ao => fun e g _ => ⟨trivial, g.trans (if_neg ao).symm⟩)
 have hl1508 := tD ao
 have cF := dK.cells H (y.foot (ne_of_lt K))
 exact lD (Iv ((m.getD c default).count)) lT (Eq.trans (aR 11 dc) (if_pos ao)) (cF.get (j := 2) rfl) (fun e g _ => ⟨rfl, g.trans (if_pos ao).symm⟩)
 obtain ⟨aQ, dL⟩ := bM
 refine zz rfl rfl (aR 7 dc) (fun ap => ?_) (fun ap => fun e g _ => ⟨trivial, g.trans (if_neg ap).symm⟩)
 have hl1515 := tD ap
 have cG := dL.cells H (y.foot (ne_of_lt K))
 exact lD (Iv ((m.getD c default).count)) lT (Eq.trans (aR 11 dc) (if_pos ap)) (cG.get (j := 2) rfl) (fun e g _ => ⟨rfl, g.trans (if_pos ap).symm⟩)
 refine fun _ _ _ _ _ _ dM => (zz rfl rfl (dM 7 dc) (fun aT => ?_) (fun aT => fun e g _ => ⟨trivial, g.trans (if_neg aT).symm⟩))
 have hl1526 := tD aT
 exact mV ak (fun e g _ => ⟨rfl, g.trans (if_pos aT).symm⟩)
 refine fun _ _ _ _ _ _ dN => (zz rfl rfl (dN 7 dc) (fun aU => ?_) (fun aU => fun e g _ => ⟨trivial, g.trans (if_neg aU).symm⟩))
 have hl1535 := tD aU
 exact xv rfl (fun e g _ => ⟨rfl, g.trans (if_pos aU).symm⟩)
 refine ob1 0 fun _ _ (dO : Sep _ _ _ _) bN => (zz rfl rfl (bN 7 dc) (fun aq => ?_) (fun aq => fun e g _ => ⟨trivial, g.trans (if_neg aq).symm⟩))
 have hl1546 := tD aq
 exact lD dd1 tT (Eq.trans (bN 14 dc) (if_pos aq)) (zd (dO.b1) rfl) (fun e g _ => ⟨rfl, g.trans (if_pos aq).symm⟩)
 refine fun _ _ _ _ _ _ dP => (zz rfl rfl (dP 7 dc) (fun aV => ?_) (fun aV => fun e g _ => ⟨trivial, g.trans (if_neg aV).symm⟩))
 have hl1555 := tD aV
 exact mV (Iw s) (fun e g _ => ⟨rfl, g.trans (if_pos aV).symm⟩)
 refine ob1 0 fun _ _ _ bk => (zz rfl rfl (bk 7 dc) (fun aa => ?_) (fun aa => fun e g _ => ⟨trivial, g.trans (if_neg aa).symm⟩))
 have hl1567 := tD aa
 have dQ : s < d.projs.length := bo
 exact ze (k := 5) (i := s) rT pT (Eq.trans (bk 15 dc) (if_pos aa)) (RdS.base (RdS.base (RdS.base (RdS.base hdd1 z) B) E) C).sl (Eq.trans (bk 16 dc) (if_pos aa)) dQ (fun e g _ => ⟨rfl, g.trans (if_pos aa).symm⟩)
 refine ob1 0 fun _ _ (dS : Sep _ _ _ _) bO => (zz rfl rfl (bO 7 dc) (fun ar => ?_) (fun ar => fun e g _ => ⟨trivial, g.trans (if_neg ar).symm⟩))
 have hl1579 := tD ar
 have bP : s < d.projs.length := bo
 obtain ⟨cH, hoke1580⟩ := (RdS.base (RdS.base (RdS.base (RdS.base hdd1 z) B) E) C).prjD bP
 have cI := dS.cells cH ((RdS.base (RdS.base (RdS.base (RdS.base hdd1 z) B) E) C).foot (ne_of_lt bP))
 exact zg (k := 5) kY pT rfl (Eq.trans (bO 17 dc) (if_pos ar)) cI (fun e g _ => ⟨rfl, g.trans (if_pos ar).symm⟩)
 refine fun _ _ _ _ _ _ dU => (zz rfl rfl (dU 7 dc) (fun aW => ?_) (fun aW => fun e g _ => ⟨trivial, g.trans (if_neg aW).symm⟩))
 have hl1591 := tD aW
 exact mV u (fun e g _ => ⟨rfl, g.trans (if_pos aW).symm⟩)
 refine fun _ _ _ _ _ _ dV => (zz rfl rfl (dV 7 dc) (fun aX => ?_) (fun aX => fun e g _ => ⟨trivial, g.trans (if_neg aX).symm⟩))
 have hl1600 := tD aX
 exact mV (Iw c) (fun e g _ => ⟨rfl, g.trans (if_pos aX).symm⟩)
 refine ob1 0 fun _ _ _ bl => (zz rfl rfl (bl 7 dc) (fun ab => ?_) (fun ab => fun e g _ => ⟨trivial, g.trans (if_neg ab).symm⟩))
 have hl1612 := tD ab
 have dW : c < m.length := bo
 exact ze (k := 3) (i := c) kT mT (Eq.trans (bl 19 dc) (if_pos ab)) y.sl (Eq.trans (bl 20 dc) (if_pos ab)) dW (fun e g _ => ⟨rfl, g.trans (if_pos ab).symm⟩)
 refine fun _ _ _ _ _ _ bQ => (zz rfl rfl (bQ 7 dc) (fun au => ?_) (fun au => fun e g _ => ⟨trivial, g.trans (if_neg au).symm⟩))
 have hl1623 := tD au
 exact Ub (Eq.trans (bQ 21 dc) (if_pos au)) (fun e g _ => ⟨rfl, g.trans (if_pos au).symm⟩)
 refine ob1 0 fun _ _ (dX : Sep _ _ _ _) bR => (zz rfl rfl (bR 7 dc) (fun av => ?_) (fun av => fun e g _ => ⟨trivial, g.trans (if_neg av).symm⟩))
 have hl1634 := tD av
 have cJ := dX.cells H (y.foot (ne_of_lt K))
 exact lD (Iv ((m.getD c default).group)) lT (Eq.trans (bR 22 dc) (if_pos av)) (cJ.get (j := 0) rfl) (fun e g _ => ⟨rfl, g.trans (if_pos av).symm⟩)
 refine ob1 0 fun vals fh (bm : Sep _ _ _ _) aY => (zz rfl rfl (aY 7 dc) (fun T => ?_) (fun T e g ge => ?_))
 have hl1360 := tD T
 have bS : s < d.projs.length := bo
 obtain ⟨cK, ca⟩ := (RdS.base (RdS.base (RdS.base (RdS.base hdd1 z) B) E) C).prjD bS
 have hcw1363 := bm.cells cK ((RdS.base (RdS.base (RdS.base (RdS.base hdd1 z) B) E) C).foot (ne_of_lt bS))
 refine (zL (f := 17) (vals := [ak, .agg ((d.projs.getD s default).cells).toArray, Iv ((m.getD c default).group), .bool true]) (cap := []) rfl (yN ⟨(Eq.trans (aY 13 dc) (if_pos T)), (Eq.trans (aY 18 dc) (if_pos T)), (Eq.trans (aY 23 dc) (if_pos T)), rfl, trivial⟩) lY (Va (x := (zu d A)) (vx := ak) (p := (d.projs.getD s default)) (agg := (m.getD c default).group) (one := true) (RdS.base bs C) ca bq.group bm) ?_)
 rintro _ w1364 ⟨rfl, dY⟩
 exact fun e g ge => ⟨(And.intro (g.trans (if_pos T).symm) dY), trivial⟩
 refine ⟨?_, trivial⟩
 show (e 24 = (if (decide (((d.projs.getD s default).pgroup) = 1)) = true then (Iw (xl (zu d A) (d.projs.getD s default) ((m.getD c default).group) true) : Value) else undef)) ∧ Sep bC bp ((BaseO F d aj A) :: bf :: Rs) fh
 exact ⟨(g.trans (if_neg T).symm), bm⟩
 refine ob1 1 fun _ _ dZ bT => ?_
 obtain ⟨aQ, hS1643⟩ := dZ
 refine zz rfl rfl (bT 7 dc) (fun ac => ?_) (fun ac => fun e g _ => ⟨trivial, g.trans (if_neg ac).symm⟩)
 have hl1647 := tD ac
 exact yw (k := .i64) (a := (m.getD c default).count) (b := (((xl (zu d A) (d.projs.getD s default) ((m.getD c default).group) true) : Nat) : Int)) (Eq.trans (bT 12 dc) (if_pos ac)) (Eq.trans aQ (if_pos ac)) (fun e g _ => ⟨rfl, g.trans (if_pos ac).symm⟩)
 refine fun _ _ _ _ _ _ bU => (obl rfl ?_)
 have ea : ((decide (((d.projs.getD s default).pgroup) = 1)) && (!decide (((m.getD c default).count) = (((xl (zu d A) (d.projs.getD s default) ((m.getD c default).group) true) : Nat) : Int)))) = false := (by rw [Bool.eq_false_iff]; intro h9; simp only [Bool.or_eq_true, Bool.and_eq_true, Bool.not_eq_true', decide_eq_true_eq, decide_eq_false_iff_not] at h9; omega)
 exact zB (b := decide (((d.projs.getD s default).pgroup) = 1)) (b' := !decide (((m.getD c default).count) = (((xl (zu d A) (d.projs.getD s default) ((m.getD c default).group) true) : Nat) : Int))) (bU 7 dc) (fun hbp => (Eq.trans (bU 25 dc) (if_pos hbp))) (fun e g _ => ⟨rfl, g.trans (congrArg Value.bool ea)⟩)
 intro vals w1657 eb ec
 obtain ⟨aQ, ed⟩ := eb
 have fi := ec 26 dc
 refine zW (kv := [(3, aZ), (4, vt), (5, Ix b2 0), (10, .bool false), (11, Ix F 0), (12, Iw k), (13, ak), (14, Iw s), (15, u), (16, Iv (D + ((m.getD c default).count))), (17, Iw c), (62, Iw c), (63, u), (64, Iw m.length), (65, .bool true), (68, Iv D), (69, u), (70, Iw c), (71, Ix (sb u) (so u + c * 3)), (72, Ix (sb u) (so u + c * 3 + 2)), (73, Iv ((m.getD c default).count)), (74, Iv (D + ((m.getD c default).count))), (120, .bool false), (147, .bool false)]) ⟨rfl, rfl, rfl, rfl, rfl, rfl, rfl, rfl, rfl, rfl, rfl, rfl, rfl, rfl, rfl, rfl, rfl, rfl, rfl, rfl, rfl, rfl, rfl, (by exact fi), trivial⟩ (fun ρw1657 => (zb (zf rfl (zn (R0 fun _ => st (mV (Iw c) ?_))))))
 have ee : InR ((c + 1 : Nat) : Int) := bo
 refine st (zO (r := ((c + 1 : Nat) : Int)) (k := .i64) (a := ((c : Nat) : Int)) (b := 1) rfl rfl (by rw [show (((c : Nat) : Int) + 1 : Int) = ((c + 1 : Nat) : Int) from bo]; exact zy ee) (st (aS (Iw (c + 1)) (zb ?_))))
 exact ⟨_, by omega, c + 1, (D + ((m.getD c default).count)), _, rfl, sSf, by omega, ⟨by rw [Qe (by omega), ← cS.1], by omega, by omega⟩, ed⟩
 try simp only [zh] at cb
 refine zi rfl (za (R0 fun _ => st (cL uR (Wi  hKN fk) ?_)))
 rintro _ w1663 ⟨rfl, ef⟩
 refine st (aS (.bool true) (zb (zm (zT vR (show _ = (.bool true : Value) from rfl) ?_))))
 refine ⟨rfl, (ef.s1_)⟩

theorem Xk {w : World} {d : Dcl} {dd0 dd1 : Value} (h0 : RdS w (yW w) dd0 d.types) (h1 : RdS w (yW w) dd1 d.projs) (od : d.Ok) {n0 : Int} (hn0 : InR n0) {n1 : Int} (hn1 : InR n1) {vl : Value} {l : List Ev} (hl : RdS w (yW w) vl l) {vt : Value} {t : List Trn} (ht : RdS w (yW w) vt t) (hK : RdS w (yW w) (.slice (some ⟨0, 0, none⟩) 6 6) kindsL) : Ret Tryz.prog 4 [.agg (d.cells dd0 dd1).toArray, .int .i64 n0, .int .i64 n1, vl, vt] w (fun r w' => r = .bool true ∧ Ext w w') :=
  Ret.mono (Xa h0 h1 od hn0 hn1 hl ht hK (Sep.start w)) (fun r w' h => ⟨h.1, h.2.fin⟩)
end Go.Proofs.YtojlbibionhdjaaGreatDoor
