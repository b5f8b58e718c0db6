import Derived.Test.YtojlbibionhdjaaGreatDoorD8
import Derived.Shelf.SlSortCmp.NoneTotal
import Derived.Test.YtojlbibionhdjaaGreatDoorProg
import Derived.Test.YtojlbibionhdjaaGreatDoorD1
import Derived.Test.YtojlbibionhdjaaGreatDoorD7
set_option linter.unusedSimpArgs false
set_option linter.unusedVariables false
set_option linter.unusedSectionVars false
set_option linter.deprecated false
set_option maxRecDepth 8000
set_option maxHeartbeats 4000000
open Go.Proofs.Tryz renaming underlying26 → kT, sizeOf64 → lT, isAgg64 → mT, isAgg3 → nT, zeroValue64 → oT, isAgg26 → pT, isAgg61 → qT, sizeOf61 → rT, sizeOf44 → sT, call11 → tT, underlying3 → uT, sizeOf3 → vT, zeroValue3 → wT, isAgg4 → kR, underlying41 → lR, underlying110 → mR, results69 → nR, isAgg44 → oR, zeroValue44 → pR, isAgg76 → qR, underlying76 → rR, results16 → sR
namespace Go.Proofs.YtojlbibionhdjaaGreatDoor
open Go.Proofs Go.RowKit
theorem yqi {p : Prop} (h : p := by first | omega | (refine ⟨?_, ?_⟩ <;> omega)) : p := h

theorem Xf {l : List Ev} {F k q : Nat} (hq : q = F) (hk : F + k < l.length) : l.take (F + (k + 1)) = l.take (F + k) ++ [(l.drop q).getD k default] := by
  subst hq
  rw [← Nat.add_assoc, List.take_getD (d := default) hk, List.getD_eq_getElem?_getD, List.getD_eq_getElem?_getD, List.getElem?_drop]
theorem Qq {every : Nat} {l evs : List Ev} {p : Nat} (h : ZS l evs = p) (hp : p < evs.length) : yb every l evs = p / every * every := by unfold yb; rw [h, if_pos hp]
theorem KJ {every : Nat} {l evs : List Ev} {p : Nat} (h : ZS l evs = p) (hp : ¬ p < evs.length) : yb every l evs = p := by unfold yb; rw [h, if_neg hp]
theorem Wg {l evs : List Ev} {p q : Nat} (h : VL l evs) (h1 : p ≤ l.length ∧ p ≤ evs.length) (h3 : ∀ i, i < p → xN (l.getD i default) (evs.getD i default)) (hq : q ≤ p) : evs.take q = l.take q := Qi h (by omega) (by omega) (fun i hi => h3 i (by omega))
theorem xL {G : Nat → Prop} {W w : World} {Rs : List HP} {b : Nat} {d : Dcl} {every : Nat} {evs : List Ev} {vl : Value} {l : List Ev} (hl : RdS W G vl l) (hKN : RdS W G (.slice (some ⟨0, 0, none⟩) 6 6) kindsL) (hS0 : Sep G W ((BaseO b d every evs) :: Rs) w) (hd : DclOk d) (hp : YD d) (hone : VL l evs) (hfew : evs.length ≤ 1000) (hfl : l.length ≤ 1000) : Ret Tryz.prog 13 [.pointer (some ⟨b, 0, none⟩), vl] w (fun r w' => r = (.int .i64 (((l.length - yb every l evs) : Nat) : Int) : Value) ∧ Sep G W ((BaseO b d every l) :: Rs) w') := by
 have hls : _ * 96 ≤ _ := hl.small
 have hKNs : _ * 8 ≤ _ := hKN.small
 refine zk (args := [Ix b 0, vl]) Tryz.func13 rfl rfl ?_
 obtain ⟨aK, U, V, j, s, X, t, bP⟩ := BaseO.open hS0
 have aa : Sep G W ((Blk b #[U, V, Iw every, j, Ix s 0, X, t] 81) :: (RowE (α := Typ) own 84 U d.types) :: (RowE (α := Prj) own 46 V d.projs) :: (RowE (α := Ev) own 64 j evs) :: (ViewO s d (zu d evs) (zu d evs)) :: (zU X (prs d evs)) :: (yG t (yo d every evs)) :: Rs) w := bP
 have bQ := aa.r1
 have hr9s : _ * 24 ≤ _ := bQ.2
 have bG := aa.r2
 have hr10s : _ * 40 ≤ _ := bG.2
 have aL := aa.r3
 have hr11s : _ * 96 ≤ _ := aL.2
 refine za (R0 fun _ => st (aS (Iv 0) (zb (za ?_))))
 obtain ⟨bF, bH, ab, bI, bJ⟩ := (aa.mv3).lend
 have A := RowE.rd bH
 have hrd19s : _ * 96 ≤ _ := A.small
 refine R0 fun _ => st (aS (Iv 0) (zb (za (zp (zZ (fun mq σ wq => ∃ (p : Nat) (ρ : Env), mq = l.length - p ∧ σ = ya ρ [(0, Ix b 0), (1, vl), (4, Iv 0), (5, Iw p)] ∧ (p ≤ l.length ∧ p ≤ evs.length) ∧ (∀ i, i < p → xN (l.getD i default) (evs.getD i default)) ∧ Sep bF w ((Blk b #[U, V, Iw every, j, Ix s 0, X, t] 81) :: (RowE (α := Typ) own 84 U d.types) :: (RowE (α := Prj) own 46 V d.projs) :: (ViewO s d (zu d evs) (zu d evs)) :: (zU X (prs d evs)) :: (yG t (yo d every evs)) :: Rs) wq) ⟨0, _, rfl, sSf, ⟨Nat.zero_le _, Nat.zero_le _⟩, (fun i h => absurd h (Nat.not_lt_zero i)), bI⟩ ?_)))))
 rintro m21 σ22 w20 ⟨p, ρl1, rfl, rfl, hpl, hsm, bK⟩
 refine za (za ?_)
 refine WD4 (WF [fun vals wq => Sep bF w ((Blk b #[U, V, Iw every, j, Ix s 0, X, t] 81) :: (RowE (α := Typ) own 84 U d.types) :: (RowE (α := Prj) own 46 V d.projs) :: (ViewO s d (zu d evs) (zu d evs)) :: (zU X (prs d evs)) :: (yG t (yo d every evs)) :: Rs) wq]) (AF [Vl 0 (Iw p), Vl 1 (vl), Vl 2 (Iw l.length), Vl 3 (Ix b 0), Vl 4 (Ix b 0), Vl 5 (Ix b 3), Vl 6 (j), Vl 7 (Iw evs.length), Vl 8 (Iv (min ((l.length : Nat) : Int) ((evs.length : Nat) : Int))), Vl 9 (.bool (decide (((p : Nat) : Int) < (min ((l.length : Nat) : Int) ((evs.length : Nat) : Int))))), Vl 10 (.bool (decide (((p : Nat) : Int) < (min ((l.length : Nat) : Int) ((evs.length : Nat) : Int))))), Vl 11 (if (decide (((p : Nat) : Int) < (min ((l.length : Nat) : Int) ((evs.length : Nat) : Int)))) = true then vl else undef), Vl 12 (if (decide (((p : Nat) : Int) < (min ((l.length : Nat) : Int) ((evs.length : Nat) : Int)))) = true then Iw p else undef), Vl 13 (if (decide (((p : Nat) : Int) < (min ((l.length : Nat) : Int) ((evs.length : Nat) : Int)))) = true then Ix (sb vl) (so vl + p * 10) else undef), Vl 14 (if (decide (((p : Nat) : Int) < (min ((l.length : Nat) : Int) ((evs.length : Nat) : Int)))) = true then Ix (sb vl) (so vl + p * 10) else undef), Vl 15 (if (decide (((p : Nat) : Int) < (min ((l.length : Nat) : Int) ((evs.length : Nat) : Int)))) = true then .agg #[Iv ((l.getD p default).origin), Iv ((l.getD p default).seq)] else undef), Vl 16 (if (decide (((p : Nat) : Int) < (min ((l.length : Nat) : Int) ((evs.length : Nat) : Int)))) = true then Ix b 0 else undef), Vl 17 (if (decide (((p : Nat) : Int) < (min ((l.length : Nat) : Int) ((evs.length : Nat) : Int)))) = true then Ix b 0 else undef), Vl 18 (if (decide (((p : Nat) : Int) < (min ((l.length : Nat) : Int) ((evs.length : Nat) : Int)))) = true then Ix b 3 else undef), Vl 19 (if (decide (((p : Nat) : Int) < (min ((l.length : Nat) : Int) ((evs.length : Nat) : Int)))) = true then j else undef), Vl 20 (if (decide (((p : Nat) : Int) < (min ((l.length : Nat) : Int) ((evs.length : Nat) : Int)))) = true then Iw p else undef), Vl 21 (if (decide (((p : Nat) : Int) < (min ((l.length : Nat) : Int) ((evs.length : Nat) : Int)))) = true then Ix (sb j) (so j + p * 10) else undef), Vl 22 (if (decide (((p : Nat) : Int) < (min ((l.length : Nat) : Int) ((evs.length : Nat) : Int)))) = true then Ix (sb j) (so j + p * 10) else undef), Vl 23 (if (decide (((p : Nat) : Int) < (min ((l.length : Nat) : Int) ((evs.length : Nat) : Int)))) = true then .agg #[Iv ((evs.getD p default).origin), Iv ((evs.getD p default).seq)] else undef), Vl 24 (if (decide (((p : Nat) : Int) < (min ((l.length : Nat) : Int) ((evs.length : Nat) : Int)))) = true then .bool (decide ((l.getD p default).origin = (evs.getD p default).origin ∧ (l.getD p default).seq = (evs.getD p default).seq)) else undef), Vl 25 (.bool ((decide (((p : Nat) : Int) < (min ((l.length : Nat) : Int) ((evs.length : Nat) : Int)))) && (decide ((l.getD p default).origin = (evs.getD p default).origin ∧ (l.getD p default).seq = (evs.getD p default).seq))))]) [[], [], [1], [], [3], [3, 4], [3, 4, 5], [3, 4, 5, 6], [1, 2, 3, 4, 5, 6, 7], (rg 9), (rg 10), (rg 11), (rg 11), (rg 13), (rg 14), (rg 15), (rg 11), [0, 1, 2, 3, 4, 5, 6, 7, 8, 9, 10, 16], [0, 1, 2, 3, 4, 5, 6, 7, 8, 9, 10, 16, 17], [0, 1, 2, 3, 4, 5, 6, 7, 8, 9, 10, 16, 17, 18], (rg 11), [0, 1, 2, 3, 4, 5, 6, 7, 8, 9, 10, 16, 17, 18, 19, 20], [0, 1, 2, 3, 4, 5, 6, 7, 8, 9, 10, 16, 17, 18, 19, 20, 21], [0, 1, 2, 3, 4, 5, 6, 7, 8, 9, 10, 16, 17, 18, 19, 20, 21, 22], (rg 24), (rg 25)] [] [(0, 0), (0, 0), (0, 0), (0, 0), (0, 0), (0, 0), (0, 0), (0, 0), (0, 0), (0, 0), (0, 0), (0, 0), (0, 0), (0, 0), (0, 0), (0, 0), (0, 0), (0, 0), (0, 0), (0, 0), (0, 0), (0, 0), (0, 0), (0, 0), (0, 0), (0, 0)] bK ⟨fun _ _ _ _ _ _ _ => obl rfl (mV (Iw p) dR), fun _ _ _ _ _ _ _ => obl rfl (mV vl dR), ob1 0 fun _ _ _ aZ => obl rfl (zG (n := l.length) kT (aZ 1 dc) (RdS.base hl ab).sl dR), fun _ _ _ _ _ _ _ => obl rfl (mV (Ix b 0) dR), fun _ _ _ _ _ _ ba => obl rfl (zl (b := b) (o := 0) (ba 3 dc) dR), fun _ _ _ _ _ _ bb => obl rfl (xW (bb 4 dc) dR), ob1 0 fun _ _ (bc : Sep _ _ _ _) bd => obl rfl (lD j pT (bd 5 dc) (zd (bc.b0) rfl) dR), ob1 0 fun _ _ _ be => obl rfl (zG (n := evs.length) kT (be 6 dc) A.sl dR), ob1 0 fun _ _ _ an => obl rfl (Kg (k := .i64) (a := ((l.length : Nat) : Int)) (b := ((evs.length : Nat) : Int)) (an 2 dc) (an 7 dc) dR), ob1 0 fun _ _ _ ao => obl rfl (zJ (k := .i64) (a := ((p : Nat) : Int)) (b := min ((l.length : Nat) : Int) ((evs.length : Nat) : Int)) (ao 0 dc) (ao 8 dc) dR), fun _ _ _ _ _ _ bf => obl rfl (zq (v := .bool (decide (((p : Nat) : Int) < (min ((l.length : Nat) : Int) ((evs.length : Nat) : Int))))) (bf 9 dc) dR), ?_, ?_, ?_, ?_, ?_, ?_, ?_, ?_, ?_, ?_, ?_, ?_, ?_, ?_, fun _ _ _ _ _ _ ap => obl rfl (zB (b := decide (((p : Nat) : Int) < (min ((l.length : Nat) : Int) ((evs.length : Nat) : Int)))) (b' := decide ((l.getD p default).origin = (evs.getD p default).origin ∧ (l.getD p default).seq = (evs.getD p default).seq)) (ap 10 dc) (fun hbp => (Eq.trans (ap 24 dc) (if_pos hbp))) dR), trivial⟩ ?_
 refine fun _ _ _ _ _ _ bg => (zz rfl rfl (bg 10 dc) (fun M => ?_) (fun M => fun c f _ => ⟨trivial, f.trans (if_neg M).symm⟩))
 have hl357 := tD M
 exact mV vl (fun c f _ => ⟨rfl, f.trans (if_pos M).symm⟩)
 refine fun _ _ _ _ _ _ bh => (zz rfl rfl (bh 10 dc) (fun N => ?_) (fun N => fun c f _ => ⟨trivial, f.trans (if_neg N).symm⟩))
 have hl366 := tD N
 exact mV (Iw p) (fun c f _ => ⟨rfl, f.trans (if_pos N).symm⟩)
 refine ob1 0 fun _ _ _ ac => (zz rfl rfl (ac 10 dc) (fun u => ?_) (fun u => fun c f _ => ⟨trivial, f.trans (if_neg u).symm⟩))
 have hl378 := tD u
 have bi : p < l.length := bo
 exact ze (k := 10) (i := p) kT lT (Eq.trans (ac 11 dc) (if_pos u)) (RdS.base hl ab).sl (Eq.trans (ac 12 dc) (if_pos u)) bi (fun c f _ => ⟨rfl, f.trans (if_pos u).symm⟩)
 refine fun _ _ _ _ _ _ aq => (zz rfl rfl (aq 10 dc) (fun B => ?_) (fun B => fun c f _ => ⟨trivial, f.trans (if_neg B).symm⟩))
 have hl389 := tD B
 exact xu (Eq.trans (aq 13 dc) (if_pos B)) (fun c f _ => ⟨rfl, f.trans (if_pos B).symm⟩)
 refine ob1 0 fun _ _ (bj : Sep _ _ _ _) ar => (zz rfl rfl (ar 10 dc) (fun C => ?_) (fun C => fun c f _ => ⟨trivial, f.trans (if_neg C).symm⟩))
 have hl400 := tD C
 have au : p < l.length := bo
 obtain ⟨aM, al, hoke401⟩ := (RdS.base hl ab).evD au
 have hsm403 : ((l.getD p default).deps).length * 8 ≤ 140737488355328 := al.small
 have aN := bj.cells aM ((RdS.base hl ab).foot (ne_of_lt au))
 exact zg (k := 2) (cs := [Iv ((l.getD p default).origin), Iv ((l.getD p default).seq)]) qT rT rfl (Eq.trans (ar 14 dc) (if_pos C)) (CellsAt.sub aN 0 (cs2 := [Iv ((l.getD p default).origin), Iv ((l.getD p default).seq)]) rfl) (fun c f _ => ⟨rfl, f.trans (if_pos C).symm⟩)
 refine fun _ _ _ _ _ _ bk => (zz rfl rfl (bk 10 dc) (fun O => ?_) (fun O => fun c f _ => ⟨trivial, f.trans (if_neg O).symm⟩))
 have hl413 := tD O
 exact mV (Ix b 0) (fun c f _ => ⟨rfl, f.trans (if_pos O).symm⟩)
 refine fun _ _ _ _ _ _ av => (zz rfl rfl (av 10 dc) (fun D => ?_) (fun D => fun c f _ => ⟨trivial, f.trans (if_neg D).symm⟩))
 have hl423 := tD D
 exact zl (b := b) (o := 0) (Eq.trans (av 16 dc) (if_pos D)) (fun c f _ => ⟨rfl, f.trans (if_pos D).symm⟩)
 refine fun _ _ _ _ _ _ aw => (zz rfl rfl (aw 10 dc) (fun E => ?_) (fun E => fun c f _ => ⟨trivial, f.trans (if_neg E).symm⟩))
 have hl433 := tD E
 exact xW (Eq.trans (aw 17 dc) (if_pos E)) (fun c f _ => ⟨rfl, f.trans (if_pos E).symm⟩)
 refine ob1 0 fun _ _ (bl : Sep _ _ _ _) ax => (zz rfl rfl (ax 10 dc) (fun F => ?_) (fun F => fun c f _ => ⟨trivial, f.trans (if_neg F).symm⟩))
 have hl444 := tD F
 exact lD j pT (Eq.trans (ax 18 dc) (if_pos F)) (zd (bl.b0) rfl) (fun c f _ => ⟨rfl, f.trans (if_pos F).symm⟩)
 refine fun _ _ _ _ _ _ bm => (zz rfl rfl (bm 10 dc) (fun P => ?_) (fun P => fun c f _ => ⟨trivial, f.trans (if_neg P).symm⟩))
 have hl453 := tD P
 exact mV (Iw p) (fun c f _ => ⟨rfl, f.trans (if_pos P).symm⟩)
 refine ob1 0 fun _ _ _ ad => (zz rfl rfl (ad 10 dc) (fun x => ?_) (fun x => fun c f _ => ⟨trivial, f.trans (if_neg x).symm⟩))
 have hl465 := tD x
 have bn : p < evs.length := bo
 exact ze (k := 10) (i := p) kT lT (Eq.trans (ad 19 dc) (if_pos x)) A.sl (Eq.trans (ad 20 dc) (if_pos x)) bn (fun c f _ => ⟨rfl, f.trans (if_pos x).symm⟩)
 refine fun _ _ _ _ _ _ ay => (zz rfl rfl (ay 10 dc) (fun H => ?_) (fun H => fun c f _ => ⟨trivial, f.trans (if_neg H).symm⟩))
 have hl476 := tD H
 exact xu (Eq.trans (ay 21 dc) (if_pos H)) (fun c f _ => ⟨rfl, f.trans (if_pos H).symm⟩)
 refine ob1 0 fun _ _ (bp : Sep _ _ _ _) az => (zz rfl rfl (az 10 dc) (fun I => ?_) (fun I => fun c f _ => ⟨trivial, f.trans (if_neg I).symm⟩))
 have hl487 := tD I
 have aA : p < evs.length := bo
 obtain ⟨aO, am, hoke488⟩ := A.evD aA
 have hsm490 : ((evs.getD p default).deps).length * 8 ≤ 140737488355328 := am.small
 have aP := bp.cells aO (A.foot (ne_of_lt aA))
 exact zg (k := 2) (cs := [Iv ((evs.getD p default).origin), Iv ((evs.getD p default).seq)]) qT rT rfl (Eq.trans (az 22 dc) (if_pos I)) (CellsAt.sub aP 0 (cs2 := [Iv ((evs.getD p default).origin), Iv ((evs.getD p default).seq)]) rfl) (fun c f _ => ⟨rfl, f.trans (if_pos I).symm⟩)
 refine ob1 0 fun _ _ _ ae => (zz rfl rfl (ae 10 dc) (fun y => ?_) (fun y => fun c f _ => ⟨trivial, f.trans (if_neg y).symm⟩))
 have hl503 := tD y
 exact ZL (e := decide ((l.getD p default).origin = (evs.getD p default).origin ∧ (l.getD p default).seq = (evs.getD p default).seq)) (xs := #[Iv ((l.getD p default).origin), Iv ((l.getD p default).seq)]) (ys := #[Iv ((evs.getD p default).origin), Iv ((evs.getD p default).seq)]) zab (Eq.trans (ae 15 dc) (if_pos y)) (Eq.trans (ae 23 dc) (if_pos y)) (fun c f _ => ⟨rfl, f.trans (if_pos y).symm⟩)
 intro vals aQ bq br
 have aB : Sep _ _ _ _ := bq
 have bL := br 25 dc
 refine zW (kv := [(0, Ix b 0), (1, vl), (4, Iv 0), (5, Iw p), (34, .bool ((decide (((p : Nat) : Int) < (min ((l.length : Nat) : Int) ((evs.length : Nat) : Int)))) && (decide ((l.getD p default).origin = (evs.getD p default).origin ∧ (l.getD p default).seq = (evs.getD p default).seq))))]) ⟨rfl, rfl, rfl, rfl, (by exact bL), trivial⟩ (fun ρw512 => (zb ?_))
 cases Q : (decide (((p : Nat) : Int) < (min ((l.length : Nat) : Int) ((evs.length : Nat) : Int)))) && (decide ((l.getD p default).origin = (evs.getD p default).origin ∧ (l.getD p default).seq = (evs.getD p default).seq))
 have S := Q
 try simp only [zh] at Q
 have aR : ZS l evs = p := Vz hpl.1 hpl.2 hsm (fun h1 h2 h3 => by
  have T := S
  have h8 : decide ((p : Int) < min ((l.length : Nat) : Int) ((evs.length : Nat) : Int)) = true := by rw [decide_eq_true_eq]; omega
  rw [Bool.and_eq_false_iff] at T
  rcases T with T | T
  · rw [h8] at T; cases T
  · have h7 := fD T; exact h7 h3)
 refine zf rfl (zY (zR (za (za ?_))))
 have af := bJ _ _ aB
 refine R0 fun _ => st (mV (Iw p) (st (mV (Ix b 0) (st (zl (b := b) (o := 0) rfl (st (xW rfl (st (lD j pT rfl (zd (af.b1) rfl) (st (zG (n := evs.length) kT rfl aL.1 (st (zJ (k := .i64) (a := ((p : Nat) : Int)) (b := ((evs.length : Nat) : Int)) rfl rfl (zb (Wy (fun σ wq => ∃ (g : Nat) (ρ : Env), σ = ya ρ [(0, Ix b 0), (1, vl), (4, Iv 0)] ∧ (g = yb every l evs ∧ g ≤ l.length) ∧ Sep G W ((BaseO b d every (l.take g)) :: Rs) wq) ?_ ?_)))))))))))))))
 cases R : decide (((p : Nat) : Int) < ((evs.length : Nat) : Int))
 have R := fD R
 refine zf rfl (zn ?_)
 have ag : Sep G W ((BaseO b d every evs) :: Rs) aQ := BaseO.close (d := d) (every := every) (evs := evs) aK (af.s7_bcdaefg)
 have aT : evs = l.take p := by rw [← Wg (q := p) hone hpl hsm (Nat.le_refl _)]; exact (List.take_of_length_le (by omega)).symm
 try simp +zetaDelta only at ag
 rw [aT] at ag
 exact ⟨rfl, p, _, yE ⟨(show _ = (Ix b 0 : Value) from rfl), (show _ = (vl : Value) from rfl), (show _ = (Iv 0 : Value) from rfl), trivial⟩, ⟨(KJ aR om).symm, by omega⟩, ag⟩
 have R := tD R
 refine zi rfl ?_
 have bs : Sep G W ((BaseO b d every evs) :: Rs) aQ := BaseO.close (d := d) (every := every) (evs := evs) aK (af.s7_bcdaefg)
 have bM : p / every * every ≤ p := Nat.div_mul_le_self ..
 refine R0 fun _ => st (mV (Ix b 0) (st (mV (Iw p) ?_)))
 refine st (cL Tryz.call41 (zbc (n := p) yqi hKN bs (hd) (om)) ?_)
 rintro _ w524 ⟨rfl, ah⟩
 refine zb ?_
 have aT := Wg (q := p / every * every) hone hpl hsm bM
 try simp +zetaDelta only at ah
 rw [aT] at ah
 exact ⟨rfl, p / every * every, _, yE ⟨(show _ = (Ix b 0 : Value) from rfl), (show _ = (vl : Value) from rfl), (show _ = (Iv 0 : Value) from rfl), trivial⟩, ⟨(Qq aR om).symm, by omega⟩, ah⟩
 rintro _ aU ⟨g, ρj1, rfl, bR, bt⟩
 refine za ?_
 have aV : (l.take g).length = g := by rw [List.length_take]; omega
 obtain ⟨aW, aC, aD, ai, Y, aE, Z, bu⟩ := BaseO.open bt
 have m : Sep G W ((Blk b #[aC, aD, Iw every, ai, Ix Y 0, aE, Z] 81) :: (RowE (α := Typ) own 84 aC d.types) :: (RowE (α := Prj) own 46 aD d.projs) :: (RowE (α := Ev) own 64 ai (l.take g)) :: (ViewO Y d (zu d (l.take g)) (zu d (l.take g))) :: (zU aE (prs d (l.take g))) :: (yG Z (yo d every (l.take g))) :: Rs) aU := bu
 have bv := m.r1
 have hr536s : _ * 24 ≤ _ := bv.2
 have bw := m.r2
 have hr537s : _ * 40 ≤ _ := bw.2
 have aF := m.r3
 have hr538s : _ * 96 ≤ _ := aF.2
 refine R0 fun _ => st (mV vl (st (mV (Ix b 0) (st (zl (b := b) (o := 0) rfl (st (xW rfl (st (lD ai pT rfl (zd (m.b0) rfl) (st (zG (n := (l.take g).length) kT rfl aF.1 ?_)))))))))))
 refine st (Ut (i := (l.take g).length) (k := 10) (n := l.length) kT lT rfl hl.sl rfl bo (st (aS (xh 10 vl ((l.take g).length) l.length) (zb (za (za ?_))))))
 have bx : Sep G W ((BaseO b d every (l.take g)) :: Rs) aU := BaseO.close (d := d) (every := every) (evs := (l.take g)) aW m
 have bN : (l.drop ((l.take g).length)).length = l.length - g := by rw [List.length_drop, aV]
 refine R0 fun _ => st (mV (xh 10 vl ((l.take g).length) l.length) ?_)
 have L := RdS.sub_lo (i := (l.take g).length) hl (by first | omega | (simp only [List.length_drop, List.length_take]; omega))
 have h540s : _ * 96 ≤ _ := L.small
 refine st (zG (n := (l.drop ((l.take g).length)).length) kT rfl L.sl (st (mV (Iv 0) (zb (zp (zZ (fun mq σ wq => ∃ (k : Nat) (ρ : Env), mq = (l.drop ((l.take g).length)).length - k ∧ σ = ya ρ [(0, Ix b 0), (6, (xh 10 vl ((l.take g).length) l.length)), (54, (xh 10 vl ((l.take g).length) l.length)), (55, Iw ((l.drop ((l.take g).length)).length)), (56, Iw k)] ∧ (k ≤ (l.drop ((l.take g).length)).length) ∧ Sep G W ((BaseO b d every (l.take (g + k))) :: Rs) wq) ⟨0, _, rfl, sSf, Nat.zero_le _, bx⟩ ?_))))))
 rintro m542 σ543 w541 ⟨k, ρl2, rfl, rfl, hkk, J⟩
 refine za (R0 fun _ => st (zJ (k := .i64) (a := ((k : Nat) : Int)) (b := (((l.drop ((l.take g).length)).length : Nat) : Int)) rfl rfl (zb (za ?_))))
 cases K : decide (((k : Nat) : Int) < (((l.drop ((l.take g).length)).length : Nat) : Int))
 have hc545r := K
 have K := fD K
 refine zf rfl (zY (zR (za (R0 fun _ => st (mV (xh 10 vl ((l.take g).length) l.length) (st (zG (n := (l.drop ((l.take g).length)).length) kT rfl L.sl (st (aS (Iw ((l.drop ((l.take g).length)).length)) (zb (zm (zT Tryz.results13 (show _ = (Iw ((l.drop ((l.take g).length)).length) : Value) from rfl) ?_))))))))))))
 have bO : l.take (g + k) = l := List.take_of_length_le om
 try simp +zetaDelta only at J
 rw [bO] at J
 refine ⟨?_, J⟩
 rw [bN, bR.1]
 have K := tD K
 refine zi rfl (zn (za (zp (za (R0 fun _ => ?_)))))
 have bz : k < (l.drop ((l.take g).length)).length := bo
 refine st (ze (k := 10) (i := k) kT lT rfl L.sl rfl bz ?_)
 have aG : k < (l.drop ((l.take g).length)).length := bo
 obtain ⟨aX, z, aJ⟩ := L.evD aG
 have hsm549 : (((l.drop ((l.take g).length)).getD k default).deps).length * 8 ≤ 140737488355328 := z.small
 have aY := J.cells aX (L.foot (ne_of_lt aG))
 refine st (zg (k := 10) mT lT rfl rfl aY (st (zI oT ?_)))
 intro w553 b552 bA
 have aH := J.new bA
 refine stn (zA (v := .agg (((l.drop ((l.take g).length)).getD k default).cells (zC W (sb (xh 10 vl ((l.take g).length) l.length)) (so (xh 10 vl ((l.take g).length) l.length) + k * 10 + 3))).toArray) (c' := (((l.drop ((l.take g).length)).getD k default).cells (zC W (sb (xh 10 vl ((l.take g).length) l.length)) (so (xh 10 vl ((l.take g).length) l.length) + k * 10 + 3))).toArray) lT rfl rfl (aH.b0) (yf ⟨rfl, rfl, rfl, z.sl.one, rfl, rfl, rfl, rfl, rfl, rfl, trivial⟩) yqc rfl ?_)
 intro w555 bB
 have aI := aH.pt0 bB
 refine zb (zt (by kernel_rfl) (fun _ => (st (mV (Ix b 0) (st (zg (k := 10) mT lT rfl rfl (CellsAt.all (aI.b0)) (st (cL Tryz.call42 (zav (e := ((l.drop ((l.take g).length)).getD k default)) z aJ hKN (aI.mv1) (hd) (hp) ((by rw [List.length_take]; omega))) ?_))))))))
 rintro _ w559 ⟨rfl, bC⟩
 refine zb (R0 fun _ => ?_)
 have bD : InR ((k + 1 : Nat) : Int) := bo
 refine st (zO (r := ((k + 1 : Nat) : Int)) (k := .i64) (a := ((k : Nat) : Int)) (b := 1) rfl rfl (by rw [show (((k : Nat) : Int) + 1 : Int) = ((k + 1 : Nat) : Int) from bo]; exact zy bD) (st (mV (Iw (k + 1)) (zb ?_))))
 have aj := bC.s2_a
 have bS : l.take (g + (k + 1)) = ((l.take (g + k)) ++ [((l.drop ((l.take g).length)).getD k default)]) := Xf aV om
 try simp +zetaDelta only at aj
 rw [← bS] at aj
 exact ⟨_, by omega, k + 1, _, rfl, sSf, by omega, aj⟩
 have S := Q
 try simp only [zh] at Q
 refine zi rfl (zn (zp (R0 fun _ => st (mV (Iw p) ?_))))
 have bE : InR ((p + 1 : Nat) : Int) := bo
 refine st (zO (r := ((p + 1 : Nat) : Int)) (k := .i64) (a := ((p : Nat) : Int)) (b := 1) rfl rfl (by rw [show (((p : Nat) : Int) + 1 : Int) = ((p + 1 : Nat) : Int) from bo]; exact zy bE) (st (aS (Iw (p + 1)) (zb ?_))))
 exact ⟨_, by omega, p + 1, _, rfl, sSf, ⟨by omega, by omega⟩, (xe hsm (by have T := S; simp only [Bool.and_eq_true, decide_eq_true_eq] at T; exact T.2)), aB⟩

end Go.Proofs.YtojlbibionhdjaaGreatDoor
namespace Go.Proofs.YtojlbibionhdjaaGreatDoor
open Go.Proofs Go.Shelf

def Vw : Go.Shelf.Ren := ⟨fun | 6 => 68 | 15 => 89 | 14 => 88 | 28 => 110 | 29 => 111 | 20 => 102 | 21 => 103 | 22 => 104 | 23 => 105 | 24 => 106 | 25 => 107 | 26 => 108 | 27 => 109 | 46 => 121 | 47 => 122 | 48 => 123 | 49 => 124 | 50 => 125 | 57 => 140 | n => n, fun | 22 => 41 | 24 => 44 | 25 => 128 | 3 => 3 | 39 => 110 | 0 => 0 | 53 => 170 | 55 => 172 | 4 => 4 | 46 => 164 | 45 => 163 | 50 => 146 | 5 => 5 | 9 => 9 | 66 => 186 | 70 => 190 | 76 => 197 | 77 => 198 | n => n, fun | n => n⟩
theorem JJ : Go.Proofs.SlLaysF0.n6 Tryz.prog Vw := {
  mixed := by kernel_rfl,
  f6 := ⟨Tryz.f68.name, by decide, Tryz.func68.trans (congrArg some (by kernel_rfl))⟩,
  f14 := ⟨Tryz.f88.name, by decide, Tryz.func88.trans (congrArg some (by kernel_rfl))⟩,
  f15 := Tryz.func89.trans (congrArg some (by kernel_rfl)),
  f20 := ⟨Tryz.f102.name, by decide, Tryz.func102.trans (congrArg some (by kernel_rfl))⟩,
  f21 := ⟨Tryz.f103.name, by decide, Tryz.func103.trans (congrArg some (by kernel_rfl))⟩,
  f22 := ⟨Tryz.f104.name, by decide, Tryz.func104.trans (congrArg some (by kernel_rfl))⟩,
  f23 := ⟨Tryz.f105.name, by decide, Tryz.func105.trans (congrArg some (by kernel_rfl))⟩,
  f24 := ⟨Tryz.f106.name, by decide, Tryz.func106.trans (congrArg some (by kernel_rfl))⟩,
  f25 := ⟨Tryz.f107.name, by decide, Tryz.func107.trans (congrArg some (by kernel_rfl))⟩,
  f26 := ⟨Tryz.f108.name, by decide, Tryz.func108.trans (congrArg some (by kernel_rfl))⟩,
  f27 := ⟨Tryz.f109.name, by decide, Tryz.func109.trans (congrArg some (by kernel_rfl))⟩,
  f28 := Tryz.func110.trans (congrArg some (by kernel_rfl)),
  f29 := Tryz.func111.trans (congrArg some (by kernel_rfl)),
  f46 := ⟨Tryz.f121.name, by decide, Tryz.func121.trans (congrArg some (by kernel_rfl))⟩,
  f47 := Tryz.func122.trans (congrArg some (by kernel_rfl)),
  f48 := Tryz.func123.trans (congrArg some (by kernel_rfl)),
  f49 := ⟨Tryz.f124.name, by decide, Tryz.func124.trans (congrArg some (by kernel_rfl))⟩,
  f50 := ⟨Tryz.f125.name, by decide, Tryz.func125.trans (congrArg some (by kernel_rfl))⟩,
  f57 := ⟨Tryz.f140.name, by decide, Tryz.func140.trans (congrArg some (by kernel_rfl))⟩,
  t0 := Tryz.underlying0,
  a0 := Tryz.isAgg0,
  z0 := Tryz.sizeOf0,
  v0 := Tryz.zeroValue0,
  t3 := uT,
  a3 := nT,
  z3 := vT,
  v3 := wT,
  t4 := Tryz.underlying4,
  a4 := kR,
  z4 := Tryz.sizeOf4,
  v4 := Tryz.zeroValue4,
  t5 := Tryz.underlying5,
  a5 := Tryz.isAgg5,
  z5 := Tryz.sizeOf5,
  v5 := Tryz.zeroValue5,
  t9 := Tryz.underlying9,
  a9 := Tryz.isAgg9,
  z9 := Tryz.sizeOf9,
  v9 := Tryz.zeroValue9,
  t22 := lR,
  a22 := Tryz.isAgg41,
  z22 := Tryz.sizeOf41,
  v22 := Tryz.zeroValue41,
  t25 := Tryz.underlying128,
  a25 := Tryz.isAgg128,
  z25 := Tryz.sizeOf128,
  v25 := Tryz.zeroValue128,
  t39 := mR,
  a39 := Tryz.isAgg110,
  z39 := Tryz.sizeOf110,
  v39 := Tryz.zeroValue110,
  t45 := Tryz.underlying163,
  a45 := Tryz.isAgg163,
  z45 := Tryz.sizeOf163,
  v45 := Tryz.zeroValue163,
  t46 := Tryz.underlying164,
  a46 := Tryz.isAgg164,
  z46 := Tryz.sizeOf164,
  v46 := Tryz.zeroValue164,
  t50 := Tryz.underlying146,
  a50 := Tryz.isAgg146,
  z50 := Tryz.sizeOf146,
  v50 := Tryz.zeroValue146,
  t53 := Tryz.underlying170,
  a53 := Tryz.isAgg170,
  z53 := Tryz.sizeOf170,
  v53 := Tryz.zeroValue170,
  t55 := Tryz.underlying172,
  a55 := Tryz.isAgg172,
  z55 := Tryz.sizeOf172,
  v55 := Tryz.zeroValue172,
  t66 := Tryz.underlying186,
  a66 := Tryz.isAgg186,
  z66 := Tryz.sizeOf186,
  v66 := Tryz.zeroValue186,
  t70 := Tryz.underlying190,
  a70 := Tryz.isAgg190,
  z70 := Tryz.sizeOf190,
  v70 := Tryz.zeroValue190,
  t76 := Tryz.underlying197,
  a76 := Tryz.isAgg197,
  z76 := Tryz.sizeOf197,
  v76 := Tryz.zeroValue197,
  t77 := Tryz.underlying198,
  a77 := Tryz.isAgg198,
  z77 := Tryz.sizeOf198,
  v77 := Tryz.zeroValue198
}
end Go.Proofs.YtojlbibionhdjaaGreatDoor
namespace Go.Proofs.YtojlbibionhdjaaGreatDoor
open Go.Proofs Go.RowKit Go.Sort Go.Shelf

theorem KB {w w' : World} (h : Ext w w') : ∃ q os, w' = grow (w.drewN q) os := by
  obtain ⟨hs, ht, hd, ho, hp⟩ := w
  obtain ⟨hs', ht', hd', ho', hp'⟩ := w'
  refine ⟨hd' - hd, (hs'.toList.drop hs.size).toArray, ?_⟩
  have e1 : ho' = ho := h.os
  have e2 : ht' = ht := h.tape
  have e3 : hp' = hp := h.output
  have e4 : hd ≤ hd' := h.drawn
  have e5 : hs.size ≤ hs'.size := h.size
  have e6 : ∀ b, b < hs.size → hs'[b]? = hs[b]? := fun b hb => h.block b hb (fun h => h)
  have eh : hs' = hs ++ (hs'.toList.drop hs.size).toArray := by
    apply Array.ext_getElem?
    intro i
    rw [Array.getElem?_append]
    split
    · rename_i hi; exact e6 i hi
    · rename_i hi
      simp only [List.getElem?_toArray, List.getElem?_drop, Array.getElem?_toList]
      rw [show hs.size + (i - hs.size) = i by omega]
  have ed : hd' = hd + (hd' - hd) := by omega
  subst e1 e2 e3
  simp only [grow, World.drewN]
  rw [← eh, ← ed]

theorem QH {P : Program} {α : Type} [Inhabited α] {g k : Nat} {cap : List Value} {enc : α → List Value} {cf : α → α → Int} {blk off size : Nat} {w : World}
    (h : ∀ W (x y : α), (∃ d : Array α, d.size = size ∧ ∃ m os, W = sortWorldK enc k w blk off m d os) → Ret P g ([.agg (enc x).toArray, .agg (enc y).toArray] ++ cap) W (fun r W' => r = .int .i64 (cf x y) ∧ Ext W W')) : CmpLays P g cap.toArray enc k cf blk off size w := by
  intro m os dk hs x y
  have := h _ x y ⟨dk, hs, m, os, rfl⟩
  unfold Ret at this
  have e : ([Value.agg (enc x).toArray, Value.agg (enc y).toArray] ++ cap).toArray = #[.agg (enc x).toArray, .agg (enc y).toArray] ++ cap.toArray := by simp
  rw [e] at this
  refine Calls.mono this ?_
  rintro e w' ⟨v, rfl, rfl, hx⟩
  exact ⟨rfl, KB hx⟩

theorem YK {w : World} {b : Nat} {f : Array Value → Array Value} {c : Array Value} {T : TypeId} {fz : Nat × Nat} (h : w.heap[b]? = some (.cells c T fz)) : (mapBlock w b f).heap[b]? = some (.cells (f c) T fz) := by
  unfold mapBlock
  simp [Array.getElem?_modify, h, onCells]
theorem Zq {w : World} {b i : Nat} {f : Array Value → Array Value} (h : i ≠ b) : (mapBlock w b f).heap[i]? = w.heap[i]? := by
  unfold mapBlock
  simp [Array.getElem?_modify, Ne.symm h]
theorem xV {w : World} {b : Nat} {f : Array Value → Array Value} : (mapBlock w b f).heap.size = w.heap.size := by
  unfold mapBlock; simp

theorem XH {α : Type} [Inhabited α] {enc : α → List Value} {k blk off m : Nat} {w : World} {d : Array α} {os : Array Obj} (hb : blk < w.heap.size) : Chg (fun i => i = blk) w (sortWorldK enc k w blk off m d os) := by
  unfold sortWorldK putRowK putRow
  have hs : w.heap.size ≤ (grow (mapBlock (Sort.ahead w m) blk (putCells id off (flatK enc k d))) os).heap.size := by
    show _ ≤ (_ ++ os).size
    rw [Array.size_append, xV]
    exact Nat.le_add_right _ _
  have hg : ∀ i, i < w.heap.size → (grow (mapBlock (Sort.ahead w m) blk (putCells id off (flatK enc k d))) os).heap[i]? = (mapBlock (Sort.ahead w m) blk (putCells id off (flatK enc k d))).heap[i]? := by
    intro i hi
    show (_ ++ os)[i]? = _
    rw [Array.getElem?_append, if_pos (by rw [xV]; exact hi)]
  refine ⟨rfl, rfl, rfl, hs, fun i hi hne => ?_, ?_, Nat.le_add_right _ _⟩
  · rw [hg i hi, Zq hne]; rfl
  · rintro i ⟨c, T, hc⟩
    have hi := (Array.getElem?_eq_some_iff.1 hc).1
    by_cases h : i = blk
    · subst h
      exact ⟨_, T, by rw [hg i hi]; exact YK (w := Sort.ahead w m) hc⟩
    · exact ⟨c, T, by rw [hg i hi, Zq h]; exact hc⟩
theorem Wm {α : Type} [Inhabited α] {enc : α → List Value} {k blk off m : Nat} {w : World} {d : Array α} {os : Array Obj} {c : Array Value} {T : TypeId} (hb : w.heap[blk]? = some (.cells c T)) :
    (sortWorldK enc k w blk off m d os).heap[blk]? = some (.cells (putCells id off (flatK enc k d) c) T) := by
  unfold sortWorldK putRowK putRow
  have hi := (Array.getElem?_eq_some_iff.1 hb).1
  show (_ ++ os)[blk]? = _
  rw [Array.getElem?_append, if_pos (by rw [xV]; exact hi)]
  exact YK (w := Sort.ahead w m) hb

theorem UC {α : Type} [Rep α] {w : World} {F : Nat → Prop} {enc : α → List Value} : ∀ {L : List α}, (∀ x ∈ L, Rep.rd w F (enc x) x) → Els w F (L.map enc) L
  | [], _ => trivial
  | x :: L, h => ⟨h x (List.mem_cons_self ..), UC fun y hy => h y (List.mem_cons_of_mem _ hy)⟩
theorem Uk {α : Type} [Rep α] [Inhabited α] {P : Program} {ρ : Ren} (L : SlLaysF0.n6 P ρ) (aE : ∀ w, (isAgg (ρ.t 24)).run P w = .ok true w) (zE : ∀ w, (sizeOf (ρ.t 24)).run P w = .ok (Rep.k α) w)
    {enc : α → List Value} (henc : ∀ w F cs (x : α), Rep.rd w F cs x → cs = enc x) (hlen : ∀ x, (enc x).length = Rep.k α) (hone : ∀ x, ∀ u ∈ enc x, u.oneCell' = true) {cf : α → α → Int} (hO : SWO (ltOf cf)) {g : Nat} {cap : List Value} (eg : ∀ args w, (callFunc g args).run P w = .ok (.enter g args) w)
    {T : TypeId} {lo : Nat} {w : World} {F : Nat → Prop} {v : Value} {l : List α} (ho : OwnS T lo w F v l)
    (hcmp : ∀ W (x y : α), Ret P g ([.agg (enc x).toArray, .agg (enc y).toArray] ++ cap) W (fun r W' => r = .int .i64 (cf x y) ∧ Ext W W'))
    (hre : ∀ w' (x : α) (F : Nat → Prop) cs, Rep.rd w F cs x → Rep.rd w' F cs x) (hbs : l.length < 4611686018427387904) :
    Ret P (ρ.f 6) ([v, .func (.func g) #[] cap.toArray]) w (fun r w' => r = .tuple #[] ∧ Chg (fun b => v.ownBlock = some b) w w' ∧ ∃ l', l'.Perm l ∧ l'.Pairwise (fun a b => ltOf cf b a = false) ∧ OwnS T lo w' F v l') := by
  by_cases hne : l = []
  · subst hne
    obtain ⟨a0, c0, rfl, _, _⟩ := ho.isSl
    have hc := AnyF.slices_SortFunc_none L a0 c0 (.func (.func g) #[] cap.toArray) w
    unfold Ret
    refine Calls.mono hc ?_
    rintro e w' ⟨he, rfl⟩
    exact ⟨.tuple #[], he, rfl, Chg.refl _ _, [], List.Perm.refl _, List.Pairwise.nil, ho⟩
  obtain ⟨css, hE, hown⟩ := ho.css
  rcases hown.2 with ⟨rfl, h0⟩ | ⟨gb, capn, cur, rfl, hg, hb, hn, hm, hs, ht⟩
  · exact absurd (List.length_eq_zero_iff.1 h0) hne
  have hblk := (Array.getElem?_eq_some_iff.1 hb).1
  have hcs : ∀ i (h : i < l.length), CellsAt w gb (i * Rep.k α) (enc l[i]) ∧ Rep.rd w F (enc l[i]) l[i] := by
    intro i hi
    obtain ⟨cs, hr, hc⟩ := hE.at_ i hi
    have e := henc w F cs _ hr
    subst e
    refine ⟨fun j hj => ?_, hr⟩
    have h3 := hc j hj
    rw [← ht, List.getElem?_take] at h3
    split at h3
    · exact xp hb (by simpa using h3)
    · cases h3
  have kpos : 0 < Rep.k α := Rep.kpos
  have hH : HoldsK enc (Rep.k α) w gb 0 l.toArray := by
    intro j hj
    have hj' : j < l.length * Rep.k α := by simpa using hj
    have hd : j / Rep.k α < l.length := (Nat.div_lt_iff_lt_mul kpos).2 hj'
    have hm' : j % Rep.k α < (enc l[j / Rep.k α]).length := by rw [hlen]; exact Nat.mod_lt _ kpos
    have h1 := (hcs (j / Rep.k α) hd).1 (j % Rep.k α) hm'
    refine ⟨?_, by simp [World.frozen?, hb]⟩
    rw [get_flatK _ _ _ _ (by simpa using hj'), Nat.zero_add]
    rw [show j / Rep.k α * Rep.k α + j % Rep.k α = j by rw [Nat.mul_comm]; exact Nat.div_add_mod j (Rep.k α)] at h1
    rw [h1]
    have e1 : l.toArray[j / Rep.k α]! = l[j / Rep.k α] := by rw [getElem!_pos l.toArray (j / Rep.k α) (by simpa using hd)]; simp
    have e2 : (enc l[j / Rep.k α])[j % Rep.k α]! = (enc l[j / Rep.k α])[j % Rep.k α] := getElem!_pos (enc l[j / Rep.k α]) (j % Rep.k α) hm'
    rw [e1, e2]; rfl
  have hc := AnyQ.slices_SortFunc L (Rep.k α) aE zE enc hlen hone cf hO g cap.toArray gb 0 capn l.toArray w eg (QH fun W x y _ => hcmp W x y) hH hblk (by simpa using hbs)
  have ea : ([Value.slice (some ⟨gb, 0, none⟩) l.length capn, .func (.func g) #[] cap.toArray]).toArray = #[Value.slice (some ⟨gb, 0, none⟩) l.toArray.size capn, .func (.func g) #[] cap.toArray] := by simp
  unfold Ret
  rw [ea]
  refine Calls.mono hc ?_
  rintro e w' ⟨he, d', n, os, hp, hsd, hw⟩
  refine ⟨.tuple #[], he, rfl, ?_, d'.toList, ?_, ?_, ?_⟩
  · have hgo : (fun b => (Value.slice (some ⟨gb, 0, none⟩) l.length capn).ownBlock = some b) = fun b => b = gb := by funext b; simp [Value.ownBlock, eq_comm]
    rw [hgo, hw]; exact XH hblk
  · have h2 := hp.2.2
    have hsz : d'.size = l.length := by simpa using hp.1
    simp at h2
    rwa [List.take_of_length_le (by simp [hsz])] at h2
  · rw [List.pairwise_iff_getElem]
    intro i j hi hj hij
    have hsz : d'.size = l.length := by simpa using hp.1
    have hi' : i < d'.size := by simpa using hi
    have hj' : j < d'.size := by simpa using hj
    have := hsd i j (Nat.zero_le _) hij (by simpa [hsz] using hj')
    rw [getElem!_pos d' j hj', getElem!_pos d' i hi'] at this
    simpa using this
  · have hsz : d'.size = l.length := by simpa using hp.1
    have hperm : d'.toList.Perm l := by
      have h2 := hp.2.2
      simp at h2
      rwa [List.take_of_length_le (by simp [hsz])] at h2
    have hrd : ∀ x ∈ d'.toList, Rep.rd w' F (enc x) x := by
      intro x hx
      obtain ⟨i, hi, rfl⟩ := List.getElem_of_mem (hperm.subset hx)
      exact hre w' _ F _ (hcs i hi).2
    have hE' : Els w' F (d'.toList.map enc) d'.toList := UC hrd
    have hfl := hE'.flat
    have hlen' : d'.toList.length = l.length := by simpa using hsz
    have hcur : (putCells id 0 (flatK enc (Rep.k α) d') cur).size = cur.size := by simp [putCells]
    have hchg : Chg (fun i => i = gb) w w' := by rw [hw]; exact XH hblk
    have hle : l.length * Rep.k α ≤ cur.size := by rw [hs]; exact Nat.mul_le_mul_right _ hn
    refine ⟨⟨_, hE', by rw [hfl], .inr ⟨gb, capn, _, by rw [hlen'], hg, by rw [hw]; exact Wm hb, by rw [hlen']; exact hn, hm, by rw [hcur]; exact hs, ?_⟩⟩, ho.apart, fun b hb' => ⟨Nat.lt_of_lt_of_le (ho.bound b hb').1 hchg.size, fun hl => hchg.soft b ((ho.bound b hb').2 hl)⟩, by rw [hlen']; exact ho.small⟩
    refine List.ext_getElem? fun j => ?_
    rw [hlen', List.getElem?_take]
    split
    · rename_i hj
      have hd : j / Rep.k α < d'.toList.length := by rw [hlen']; exact (Nat.div_lt_iff_lt_mul kpos).2 hj
      obtain ⟨cs, hr, hc⟩ := hE'.at_ (j / Rep.k α) hd
      have e := henc w' F cs _ hr
      subst e
      have hm' : j % Rep.k α < (enc (d'.toList[j / Rep.k α])).length := by rw [hlen]; exact Nat.mod_lt _ kpos
      have h1 := hc (j % Rep.k α) hm'
      rw [show j / Rep.k α * Rep.k α + j % Rep.k α = j by rw [Nat.mul_comm]; exact Nat.div_add_mod j (Rep.k α)] at h1
      rw [h1]
      have hjc : j < cur.size := by omega
      have hjk : j < d'.size * Rep.k α := by rw [hsz]; exact hj
      have hd2 : j / Rep.k α < d'.size := by simpa using hd
      rw [Array.getElem?_toList, Array.getElem?_eq_getElem (by rw [hcur]; exact hjc)]
      simp only [putCells, Array.getElem_mapIdx, Nat.zero_le, true_and, Nat.zero_add, size_flatK, hjk, if_true, Nat.sub_zero, id]
      have e1 : d'[j / Rep.k α]! = d'[j / Rep.k α] := getElem!_pos d' (j / Rep.k α) hd2
      have e0 : d'.toList[j / Rep.k α] = d'[j / Rep.k α] := by simp
      rw [e0] at hm'
      have e2 : (enc d'[j / Rep.k α])[j % Rep.k α]! = (enc d'[j / Rep.k α])[j % Rep.k α] := getElem!_pos (enc d'[j / Rep.k α]) (j % Rep.k α) hm'
      rw [get_flatK _ _ _ _ hjk, e1, e2]
      simp
    · rename_i hj
      rw [List.getElem?_eq_none (by rw [hfl, hlen']; omega)]
end Go.Proofs.YtojlbibionhdjaaGreatDoor
set_option maxRecDepth 8000
set_option maxHeartbeats 4000000
namespace Go.Proofs.YtojlbibionhdjaaGreatDoor
open Go.Proofs Go.RowKit

def Yc (a b : Row) : Int := if a.group < b.group then -1 else 1
theorem UR (a b : Row) : ltOf Yc a b = decide (a.group < b.group) := by
  unfold ltOf Yc
  by_cases h : a.group < b.group <;> simp [h]
theorem zaS : Go.Sort.SWO (ltOf Yc) where
  irrefl x := by rw [UR]; simp
  trans x y z h1 h2 := by rw [UR] at *; simp at *; omega
  ntrans x y z h1 h2 := by rw [UR] at *; simp at *; omega

theorem Ky {w : World} {x : Row} {y : Row} : Ret Tryz.prog 69 [.agg (x.cells).toArray, .agg (y.cells).toArray] w (fun r w' => r = .int .i64 (Yc x y) ∧ Ext w w') := by
  refine zk (args := [.agg (x.cells).toArray, .agg (y.cells).toArray]) Tryz.func69 rfl rfl ?_
  refine za ?_
  refine zt (by kernel_rfl) (fun _ => ?_)
  refine st (zS (v := .agg (x.cells).toArray) rfl (fun w1 b2 hn1 => ?_))
  have hb3 : w1.heap[b2]? = some (.cells (x.cells).toArray 44) := hn1.at_
  have hs4 := hn1.size; have hs4e := hn1.eq
  refine st (zS (v := .agg (y.cells).toArray) rfl (fun w2 b6 hn5 => ?_))
  have hb7 : w2.heap[b6]? = some (.cells (y.cells).toArray 44) := hn5.at_
  have hs8 := hn5.size; have hs8e := hn5.eq
  refine st (zv (v := .int .i64 (0)) rfl ?_)
  refine zb ?_
  refine za ?_
  refine za ?_
  refine zt (by kernel_rfl) (fun _ => ?_)
  refine st (VP rfl ?_)
  have h9 := hn5.ext.keep hb3 (fun h => h)
  refine st (ye (v := .int .i64 (x.group)) nT rfl (zd h9 rfl) ?_)
  refine st (VP rfl ?_)
  refine st (ye (v := .int .i64 (y.group)) nT rfl (zd hb7 rfl) ?_)
  refine st (zJ (k := .i64) (a := x.group) (b := y.group) rfl rfl ?_)
  refine zb ?_
  cases hc10 : decide (x.group < y.group)
  · skip
    have hc10 := of_decide_eq_false hc10
    refine zf rfl ?_
    refine zn ?_
    refine za ?_
    refine zt (by kernel_rfl) (fun _ => ?_)
    refine st (zv (v := .int .i64 (1)) rfl ?_)
    refine zb ?_
    refine zm ?_
    refine zT nR (show _ = (.int .i64 (1) : Value) from rfl) ?_
    refine ⟨?_, (Chg.trans hn1.ext hn5.ext)⟩
    unfold Yc
    (repeat (first | rw [if_pos (by omega)] | rw [if_neg (by omega)]))
  · skip
    have hc10 := of_decide_eq_true hc10
    refine zi rfl ?_
    refine za ?_
    refine zt (by kernel_rfl) (fun _ => ?_)
    refine st (zv (v := .int .i64 (-1)) rfl ?_)
    refine zb ?_
    refine zm ?_
    refine zT nR (show _ = (.int .i64 (-1) : Value) from rfl) ?_
    refine ⟨?_, (Chg.trans hn1.ext hn5.ext)⟩
    unfold Yc
    (repeat (first | rw [if_pos (by omega)] | rw [if_neg (by omega)]))

theorem Jo (x : Row) : ∀ u ∈ x.cells, u.oneCell' = true := yf ⟨rfl, rfl, rfl, trivial⟩
theorem VY {lo : Nat} {w : World} {v : Value} {l : List Row} (ho : OwnS 44 lo w (fun _ => False) v l) : Ret Tryz.prog 68 [v, .func (.func 69) #[] #[]] w (fun r w' => r = .tuple #[] ∧ Chg (fun b => v.ownBlock = some b) w w' ∧ ∃ l', List.Perm l' l ∧ l'.Pairwise (fun a b => ltOf Yc b a = false) ∧ OwnS 44 lo w' (fun _ => False) v l') := by
  have hs : _ * 24 ≤ _ := ho.small
  exact Uk (α := Row) JJ oR sT (enc := fun q => q.cells) (fun _ _ _ _ h => h.1) (fun _ => rfl) Jo zaS (g := 69) (cap := []) Tryz.call69 ho (fun W x y => Ky) (fun _ _ _ _ h => h) (by omega)

theorem zau {w : World} {a m : Nat} {p : Prj} (ha : w.heap[a]? = some (.cells #[.int .i64 (p.ptyp), .int .i64 (p.pfield), .int .i64 (p.pgroup), .int .i64 (p.pby), .int .i64 (p.pmake), .map (some m)] 122)) (op : p.Ok) {L : List (Int × Row)} (hm : MapR w (fun _ => False) m L) (ham : a ≠ m) (hgrp : ∀ q ∈ L, q.1 = q.2.group) (hLs : L.length ≤ 1000000) : Ret Tryz.prog 44 [.pointer (some ⟨a, 0, none⟩)] w (fun r w' => Ext w w' ∧ Fresh 44 w.heap.size w' r (XR (L.map (·.2)))) := by
  have hml := hm.lt
  have hal := yV ha
  refine zk (args := [.pointer (some ⟨a, 0, none⟩)]) Tryz.func44 rfl rfl ?_
  refine za ?_
  refine zt (by kernel_rfl) (fun _ => ?_)
  refine st (zv (v := (.slice none 0 0)) rfl ?_)
  refine zb ?_
  refine za ?_
  refine zt (by kernel_rfl) (fun _ => ?_)
  refine st (zv (v := (.slice none 0 0)) rfl ?_)
  refine zb ?_
  refine za ?_
  refine za ?_
  refine zt (by kernel_rfl) (fun _ => ?_)
  refine st (zq (v := .pointer (some ⟨a, 0, none⟩)) rfl ?_)
  refine st (zl (b := a) (o := 0) rfl ?_)
  refine st (Wz rfl ?_)
  refine st (ye (v := .map (some m)) Tryz.isAgg120 rfl (zd ha rfl) ?_)
  refine st (QG (α := Row) Tryz.underlying120 rfl hm ?_)
  rintro w1 it1 hx2 he3 hl4 hit5
  have hx2s := hx2.size
  refine zb ?_
  refine zp ?_
  refine zZ (fun mq σ wq => ∃ (idx : List Nat) (vo : Value) (ρ : Env), mq = L.length - idx.length ∧ σ = ya ρ [(3, vo), (10, .pointer (some ⟨it1, 0, none⟩))] ∧ (Ext w wq) ∧ (IterR wq it1 m L (fun _ => False) idx) ∧ (OwnS 44 (it1 + 1) wq (fun _ => False) vo (pick L idx)) ∧ (it1 < wq.heap.size)) ⟨[], (.slice none 0 0), _, rfl, yE ⟨rfl, rfl, trivial⟩, hx2, hit5, OwnS.nil _ _ _ _ (fun _ h => h.elim), by omega⟩ ?_
  rintro m6 σ7 w2 ⟨idx, vo, ρ2, rfl, rfl, hxL, hitL, hoL, hszL⟩
  have hxLs := hxL.size
  have hpl : (pick L idx).length = idx.length := by simp [pick]
  refine za ?_
  refine zt (by kernel_rfl) (fun _ => ?_)
  refine st (JL rfl hitL (fun h => h) (by omega) ?_ ?_)
  · intro hperm8
    refine st (zF (vs := [.bool false]) (i := 0) (v := .bool false) rfl rfl ?_)
    refine zb ?_
    refine za ?_
    refine zf rfl ?_
    refine zY ?_
    refine zR ?_
    refine za ?_
    refine zt (by kernel_rfl) (fun _ => ?_)
    refine st (zq (v := vo) rfl ?_)
    refine st (zL (f := 68) (vals := [vo, .func (.func 69) #[] #[]]) (cap := []) rfl rfl Tryz.call68 (VY hoL) ?_)
    rintro _ w3 ⟨rfl, hch15, l19, hp16, hs17, ho18⟩
    have hch15s := hch15.size
    refine zb ?_
    refine za ?_
    refine zt (by kernel_rfl) (fun _ => ?_)
    refine st (zq (v := vo) rfl ?_)
    refine st (zv (v := vo) rfl ?_)
    refine zb ?_
    refine zm ?_
    refine zT Tryz.results44 (show _ = (vo : Value) from rfl) ?_
    have hl := Vf hgrp hm.nodup (hp16.trans (Qa hperm8)) (hs17.imp (fun {a b} h => by rw [UR] at h; simpa using h))
    subst hl
    exact ⟨(Chg.new hxL hch15 (fun i hi hO => by have := (hoL.lt i hO).1; omega)), (show Fresh 44 (it1 + 1) _ _ _ from ⟨_, ho18, fun _ h => h.elim⟩).low (by omega)⟩
  · rintro w4 j9 hj10 hj11 hj12 hit13 hch14 u v
    have hch14s := hch14.size
    refine st (zF (vs := [.bool true, u, v]) (i := 0) (v := .bool true) rfl rfl ?_)
    refine zb ?_
    refine za ?_
    refine zi rfl ?_
    refine zn ?_
    refine zp ?_
    refine za ?_
    refine zt (by kernel_rfl) (fun _ => ?_)
    refine st (KX rfl hit13 ?_)
    rintro hj20 _ ⟨rfl, ok21⟩ hr22
    refine st (zF (vs := [.int .i64 (L[j9].1), .agg ((L[j9].2).cells).toArray]) (i := 1) (v := .agg ((L[j9].2).cells).toArray) rfl rfl ?_)
    refine st (zI pR (fun w5 b24 hn23 => ?_))
    have hb25 : w5.heap[b24]? = some (.cells #[.int .i64 (0), .int .i64 (0), .int .i64 (0)] 44) := hn23.at_
    have hs26 := hn23.size; have hs26e := hn23.eq
    refine stn (zA (v := .agg ((L[j9].2).cells).toArray) (c' := ((L[j9].2).cells).toArray) sT rfl rfl hb25 (yf ⟨rfl, rfl, rfl, trivial⟩) (Nat.le_of_ble_eq_true rfl) rfl (fun w6 hp27 => ?_))
    have hs28 := hp27.size
    refine zb ?_
    refine zt (by kernel_rfl) (fun _ => ?_)
    refine st (zq (v := vo) rfl ?_)
    refine st (zg (k := 3) oR sT rfl rfl (CellsAt.all hp27.at_) ?_)
    refine st (zD (k := 3) (parts' := [(0, .agg ((L[j9].2).cells).toArray)]) (c := ((L[j9].2).cells).toArray) lR sT pR (by decide) rfl (by kernel_rfl) (fun w7 b30 hn29 => ?_))
    have hb31 : w7.heap[b30]? = some (.cells ((L[j9].2).cells).toArray 44) := hn29.at_
    have hs32 := hn29.size; have hs32e := hn29.eq
    have h36 := (OwnS.ext (OwnS.chg (OwnS.ext (OwnS.chg hoL hch14 (fun b hb hO => by have h1 := hoL.lt b hb; have hO : b = it1 := hO; omega) (fun _ h => h.elim)) hn23.ext) hp27.chg (fun b hb hO => by have h1 := hoL.lt b hb; have hO : b = b24 := hO; omega) (fun _ h => h.elim)) hn29.ext)
    refine st (Uh (bytes := 24) (x1 := (L[j9].2)) (F' := (fun _ => False)) zay rfl h36 rfl hb31 (G := fun _ => False) (show Rep.rd _ _ _ _ from ⟨rfl, ok21⟩) (fun _ h => h) (fun _ _ h => h) h36.apart h36.bound (by omega) (by first | omega | (simp only [List.length_take, List.length_drop, List.length_nil, List.length_append, List.length_cons]; omega)) rfl (fun v33 w8 ho34 hch35 => ?_))
    have hla37 : (pick L idx ++ [(L[j9].2)]).length = (pick L idx).length + 1 := by simp only [List.length_append, List.length_cons, List.length_nil]
    have hs38 := hch35.size
    refine st (zv (v := v33) rfl ?_)
    refine zb ?_
    have h39 := (IterR.chg (IterR.ext (IterR.chg (IterR.ext hit13 hn23.ext) hp27.chg (fun e => by have e : it1 = b24 := e; omega) (fun e => by have e : m = b24 := e; omega) (fun _ h => h.elim)) hn29.ext) hch35 (fun hO => by have := (h36.lt _ hO).1; omega) (fun hO => by have := (h36.lt _ hO).1; omega) (fun _ h => h.elim))
    exact ⟨_, by simp only [List.length_append, List.length_cons, List.length_nil]; omega, idx ++ [j9], v33, _, rfl, yE ⟨rfl, rfl, trivial⟩, (Chg.new (Chg.trans (Chg.new (Chg.trans (Chg.new hxL hch14 (fun i hi hO => by have hO : i = it1 := hO; omega)) hn23.ext) hp27.chg (fun i hi hO => by subst hO; omega)) hn29.ext) hch35 (fun i hi hO => by have := (h36.lt i hO).1; omega)), h39, (by rw [KY (by assumption)]; exact ho34), by omega⟩

theorem JA {G : Nat → Prop} {W w : World} {Rs : List HP} {a : Nat} {p : Prj} {L : List (Int × Row)} (hS0 : Sep G W ((ProjO a p L) :: Rs) w) (hgrp : ∀ q ∈ L, q.1 = q.2.group) (hLs : L.length ≤ 1000000) : Ret Tryz.prog 44 [.pointer (some ⟨a, 0, none⟩)] w (fun r w' => ∃ (v : Value), r = (v : Value) ∧ Sep G W ((ProjO a p L) :: (RowE (α := Row) own 44 v (XR (L.map (·.2)))) :: Rs) w') := by
  obtain ⟨f, hA, hl⟩ := hS0.get (i := 0) rfl
  obtain ⟨op, m, hb, hm, hne, hfa, hfm⟩ := ProjO.get hA
  refine Ret.mono (zau hb op hm hne hgrp hLs) ?_
  rintro r w1 ⟨hx, hF⟩
  exact ⟨r, rfl, (hS0.push hx (RowE.ofFresh hF) (fun _ h => h)).sel 2 [1, 0] (Nat.le_add_left _ _) rfl rfl⟩

theorem ZipW.back2 {α β : Type} [Rep α] [Inhabited α] [Inhabited β] {A : α → β → HP} {sh : List α} {l : List β} {G : Nat → Prop} {W w : World} {As : List HP} {i : Nat} {c : β} (hn : sh.length = l.length) (hi : i < l.length) (hc : l.getD i default = c) (h : Sep G W (A (sh.getD i default) c :: Star ((Zip A sh l).set i Emp) :: As) w) : Sep G W (Star (Zip A sh l) :: As) w := by
  subst hc; exact ZipW.back hn hi h
def Zn (d : Dcl) (l : List Ev) (p : Prj) : List Row := XR ((xx d p l).map (·.2))
def yJ (d : Dcl) (l : List Ev) (i : Int) : List Row := if i < 0 ∨ ((d.projs.length : Nat) : Int) ≤ i then [] else Zn d l (d.projs.getD i.toNat default)
theorem Xq {G : Nat → Prop} {W w : World} {Rs : List HP} {b : Nat} {d : Dcl} {every : Nat} {evs : List Ev} (hS0 : Sep G W ((BaseO b d every evs) :: Rs) w) : Ret Tryz.prog 15 [.pointer (some ⟨b, 0, none⟩)] w (fun r w' => ∃ (v : Value), r = (v : Value) ∧ Sep G W ((BaseO b d every evs) :: (RowE (α := Ent) own 66 v (zu d evs)) :: Rs) w') := by
 refine zk (args := [Ix b 0]) Tryz.func15 rfl rfl ?_
 obtain ⟨l, h, i, j, c, k, e, s⟩ := BaseO.open hS0
 have a : Sep G W ((Blk b #[h, i, Iw every, j, Ix c 0, k, e] 81) :: (RowE (α := Typ) own 84 h d.types) :: (RowE (α := Prj) own 46 i d.projs) :: (RowE (α := Ev) own 64 j evs) :: (ViewO c d (zu d evs) (zu d evs)) :: (zU k (prs d evs)) :: (yG e (yo d every evs)) :: Rs) w := s
 have t := a.r1
 have hr9s : _ * 24 ≤ _ := t.2
 have m := a.r2
 have hr10s : _ * 40 ≤ _ := m.2
 have n := a.r3
 have hr11s : _ * 96 ≤ _ := n.2
 refine za (R0 fun _ => st (aS (Iz) (zb (za (R0 fun _ => st (mV (Ix b 0) (st (zl (b := b) (o := 0) rfl (st (xM rfl (st (WI rfl (st (lD (Ix c 0) Tryz.isAgg75 rfl (zd (a.b0) rfl) (st (cL Tryz.call43 (QA  (a.mv4)) ?_))))))))))))))))
 rintro f u ⟨_, rfl, g⟩
 have p := g.r1
 have hr16s : _ * 120 ≤ _ := p.2
 refine st (aS f (zb (zm (zT Tryz.results15 (show _ = (f : Value) from rfl) ?_))))
 have q : Sep G W ((BaseO b d every evs) :: (RowE (α := Ent) own 66 f (zu d evs)) :: Rs) u := BaseO.close (d := d) (every := every) (evs := evs) l (g.s8_cdefaghb)
 refine ⟨f, rfl, q⟩

theorem WY {G : Nat → Prop} {W w : World} {Rs : List HP} {b : Nat} {d : Dcl} {every : Nat} {evs : List Ev} {q : Int} (hq : InR q) (hS0 : Sep G W ((BaseO b d every evs) :: Rs) w) (hfew : evs.length ≤ 1000) : Ret Tryz.prog 16 [.pointer (some ⟨b, 0, none⟩), .int .i64 (q)] w (fun r w' => ∃ (v : Value), r = (v : Value) ∧ Sep G W ((BaseO b d every evs) :: (RowE (α := Row) own 44 v (yJ d evs q)) :: Rs) w') := by
 refine zk (args := [Ix b 0, Iv q]) Tryz.func16 rfl rfl ?_
 obtain ⟨E, l, m, p, f, h, g, ae⟩ := BaseO.open hS0
 let ah := ViewO f d (zu d evs) (zu d evs)
 let ag := Blk b #[l, m, Iw every, p, Ix f 0, h, g] 81
 have x : Sep G W (ag :: (RowE (α := Typ) own 84 l d.types) :: (RowE (α := Prj) own 46 m d.projs) :: (RowE (α := Ev) own 64 p evs) :: ah :: (zU h (prs d evs)) :: (yG g (yo d every evs)) :: Rs) w := ae
 have af := x.r1
 have hr9s : _ * 24 ≤ _ := af.2
 have P := x.r2
 have hr10s : _ * 40 ≤ _ := P.2
 have Q := x.r3
 have hr11s : _ * 96 ≤ _ := Q.2
 refine za (R0 fun _ => st (aS (Iz) (zb (za (za ?_)))))
 obtain ⟨e, s, R⟩ := ZipW.open (x.mv5)
 have t : Sep G W ((RowE (α := PtC) own 93 h e) :: (Star (Zip xo e (prs d evs))) :: ag :: (RowE (α := Typ) own 84 l d.types) :: (RowE (α := Prj) own 46 m d.projs) :: (RowE (α := Ev) own 64 p evs) :: ah :: (yG g (yo d every evs)) :: Rs) w := R
 have z := t.r0
 have hr16s : _ * 8 ≤ _ := z.2
 have hsl9 : e.length = d.projs.length := by rw [s, Zf]
 refine zH kr (st (mV (Iv q) (st (zJ (k := .i64) (a := q) (b := 0) rfl rfl (st (mV (.bool (decide (q < 0))) (stc (V := Iv q) rfl rfl (fun S => ?_) ?_)))))))
 have hl18 := fD S
 exact mV (Iv q) ⟨rfl, rfl⟩
 refine stc (V := Ix b 0) rfl rfl (fun T => ?_) ?_
 have hl20 := fD T
 exact mV (Ix b 0) ⟨rfl, rfl⟩
 refine stc (V := Ix b 0) rfl rfl (fun F => ?_) ?_
 have hl22 := fD F
 exact zl (b := b) (o := 0) (if_pos F) ⟨rfl, rfl⟩
 refine stc (V := Ix b 4) rfl rfl (fun H => ?_) ?_
 have hl24 := fD H
 exact xM (if_pos H) ⟨rfl, rfl⟩
 refine stc (V := Ix b 5) rfl rfl (fun I => ?_) ?_
 have hl26 := fD I
 exact ZA (if_pos I) ⟨rfl, rfl⟩
 refine stc (V := h) rfl rfl (fun J => ?_) ?_
 have hl28 := fD J
 exact lD h qR (if_pos J) (zd (t.b2) rfl) ⟨rfl, rfl⟩
 refine stc (V := Iw e.length) rfl rfl (fun K => ?_) ?_
 have hl30 := fD K
 exact zG (n := e.length) rR (if_pos K) z.1 ⟨rfl, rfl⟩
 refine stc (V := .bool (decide (((e.length : Nat) : Int) ≤ q))) rfl rfl (fun A => ?_) ?_
 have hl32 := fD A
 exact xS (k := .i64) (a := q) (b := ((e.length : Nat) : Int)) (if_pos A) (if_pos A) ⟨rfl, rfl⟩
 refine st (zx (b := decide (q < 0)) (b' := decide (((e.length : Nat) : Int) ≤ q)) rfl (fun hbp => (if_pos hbp)) (zb ?_))
 cases B : (decide (q < 0)) || (decide (((e.length : Nat) : Int) ≤ q))
 have hc33r := B
 try simp only [zh] at B
 refine zf rfl (zn (za ?_))
 have L : Sep G W ((ProjO ((e.getD q.toNat default).b) (((prs d evs).getD q.toNat default).1) (((prs d evs).getD q.toNat default).2)) :: (Star ((Zip xo e (prs d evs)).set q.toNat Emp)) :: (RowE (α := PtC) own 93 h e) :: (Blk b #[l, m, Iw every, p, Ix f 0, h, g] 81) :: (RowE (α := Typ) own 84 l d.types) :: (RowE (α := Prj) own 46 m d.projs) :: (RowE (α := Ev) own 64 p evs) :: (ViewO f d (zu d evs) (zu d evs)) :: (yG g (yo d every evs)) :: Rs) w := ZipW.take s (by rw [Zf]; omega) (t.mv1)
 have O : (prs d evs).getD q.toNat default = ((d.projs.getD q.toNat default), xx d (d.projs.getD q.toNat default) evs) := Wu om
 rw [O] at L
 have C : Sep G W ((ProjO ((e.getD q.toNat default).b) (d.projs.getD q.toNat default) (xx d (d.projs.getD q.toNat default) evs)) :: (Star ((Zip xo e (prs d evs)).set q.toNat Emp)) :: (RowE (α := PtC) own 93 h e) :: ag :: (RowE (α := Typ) own 84 l d.types) :: (RowE (α := Prj) own 46 m d.projs) :: (RowE (α := Ev) own 64 p evs) :: ah :: (yG g (yo d every evs)) :: Rs) w := L
 refine R0 fun _ => st (mV (Ix b 0) (st (zl (b := b) (o := 0) rfl (st (xM rfl (st (ZA rfl (st (lD h qR rfl (zd (C.b3) rfl) (st (mV (Iv q) ?_)))))))))))
 have hi37 : q.toNat < e.length := bo
 refine st (zN (k := 1) (i := q) rR Tryz.sizeOf93 rfl z.1 rfl ⟨by omega, by omega⟩ ?_)
 have U : q.toNat < e.length := bo
 obtain ⟨_, _, y, rfl, hpke38⟩ := C.rowAtD (i := 2) (j := q.toNat) rfl U
 have y : CellsAt _ _ _ [Ix ((e.getD q.toNat default).b) 0] := y
 refine st (lD (Ix ((e.getD q.toNat default).b) 0) Tryz.isAgg93 rfl (y.get (j := 0) rfl) (st (cL Tryz.call44 (JA  C ((ZI d (d.projs.getD q.toNat default) evs).grp) ((by have h9 := (ZI d (d.projs.getD q.toNat default) evs).len; omega))) ?_)))
 rintro u M ⟨_, rfl, N⟩
 have X := N.r1
 have hr43s : _ * 24 ≤ _ := X.2
 refine st (aS u (zb (zm (zT sR (show _ = (u : Value) from rfl) ?_))))
 have Y : Sep G W ((Star (Zip xo e (prs d evs))) :: (RowE (α := Row) own 44 u (XR ((xx d (d.projs.getD q.toNat default) evs).map (·.2)))) :: (RowE (α := PtC) own 93 h e) :: (Blk b #[l, m, Iw every, p, Ix f 0, h, g] 81) :: (RowE (α := Typ) own 84 l d.types) :: (RowE (α := Prj) own 46 m d.projs) :: (RowE (α := Ev) own 64 p evs) :: (ViewO f d (zu d evs) (zu d evs)) :: (yG g (yo d every evs)) :: Rs) M := ZipW.back2 (c := (((d.projs.getD q.toNat default), xx d (d.projs.getD q.toNat default) evs) : PR)) s (by rw [Zf]; omega) O (N.s10_acbdefghij)
 have Z : Sep G W ((zU h (prs d evs)) :: (RowE (α := Row) own 44 u (XR ((xx d (d.projs.getD q.toNat default) evs).map (·.2)))) :: ag :: (RowE (α := Typ) own 84 l d.types) :: (RowE (α := Prj) own 46 m d.projs) :: (RowE (α := Ev) own 64 p evs) :: ah :: (yG g (yo d every evs)) :: Rs) M := ZipW.mk s (Y.mv2)
 have aa : Sep G W ((BaseO b d every evs) :: (RowE (α := Row) own 44 u (XR ((xx d (d.projs.getD q.toNat default) evs).map (·.2)))) :: Rs) M := BaseO.close (d := d) (every := every) (evs := evs) E (Z.s8_cdefgahb)
 have D : yJ d evs q = Zn d evs (d.projs.getD q.toNat default) := by unfold yJ; rw [if_neg (by omega)]
 rw [D]
 refine ⟨u, rfl, aa⟩
 try simp only [zh] at B
 refine zi rfl (za (R0 fun _ => st (aS (Iz) (zb (zm (zT sR (show _ = ((Iz) : Value) from rfl) ?_))))))
 have ab : Sep G W ((zU h (prs d evs)) :: ag :: (RowE (α := Typ) own 84 l d.types) :: (RowE (α := Prj) own 46 m d.projs) :: (RowE (α := Ev) own 64 p evs) :: ah :: (yG g (yo d every evs)) :: Rs) w := ZipW.mk s t
 have ac : Sep G W ((BaseO b d every evs) :: Rs) w := BaseO.close (d := d) (every := every) (evs := evs) E (ab.s7_bcdefag)
 have ad : Sep _ _ ((RowE (α := Row) own 44 (Iz) ([] : List Row)) :: _) _ := ac.rowNil own 44
 have D : yJ d evs q = [] := by unfold yJ; rw [if_pos (by omega)]
 rw [D]
 refine ⟨(Iz), rfl, (ad.mv1)⟩

def Uniq (l : List Ev) : Prop := ∀ i j, i < l.length → j < l.length → xN (l.getD i default) (l.getD j default) → i = j
theorem Uniq.nil : Uniq [] := fun i j hi => absurd hi (Nat.not_lt_zero i)
theorem Uniq.snoc {l : List Ev} {x : Ev} (h : Uniq l) (hx : ∀ i, i < l.length → ¬ xN (l.getD i default) x) : Uniq (l ++ [x]) := by
  have g1 : ∀ i, i < l.length → (l ++ [x]).getD i default = l.getD i default := fun i hi => by rw [List.getD_eq_getElem?_getD, List.getD_eq_getElem?_getD, List.getElem?_append_left hi]
  have g2 : ∀ i, i < (l ++ [x]).length → ¬ i < l.length → i = l.length ∧ (l ++ [x]).getD i default = x := fun i hi hn => by
    rw [List.length_append, List.length_singleton] at hi
    obtain rfl : i = l.length := by omega
    exact ⟨rfl, by rw [List.getD_eq_getElem?_getD, List.getElem?_append_right (Nat.le_refl _), Nat.sub_self]; rfl⟩
  intro i j hi hj hs
  by_cases h1 : i < l.length
  · rw [g1 i h1] at hs
    by_cases h2 : j < l.length
    · rw [g1 j h2] at hs; exact h i j h1 h2 hs
    · rw [(g2 j hj h2).2] at hs; exact absurd hs (hx i h1)
  · rw [(g2 i hi h1).2] at hs
    by_cases h2 : j < l.length
    · rw [g1 j h2] at hs; exact absurd ⟨hs.1.symm, hs.2.symm⟩ (hx j h2)
    · rw [(g2 i hi h1).1, (g2 j hj h2).1]
theorem Uniq.one {l a b : List Ev} (h : Uniq l) (ha : ∀ x ∈ a, x ∈ l) (hb : ∀ x ∈ b, x ∈ l) : VL a b := fun x hx y hy hs => by
  obtain ⟨i, hi, rfl⟩ := List.getElem_of_mem (ha x hx)
  obtain ⟨j, hj, rfl⟩ := List.getElem_of_mem (hb y hy)
  have := h i j hi hj (by rw [zw _ hi, zw _ hj]; exact hs)
  subst this; rfl
theorem Wo {l : List Ev} {i : Nat} (h : i < l.length) : l.getD i default ∈ l := by rw [zw _ h]; exact List.getElem_mem h
theorem QD {l o : List Ev} {x : Ev} (h : ∀ y ∈ o, y ∈ l) (hx : x ∈ l) : ∀ y ∈ o ++ [x], y ∈ l := fun y hy => (List.mem_append.1 hy).elim (h y) (fun h1 => by rw [List.mem_singleton.1 h1]; exact hx)
theorem UT {l o : List Ev} {x : Ev} {i : Nat} (h : ∀ y ∈ o, y ∈ l) (hx : x ∈ l) : ∀ y ∈ o.set i x, y ∈ l := fun y hy => (List.mem_or_eq_of_mem_set hy).elim (h y) (fun e => e ▸ hx)
theorem Ji {G : Nat → Prop} {W w : World} {Rs : List HP} {n : Int} (hn : InR n) {vl : Value} {l : List Ev} (hl : RdS W G vl l) (hS0 : Sep G W Rs w) : Ret Tryz.prog 10 [.int .i64 (n), vl] w (fun r w' => ∃ (v : Value) (out : List Ev), r = (v : Value) ∧ (out.length ≤ 40) ∧ (Uniq out) ∧ Sep G W ((RowE (α := Ev) (shr G W) 64 v out) :: Rs) w') := by
 have hls : _ * 96 ≤ _ := hl.small
 refine zk (args := [Iv n, vl]) Tryz.func10 rfl rfl ?_
 refine za (R0 fun _ => st (aS (Iz) (zb (za (R0 fun _ => st (mV (Iv n) (st (mV vl (st (cL Tryz.call34 (QE (n := n) (l := l) (vl := vl) hn hl hS0) ?_))))))))))
 rintro o w5 ⟨_, f, rfl, h603, hft4, aC⟩
 have P := aC.r0
 have hr7s : _ * 96 ≤ _ := P.2
 refine st (aS o (zb (za (R0 fun _ => st (aS (Iz) (zb (za (za (R0 fun _ => st (aS (Iv 0) (zb (zp ?_))))))))))))
 have aO : Sep _ _ ((RowE (α := Ev) (shr G W) 64 (Iz) ([] : List Ev)) :: _) _ := aC.rowNil (shr G W) 64
 refine zZ (fun mq σ Y => ∃ (k : Nat) (vo : Value) (d : List Ev) (ρ : Env), mq = f.length - k ∧ σ = ya ρ [(1, o), (4, (Iz)), (5, vo), (6, Iw k)] ∧ (k ≤ f.length) ∧ (d.length ≤ 40) ∧ (Uniq d) ∧ Sep G W ((RowE (α := Ev) (shr G W) 64 vo d) :: (RowE (α := Ev) (shr G W) 64 o f) :: Rs) Y) ⟨0, (Iz), [], _, rfl, sSf, Nat.zero_le _, Nat.zero_le _, Uniq.nil, aO⟩ ?_
 rintro m10 σ11 w9 ⟨k, vo, d, ρl1, rfl, rfl, hkk, aD, M, N⟩
 have A := N.r0
 have hr13s : _ * 96 ≤ _ := A.2
 refine za (za (zH kr (st (mV (Iw k) (st (mV o (st (zG (n := f.length) kT rfl P.1 (st (zJ (k := .i64) (a := ((k : Nat) : Int)) (b := ((f.length : Nat) : Int)) rfl rfl (st (mV (.bool (decide (((k : Nat) : Int) < ((f.length : Nat) : Int)))) (stc (V := vo) rfl rfl (fun aF => ?_) ?_)))))))))))))
 have hl15 := tD aF
 exact mV vo ⟨rfl, rfl⟩
 refine stc (V := Iw d.length) rfl rfl (fun Z => ?_) ?_
 have hl17 := tD Z
 exact zG (n := d.length) kT (if_pos Z) A.1 ⟨rfl, rfl⟩
 refine stc (V := .bool (decide (((d.length : Nat) : Int) < 40))) rfl rfl (fun aa => ?_) ?_
 have hl19 := tD aa
 exact zJ (k := .i64) (a := ((d.length : Nat) : Int)) (b := 40) (if_pos aa) rfl ⟨rfl, rfl⟩
 refine st (zB (b := decide (((k : Nat) : Int) < ((f.length : Nat) : Int))) (b' := decide (((d.length : Nat) : Int) < 40)) rfl (fun hbp => (if_pos hbp)) (zb ?_))
 cases O : (decide (((k : Nat) : Int) < ((f.length : Nat) : Int))) && (decide (((d.length : Nat) : Int) < 40))
 have hc20r := O
 try simp only [zh] at O
 refine zf rfl (zY (zR (za (R0 fun _ => st (mV vo (st (aS vo (zb (zm (zT Tryz.results10 (show _ = (vo : Value) from rfl) ?_))))))))))
 refine ⟨vo, d, rfl, ?_, ?_, (N.s2_a)⟩
 exact aD
 exact M
 try simp only [zh] at O
 refine zi rfl (zn (za (zp (za (R0 fun _ => st (aS (.bool false) (zb (za (za (R0 fun _ => st (aS (Iv 0) (zb (zp (zZ (fun mq σ Y => ∃ (j : Nat) (m : Bool) (ρ : Env), mq = d.length - j ∧ σ = ya ρ [(1, o), (4, (Iz)), (5, vo), (6, Iw k), (7, .bool m), (8, Iw j)] ∧ (j ≤ d.length) ∧ (m = false → ∀ i, i < j → ¬ xN (d.getD i default) (f.getD k default)) ∧ Sep G W ((RowE (α := Ev) (shr G W) 64 vo d) :: (RowE (α := Ev) (shr G W) 64 o f) :: Rs) Y) ⟨0, false, _, rfl, sSf, Nat.zero_le _, (fun _ i hi => absurd hi (Nat.not_lt_zero i)), N⟩ ?_))))))))))))))
 rintro m23 σ24 w22 ⟨j, m, ρl2, rfl, rfl, hjj, ab, B⟩
 refine za (za (R0 fun _ => st (mV (Iw j) (st (mV vo (st (zG (n := d.length) kT rfl A.1 (st (zJ (k := .i64) (a := ((j : Nat) : Int)) (b := ((d.length : Nat) : Int)) rfl rfl (zb ?_))))))))))
 cases z : decide (((j : Nat) : Int) < ((d.length : Nat) : Int))
 have hc26r := z
 have z := fD z
 refine zf rfl (zY (zR (za (R0 fun _ => st (mV (.bool m) (st (yK (a := m) rfl (zb ?_))))))))
 cases C : !m
 have hc27r := C
 try simp only [zh] at C
 refine zf rfl (zn (R0 fun _ => st (mV (Iw k) ?_)))
 have aG : InR ((k + 1 : Nat) : Int) := bo
 refine st (zO (r := ((k + 1 : Nat) : Int)) (k := .i64) (a := ((k : Nat) : Int)) (b := 1) rfl rfl (by rw [show (((k : Nat) : Int) + 1 : Int) = ((k + 1 : Nat) : Int) from bo]; exact zy aG) (st (aS (Iw (k + 1)) (zb ?_))))
 exact ⟨_, by omega, k + 1, vo, d, _, rfl, sSf, by omega, aD, M, B⟩
 try simp only [zh] at C
 refine zi rfl (R0 fun _ => st (mV vo (st (mV o (st (mV (Iw k) ?_))))))
 have aH : k < f.length := bo
 refine st (ze (k := 10) (i := k) kT lT rfl P.1 rfl aH ?_)
 have aI : k < f.length := bo
 obtain ⟨_, _, ai, L, rfl, X, ac⟩ := B.rowAtD (i := 1) (j := k) rfl aI
 refine st (zg (k := 10) mT lT rfl rfl ai (st (zD (k := 10) (parts' := [(0, .agg ((f.getD k default).cells L).toArray)]) (c := ((f.getD k default).cells L).toArray) kT lT oT dc rfl kr ?_)))
 intro w34 b33 aJ
 have ad := B.new aJ
 have aj := ad.b0
 refine st (yv (src := (shr G W)) (bytes := 96) (x1 := (f.getD k default)) ((ad.s3_bc).emp1) Ql rfl rfl aj (fun _ _ _ => (show _ from ⟨_, rfl, X, ac⟩)) yqb rfl ?_)
 intro aE w36 ae
 have aK := ae.r0
 have hr42s : _ * 96 ≤ _ := aK.2
 refine st (aS aE (zb (R0 fun _ => st (mV (Iw k) ?_))))
 have aL : InR ((k + 1 : Nat) : Int) := bo
 refine st (zO (r := ((k + 1 : Nat) : Int)) (k := .i64) (a := ((k : Nat) : Int)) (b := 1) rfl rfl (by rw [show (((k : Nat) : Int) + 1 : Int) = ((k + 1 : Nat) : Int) from bo]; exact zy aL) (st (aS (Iw (k + 1)) (zb ?_))))
 exact ⟨_, by omega, k + 1, aE, (d ++ [(f.getD k default)]), _, rfl, sSf, by omega, (by rw [List.length_append, List.length_singleton]; omega), (M.snoc (fun i hi => ab (by have h9 := C; simpa using h9) i (by omega))), ae⟩
 have z := tD z
 refine zi rfl (zn (za (zp ?_)))
 refine WD4 (WF [fun vals Y => Sep G W ((RowE (α := Ev) (shr G W) 64 vo d) :: (RowE (α := Ev) (shr G W) 64 o f) :: Rs) Y]) (AF [Vl 0 (.bool m), Vl 1 (.bool m), Vl 2 (if m = false then vo else undef), Vl 3 (if m = false then Iw j else undef), Vl 4 (if m = false then Ix (sb vo) (so vo + j * 10) else undef), Vl 5 (if m = false then Ix (sb vo) (so vo + j * 10) else undef), Vl 6 (if m = false then .agg #[Iv ((d.getD j default).origin), Iv ((d.getD j default).seq)] else undef), Vl 7 (if m = false then o else undef), Vl 8 (if m = false then Iw k else undef), Vl 9 (if m = false then Ix (sb o) (so o + k * 10) else undef), Vl 10 (if m = false then Ix (sb o) (so o + k * 10) else undef), Vl 11 (if m = false then .agg #[Iv ((f.getD k default).origin), Iv ((f.getD k default).seq)] else undef), Vl 12 (if m = false then .bool (decide ((d.getD j default).origin = (f.getD k default).origin ∧ (d.getD j default).seq = (f.getD k default).seq)) else undef), Vl 13 (.bool (m || (decide ((d.getD j default).origin = (f.getD k default).origin ∧ (d.getD j default).seq = (f.getD k default).seq)))), Vl 14 (.bool (m || (decide ((d.getD j default).origin = (f.getD k default).origin ∧ (d.getD j default).seq = (f.getD k default).seq))))]) [[], [0], [0, 1], [0, 1], (rg 4), (rg 5), (rg 6), [0, 1], [0, 1], [0, 1, 7, 8], [0, 1, 7, 8, 9], [0, 1, 7, 8, 9, 10], (rg 12), (rg 13), (rg 14)] [] [(0, 0), (0, 0), (0, 0), (0, 0), (0, 0), (0, 0), (0, 0), (0, 0), (0, 0), (0, 0), (0, 0), (0, 0), (0, 0), (0, 0), (0, 0)] B ⟨fun _ _ _ _ _ _ _ => obl rfl (mV (.bool m) dR), fun _ _ _ _ _ _ ak => obl rfl (zq (v := .bool m) (ak 0 dc) dR), ?_, ?_, ?_, ?_, ?_, ?_, ?_, ?_, ?_, ?_, ?_, fun _ _ _ _ _ _ Q => obl rfl (zx (b := m) (b' := decide ((d.getD j default).origin = (f.getD k default).origin ∧ (d.getD j default).seq = (f.getD k default).seq)) (Q 1 dc) (fun hbp => (Eq.trans (Q 12 dc) (if_pos hbp))) dR), fun _ _ _ _ _ _ al => obl rfl (zv (v := .bool (m || (decide ((d.getD j default).origin = (f.getD k default).origin ∧ (d.getD j default).seq = (f.getD k default).seq)))) (al 13 dc) dR), trivial⟩ ?_
 refine fun _ _ _ _ _ _ am => (zz rfl rfl (am 1 dc) (fun D => ?_) (fun D => fun g h _ => ⟨trivial, h.trans (if_neg D).symm⟩))
 exact mV vo (fun g h _ => ⟨rfl, h.trans (if_pos D).symm⟩)
 refine fun _ _ _ _ _ _ an => (zz rfl rfl (an 1 dc) (fun E => ?_) (fun E => fun g h _ => ⟨trivial, h.trans (if_neg E).symm⟩))
 exact mV (Iw j) (fun g h _ => ⟨rfl, h.trans (if_pos E).symm⟩)
 refine ob1 0 fun _ _ _ F => (zz rfl rfl (F 1 dc) (fun p => ?_) (fun p => fun g h _ => ⟨trivial, h.trans (if_neg p).symm⟩))
 have ao : j < d.length := bo
 exact ze (k := 10) (i := j) kT lT (Eq.trans (F 2 dc) (if_pos p)) A.1 (Eq.trans (F 3 dc) (if_pos p)) ao (fun g h _ => ⟨rfl, h.trans (if_pos p).symm⟩)
 refine fun _ _ _ _ _ _ R => (zz rfl rfl (R 1 dc) (fun t => ?_) (fun t => fun g h _ => ⟨trivial, h.trans (if_neg t).symm⟩))
 exact xu (Eq.trans (R 4 dc) (if_pos t)) (fun g h _ => ⟨rfl, h.trans (if_pos t).symm⟩)
 refine ob1 0 fun _ _ (ap : Sep _ _ _ _) S => (zz rfl rfl (S 1 dc) (fun u => ?_) (fun u => fun g h _ => ⟨trivial, h.trans (if_neg u).symm⟩))
 have aq : j < d.length := bo
 obtain ⟨_, _, ag, de257_0, rfl, hde257_0, hoke257⟩ := ap.rowAtD (i := 0) (j := j) rfl aq
 exact zg (k := 2) (cs := [Iv ((d.getD j default).origin), Iv ((d.getD j default).seq)]) qT rT rfl (Eq.trans (S 5 dc) (if_pos u)) (CellsAt.sub ag 0 (cs2 := [Iv ((d.getD j default).origin), Iv ((d.getD j default).seq)]) rfl) (fun g h _ => ⟨rfl, h.trans (if_pos u).symm⟩)
 refine fun _ _ _ _ _ _ ar => (zz rfl rfl (ar 1 dc) (fun H => ?_) (fun H => fun g h _ => ⟨trivial, h.trans (if_neg H).symm⟩))
 exact mV o (fun g h _ => ⟨rfl, h.trans (if_pos H).symm⟩)
 refine fun _ _ _ _ _ _ au => (zz rfl rfl (au 1 dc) (fun I => ?_) (fun I => fun g h _ => ⟨trivial, h.trans (if_neg I).symm⟩))
 exact mV (Iw k) (fun g h _ => ⟨rfl, h.trans (if_pos I).symm⟩)
 refine ob1 0 fun _ _ _ J => (zz rfl rfl (J 1 dc) (fun q => ?_) (fun q => fun g h _ => ⟨trivial, h.trans (if_neg q).symm⟩))
 have av : k < f.length := bo
 exact ze (k := 10) (i := k) kT lT (Eq.trans (J 7 dc) (if_pos q)) P.1 (Eq.trans (J 8 dc) (if_pos q)) av (fun g h _ => ⟨rfl, h.trans (if_pos q).symm⟩)
 refine fun _ _ _ _ _ _ T => (zz rfl rfl (T 1 dc) (fun x => ?_) (fun x => fun g h _ => ⟨trivial, h.trans (if_neg x).symm⟩))
 exact xu (Eq.trans (T 9 dc) (if_pos x)) (fun g h _ => ⟨rfl, h.trans (if_pos x).symm⟩)
 refine ob1 0 fun _ _ (aw : Sep _ _ _ _) U => (zz rfl rfl (U 1 dc) (fun y => ?_) (fun y => fun g h _ => ⟨trivial, h.trans (if_neg y).symm⟩))
 have ax : k < f.length := bo
 obtain ⟨_, _, ah, de311_0, rfl, hde311_0, hoke311⟩ := aw.rowAtD (i := 1) (j := k) rfl ax
 exact zg (k := 2) (cs := [Iv ((f.getD k default).origin), Iv ((f.getD k default).seq)]) qT rT rfl (Eq.trans (U 10 dc) (if_pos y)) (CellsAt.sub ah 0 (cs2 := [Iv ((f.getD k default).origin), Iv ((f.getD k default).seq)]) rfl) (fun g h _ => ⟨rfl, h.trans (if_pos y).symm⟩)
 refine ob1 0 fun _ _ _ K => (zz rfl rfl (K 1 dc) (fun s => ?_) (fun s => fun g h _ => ⟨trivial, h.trans (if_neg s).symm⟩))
 exact ZL (e := decide ((d.getD j default).origin = (f.getD k default).origin ∧ (d.getD j default).seq = (f.getD k default).seq)) (xs := #[Iv ((d.getD j default).origin), Iv ((d.getD j default).seq)]) (ys := #[Iv ((f.getD k default).origin), Iv ((f.getD k default).seq)]) zab (Eq.trans (K 6 dc) (if_pos s)) (Eq.trans (K 11 dc) (if_pos s)) (fun g h _ => ⟨rfl, h.trans (if_pos s).symm⟩)
 intro vals w340 ay az
 have aA : Sep _ _ _ _ := ay
 have aM := az 14 dc
 refine zW (kv := [(1, o), (4, (Iz)), (5, vo), (6, Iw k), (7, .bool (m || (decide ((d.getD j default).origin = (f.getD k default).origin ∧ (d.getD j default).seq = (f.getD k default).seq)))), (8, Iw j), (23, Iw j), (24, vo), (25, Iw d.length), (26, .bool true)]) ⟨rfl, rfl, rfl, rfl, (by exact aM), rfl, rfl, rfl, rfl, rfl, trivial⟩ (fun ρw340 => (zb (R0 fun _ => st (mV (Iw j) ?_))))
 have aB : InR ((j + 1 : Nat) : Int) := bo
 refine st (zO (r := ((j + 1 : Nat) : Int)) (k := .i64) (a := ((j : Nat) : Int)) (b := 1) rfl rfl (by rw [show (((j : Nat) : Int) + 1 : Int) = ((j + 1 : Nat) : Int) from bo]; exact zy aB) (st (aS (Iw (j + 1)) (zb ?_))))
 exact ⟨_, by omega, j + 1, (m || (decide ((d.getD j default).origin = (f.getD k default).origin ∧ (d.getD j default).seq = (f.getD k default).seq))), _, rfl, sSf, by omega, (fun h9 i hi => by simp only [Bool.or_eq_false_iff, decide_eq_false_iff_not] at h9; rcases Nat.lt_or_eq_of_le (Nat.le_of_lt_succ hi) with h1 | h1; exact ab h9.1 i h1; subst h1; exact h9.2), aA⟩

theorem KU {G : Nat → Prop} {W w : World} {Rs : List HP} {vl : Value} {l : List Ev} (hl : RdS W G vl l) {t : Trn} (ot : t.Ok) (hS0 : Sep G W Rs w) (hl9 : l.length ≤ 1000) : Ret Tryz.prog 14 [vl, .agg (t.cells).toArray] w (fun r w' => ∃ (v : Value) (x : List Ev), r = (v : Value) ∧ (x.length ≤ l.length) ∧ (∀ y ∈ x, y ∈ l) ∧ Sep G W ((RowE (α := Ev) (shr G W) 64 v x) :: Rs) w') := by
 have hls : _ * 96 ≤ _ := hl.small
 refine zk (args := [vl, .agg (t.cells).toArray]) Tryz.func14 rfl rfl ?_
 refine za (R0 fun _ => st (zS (v := .agg (t.cells).toArray) rfl ?_))
 intro w3 b2 aX
 have ap := hS0.new aX
 refine st (aS (Iz) (zb (za (R0 fun _ => st (aS (Iz) (zb (za (R0 fun _ => st (zaq rfl ?_)))))))))
 refine st (lD (Iv (t.first)) nT rfl (zd (ap.b0) rfl) (st (mV vl (st (zG (n := l.length) kT rfl hl.sl ?_)))))
 have aY : InR ((l.length + 1 : Nat) : Int) := bo
 refine st (zO (r := ((l.length + 1 : Nat) : Int)) (k := .i64) (a := ((l.length : Nat) : Int)) (b := 1) rfl rfl (by rw [show (((l.length : Nat) : Int) + 1 : Int) = ((l.length + 1 : Nat) : Int) from bo]; exact zy aY) ?_)
 refine st (cL tT (Wx (x := t.first) (n := l.length + 1) ot.first yqi ap) ?_)
 rintro _ w8 ⟨q6, rfl, hq7, aq⟩
 refine st (aS (Iw q6) (zb (za (R0 fun _ => st (zaE rfl (st (lD (Iv (t.most)) nT rfl (zd (aq.b0) rfl) (st (mV vl (st (zG (n := l.length) kT rfl hl.sl ?_)))))))))))
 have ar : InR ((l.length + 1 : Nat) : Int) := bo
 refine st (zO (r := ((l.length + 1 : Nat) : Int)) (k := .i64) (a := ((l.length : Nat) : Int)) (b := 1) rfl rfl (by rw [show (((l.length : Nat) : Int) + 1 : Int) = ((l.length + 1 : Nat) : Int) from bo]; exact zy ar) ?_)
 refine st (cL tT (Wx (x := t.most) (n := l.length + 1) ot.most yqi aq) ?_)
 rintro _ w13 ⟨z, rfl, hq12, P⟩
 refine st (aS (Iw z) (zb (za (R0 fun _ => st (zbe rfl (st (lD (Iv (t.skip)) nT rfl (zd (P.b0) rfl) ?_)))))))
 refine st (cL tT (Wx (x := t.skip) (n := 9) ot.skip yqi P) ?_)
 rintro _ w17 ⟨f, rfl, hq16, au⟩
 have av : InR ((1 + f : Nat) : Int) := bo
 refine st (zO (r := ((1 + f : Nat) : Int)) (k := .i64) (a := 1) (b := ((f : Nat) : Int)) rfl rfl (by rw [show (1 + ((f : Nat) : Int) : Int) = ((1 + f : Nat) : Int) from bo]; exact zy av) (st (aS (Iw (1 + f)) (zb (za (za (zt (by kernel_rfl) (fun _ => (st (mV (Iw q6) (st (aS (Iw q6) (zb (zp ?_))))))))))))))
 have aw : Sep _ _ ((RowE (α := Ev) (shr G W) 64 (Iz) ([] : List Ev)) :: _) _ := au.rowNil (shr G W) 64
 refine zZ (fun mq σ wq => ∃ (k : Nat) (vo : Value) (g : List Ev) (ρ : Env), mq = l.length - k ∧ σ = ya ρ [(0, vl), (3, Ix b2 0), (4, (Iz)), (7, Iw z), (8, Iw (1 + f)), (5, vo), (9, Iw k)] ∧ (k ≤ l.length ∧ g.length ≤ k) ∧ (∀ x ∈ g, x ∈ l) ∧ Sep G W ((RowE (α := Ev) (shr G W) 64 vo g) :: (Blk b2 (t.cells).toArray 38) :: Rs) wq) ⟨q6, (Iz), [], _, rfl, sSf, ⟨by omega, Nat.zero_le _⟩, (fun x h => absurd h List.not_mem_nil), aw⟩ ?_
 rintro m22 σ23 w21 ⟨k, vo, g, ρl1, rfl, rfl, hkk, H, A⟩
 have Q := A.r0
 have hr25s : _ * 96 ≤ _ := Q.2
 refine za (za (zH kr (st (mV (Iw k) (st (mV vl (st (zG (n := l.length) kT rfl hl.sl (st (zJ (k := .i64) (a := ((k : Nat) : Int)) (b := ((l.length : Nat) : Int)) rfl rfl (st (mV (.bool (decide (((k : Nat) : Int) < ((l.length : Nat) : Int)))) (stc (V := vo) rfl rfl (fun ay => ?_) ?_)))))))))))))
 have hl27 := tD ay
 exact mV vo ⟨rfl, rfl⟩
 refine stc (V := Iw g.length) rfl rfl (fun R => ?_) ?_
 have hl29 := tD R
 exact zG (n := g.length) kT (if_pos R) Q.1 ⟨rfl, rfl⟩
 refine stc (V := Iw z) rfl rfl (fun az => ?_) ?_
 have hl31 := tD az
 exact mV (Iw z) ⟨rfl, rfl⟩
 refine stc (V := .bool (decide (((g.length : Nat) : Int) < ((z : Nat) : Int)))) rfl rfl (fun I => ?_) ?_
 have hl33 := tD I
 exact zJ (k := .i64) (a := ((g.length : Nat) : Int)) (b := ((z : Nat) : Int)) (if_pos I) (if_pos I) ⟨rfl, rfl⟩
 refine st (zB (b := decide (((k : Nat) : Int) < ((l.length : Nat) : Int))) (b' := decide (((g.length : Nat) : Int) < ((z : Nat) : Int))) rfl (fun hbp => (if_pos hbp)) (zb ?_))
 cases J : (decide (((k : Nat) : Int) < ((l.length : Nat) : Int))) && (decide (((g.length : Nat) : Int) < ((z : Nat) : Int)))
 have hc34r := J
 try simp only [zh] at J
 refine zf rfl (zY (zR (za (za (R0 fun _ => st (aS (Iv 0) (zb (zp (zZ (fun mq σ wq => ∃ (e : Nat) (d : List Ev) (ρ : Env), mq = d.length - e ∧ σ = ya ρ [(0, vl), (3, Ix b2 0), (4, (Iz)), (5, vo), (10, Iw e)] ∧ (d.length ≤ l.length) ∧ (∀ x ∈ d, x ∈ l) ∧ Sep G W ((RowE (α := Ev) (shr G W) 64 vo d) :: (Blk b2 (t.cells).toArray 38) :: Rs) wq) ⟨0, g, _, rfl, sSf, by omega, H, A⟩ ?_)))))))))
 rintro m36 σ37 w35 ⟨e, d, ρl2, rfl, rfl, aA, E, B⟩
 have q := B.r0
 have hr39s : _ * 96 ≤ _ := q.2
 refine za (za (zH kr (st (zba rfl (st (lD (.bool (t.back)) kR rfl (zd (B.b1) rfl) (st (mV (.bool (t.back)) (stc (V := Iw e) rfl rfl (fun hb40 => ?_) ?_)))))))))
 exact mV (Iw e) ⟨rfl, rfl⟩
 refine stc (V := vo) rfl rfl (fun hb42 => ?_) ?_
 exact mV vo ⟨rfl, rfl⟩
 refine stc (V := Iw d.length) rfl rfl (fun aB => ?_) ?_
 exact zG (n := d.length) kT (if_pos aB) q.1 ⟨rfl, rfl⟩
 refine stc (V := Iw (d.length / 2)) rfl rfl (fun aC => ?_) ?_
 exact KM (r := ((d.length / 2 : Nat) : Int)) (if_pos aC) rfl (by omega) (by rw [show Int.tdiv (((d.length : Nat) : Int)) (2) = ((d.length / 2 : Nat) : Int) from (Int.ofNat_tdiv _ _).symm]; exact zy (by omega)) ⟨rfl, rfl⟩
 refine stc (V := .bool (decide (((e : Nat) : Int) < ((d.length / 2 : Nat) : Int)))) rfl rfl (fun S => ?_) ?_
 exact zJ (k := .i64) (a := ((e : Nat) : Int)) (b := ((d.length / 2 : Nat) : Int)) (if_pos S) (if_pos S) ⟨rfl, rfl⟩
 refine st (zB (b := t.back) (b' := decide (((e : Nat) : Int) < ((d.length / 2 : Nat) : Int))) rfl (fun hbp => (if_pos hbp)) (zb ?_))
 cases K : t.back && (decide (((e : Nat) : Int) < ((d.length / 2 : Nat) : Int)))
 have hc50r := K
 try simp only [zh] at K
 refine zf rfl (zY (zR (za (R0 fun _ => st (mV vo (st (aS vo (zb (zm (zT Tryz.results14 (show _ = (vo : Value) from rfl) ?_))))))))))
 refine ⟨vo, d, rfl, ?_, ?_, (B.s2_a)⟩
 exact aA
 exact E
 try simp only [zh] at K
 refine zi rfl (zn (za (zp (za (R0 fun _ => st (mV vo (st (zG (n := d.length) kT rfl q.1 ?_))))))))
 have aD : InR ((d.length - 1 : Nat) : Int) := bo
 refine st (ZU (r := ((d.length - 1 : Nat) : Int)) (k := .i64) (a := ((d.length : Nat) : Int)) (b := 1) rfl rfl (by rw [show (((d.length : Nat) : Int) - 1 : Int) = ((d.length - 1 : Nat) : Int) from bo]; exact zy aD) (st (mV (Iw e) ?_)))
 have aE : InR (((d.length - 1) - e : Nat) : Int) := bo
 refine st (ZU (r := (((d.length - 1) - e : Nat) : Int)) (k := .i64) (a := ((d.length - 1 : Nat) : Int)) (b := ((e : Nat) : Int)) rfl rfl (by rw [show (((d.length - 1 : Nat) : Int) - ((e : Nat) : Int) : Int) = (((d.length - 1) - e : Nat) : Int) from bo]; exact zy aE) (st (aS (Iw ((d.length - 1) - e)) (zb (za (zt (by kernel_rfl) (fun _ => (st (mV vo (st (mV (Iw e) ?_)))))))))))
 have aF : e < d.length := bo
 refine st (ze (k := 10) (i := e) kT lT rfl q.1 rfl aF ?_)
 have aG : e < d.length := bo
 obtain ⟨_, _, aj, m, rfl, s, T⟩ := B.rowAtD (i := 0) (j := e) rfl aG
 refine st (zg (k := 10) mT lT rfl rfl aj (st (zI oT ?_)))
 intro w59 b58 aH
 have U := B.new aH
 refine stn (zA (v := .agg ((d.getD e default).cells m).toArray) (c' := ((d.getD e default).cells m).toArray) lT rfl rfl (U.b0) (yf ⟨rfl, rfl, rfl, s.sl.one, rfl, rfl, rfl, rfl, rfl, rfl, trivial⟩) yqc rfl ?_)
 intro w61 aI
 have X := U.pt0 aI
 refine zb (za (R0 fun _ => st (mV vo (st (mV (Iw e) (st (mV vo (st (mV (Iw ((d.length - 1) - e)) ?_)))))))))
 have aJ : (d.length - 1) - e < d.length := bo
 refine st (ze (k := 10) (i := (d.length - 1) - e) kT lT rfl q.1 rfl aJ ?_)
 have aK : (d.length - 1) - e < d.length := bo
 obtain ⟨_, _, ak, p, rfl, C, Y⟩ := X.rowAtD (i := 1) (j := (d.length - 1) - e) rfl aK
 refine st (zg (k := 10) mT lT rfl rfl ak ?_)
 have aL : e < d.length := bo
 refine st (ze (k := 10) (i := e) kT lT rfl q.1 rfl aL ?_)
 refine stn (xa (α := Ev) (j := e) (o := 0) (u := .agg ((d.getD ((d.length - 1) - e) default).cells p).toArray) (us := (d.getD ((d.length - 1) - e) default).cells p) (x1 := (d.getD ((d.length - 1) - e) default)) ((X.mv1).emp1) lT bo rfl rfl rfl (Nat.le_of_ble_eq_true rfl) (yf ⟨rfl, rfl, rfl, C.sl.one, rfl, rfl, rfl, rfl, rfl, rfl, trivial⟩) (fun _ _ F hel _ => (by have Z := Src.len _ hel; have e0 : F.take 0 ++ ((d.getD ((d.length - 1) - e) default).cells p) ++ F.drop (0 + ((d.getD ((d.length - 1) - e) default).cells p).length) = ((d.getD ((d.length - 1) - e) default).cells p) := (by rw [List.drop_eq_nil_of_le (by rw [Z]; exact Nat.le_of_ble_eq_true rfl)]; simp); rw [e0]; exact (show _ from ⟨_, rfl, C, Y⟩))) ?_)
 intro w68 L
 have aa := L.r0
 have hr72s : _ * 96 ≤ _ := aa.2
 refine zb (R0 fun _ => st (mV vo (st (mV (Iw ((d.length - 1) - e)) (st (zg (k := 10) mT lT rfl rfl (CellsAt.all (L.b1)) ?_))))))
 have aN : (d.length - 1) - e < (d.set e (d.getD ((d.length - 1) - e) default)).length := bo
 refine st (ze (k := 10) (i := (d.length - 1) - e) kT lT rfl aa.1 rfl aN ?_)
 refine stn (xa (α := Ev) (j := (d.length - 1) - e) (o := 0) (u := .agg ((d.getD e default).cells m).toArray) (us := (d.getD e default).cells m) (x1 := (d.getD e default)) (L.emp1) lT bo rfl rfl rfl (Nat.le_of_ble_eq_true rfl) (yf ⟨rfl, rfl, rfl, s.sl.one, rfl, rfl, rfl, rfl, rfl, rfl, trivial⟩) (fun _ _ F hel _ => (by have Z := Src.len _ hel; have e0 : F.take 0 ++ ((d.getD e default).cells m) ++ F.drop (0 + ((d.getD e default).cells m).length) = ((d.getD e default).cells m) := (by rw [List.drop_eq_nil_of_le (by rw [Z]; exact Nat.le_of_ble_eq_true rfl)]; simp); rw [e0]; exact (show _ from ⟨_, rfl, s, T⟩))) ?_)
 intro w74 ab
 have aO := ab.r0
 have hr77s : _ * 96 ≤ _ := aO.2
 refine zb (R0 fun _ => st (mV (Iw e) ?_))
 have aP : InR ((e + 1 : Nat) : Int) := bo
 refine st (zO (r := ((e + 1 : Nat) : Int)) (k := .i64) (a := ((e : Nat) : Int)) (b := 1) rfl rfl (by rw [show (((e : Nat) : Int) + 1 : Int) = ((e + 1 : Nat) : Int) from bo]; exact zy aP) (st (aS (Iw (e + 1)) (zb ?_))))
 exact ⟨_, by simp only [List.length_set]; omega, e + 1, ((d.set e (d.getD ((d.length - 1) - e) default)).set ((d.length - 1) - e) (d.getD e default)), _, rfl, sSf, by simp only [List.length_set]; omega, (UT (UT E (E _ (Wo (by omega)))) (E _ (Wo (by omega)))), (ab.s3_ac)⟩
 try simp only [zh] at J
 refine zi rfl (zn (za (zp (za (zH kr (st (mV (Iw (1 + f)) (st (zJ (k := .i64) (a := ((1 + f : Nat) : Int)) (b := 3) rfl rfl (st (mV (.bool (decide (((1 + f : Nat) : Int) < 3))) (stc (V := Iw k) rfl rfl (fun aQ => ?_) ?_))))))))))))
 have hl81 := fD aQ
 exact mV (Iw k) ⟨rfl, rfl⟩
 refine stc (V := Iw (1 + f)) rfl rfl (fun aR => ?_) ?_
 have hl83 := fD aR
 exact mV (Iw (1 + f)) ⟨rfl, rfl⟩
 refine stc (V := Iw (k % (1 + f))) rfl rfl (fun M => ?_) ?_
 have hl85 := fD M
 have aT : (0 : Int) < ((1 + f : Nat) : Int) := by omega
 have h086m : k % (1 + f) < (1 + f) := Nat.mod_lt _ om
 exact Ku (r := ((k % (1 + f) : Nat) : Int)) (if_pos M) (if_pos M) aT (Int.ofNat_tmod _ _).symm ⟨rfl, rfl⟩
 refine stc (V := .bool (!decide (((k % (1 + f) : Nat) : Int) = 1))) rfl rfl (fun ac => ?_) ?_
 have hl88 := fD ac
 exact yw (k := .i64) (a := ((k % (1 + f) : Nat) : Int)) (b := 1) (if_pos ac) rfl ⟨rfl, rfl⟩
 refine st (zx (b := decide (((1 + f : Nat) : Int) < 3)) (b' := !decide (((k % (1 + f) : Nat) : Int) = 1)) rfl (fun hbp => (if_pos hbp)) (zb ?_))
 cases N : (decide (((1 + f : Nat) : Int) < 3)) || (!decide (((k % (1 + f) : Nat) : Int) = 1))
 have hc89r := N
 try simp only [zh] at N
 refine zf rfl (zn (R0 fun _ => st (mV (Iw k) ?_)))
 have aU : InR ((k + 1 : Nat) : Int) := bo
 refine st (zO (r := ((k + 1 : Nat) : Int)) (k := .i64) (a := ((k : Nat) : Int)) (b := 1) rfl rfl (by rw [show (((k : Nat) : Int) + 1 : Int) = ((k + 1 : Nat) : Int) from bo]; exact zy aU) (st (aS (Iw (k + 1)) (zb ?_))))
 exact ⟨_, by omega, k + 1, vo, g, _, rfl, sSf, ⟨by omega, by omega⟩, H, A⟩
 try simp only [zh] at N
 refine zi rfl (R0 fun _ => st (mV vo (st (mV vl (st (mV (Iw k) ?_))))))
 have aV : k < l.length := bo
 refine st (ze (k := 10) (i := k) kT lT rfl hl.sl rfl aV ?_)
 have ad : k < l.length := bo
 obtain ⟨al, D, ae⟩ := hl.evD ad
 have hsm94 : ((l.getD k default).deps).length * 8 ≤ 140737488355328 := D.small
 have am := A.cells al (hl.foot (ne_of_lt ad))
 refine st (zg (k := 10) mT lT rfl rfl am (st (zD (k := 10) (parts' := [(0, .agg ((l.getD k default).cells (zC W (sb vl) (so vl + k * 10 + 3))).toArray)]) (c := ((l.getD k default).cells (zC W (sb vl) (so vl + k * 10 + 3))).toArray) kT lT oT dc rfl kr ?_)))
 intro w98 b97 aW
 have af := A.new aW
 have ag := af.b0
 refine st (yv (src := (shr G W)) (bytes := 96) (x1 := (l.getD k default)) ((af.s3_bc).emp1) Ql rfl rfl ag (fun _ _ _ => (show _ from ⟨_, rfl, D, ae⟩)) yqb rfl ?_)
 intro ah w100 O
 have an := O.r0
 have hr106s : _ * 96 ≤ _ := an.2
 refine st (aS ah (zb (R0 fun _ => st (mV (Iw k) ?_))))
 have ao : InR ((k + 1 : Nat) : Int) := bo
 refine st (zO (r := ((k + 1 : Nat) : Int)) (k := .i64) (a := ((k : Nat) : Int)) (b := 1) rfl rfl (by rw [show (((k : Nat) : Int) + 1 : Int) = ((k + 1 : Nat) : Int) from bo]; exact zy ao) (st (aS (Iw (k + 1)) (zb ?_))))
 exact ⟨_, by omega, k + 1, ah, (g ++ [(l.getD k default)]), _, rfl, sSf, ⟨by omega, by rw [List.length_append, List.length_singleton]; omega⟩, (QD H (Wo (by omega))), O⟩

theorem zax {P : Program} {d : Option Tmp} {ty : TypeId} {pos : String} {af : Array Edge} {g : Option (Nat × Bool)} {σ : Env} {w : World} {K : Value → World → Prop} {x y : Operand} {t t2 : TypeId} {k yk : IntKind} {a b r : Int} (hx : ev σ x = .int k a) (hy : ev σ y = .int yk b) (h0 : 0 ≤ b) (h1 : b ≤ k.bits) (hr : k.wrap (a * 2 ^ b.toNat) = r) (h : K (.int k r) w) : opV P ⟨d, .binOp .shl t x y t2, ty, pos, af, g⟩ σ w K :=
  zM (v := .int k r) (w' := w) (by subst hr; simp [execOp, hx, hy, eqGuard, binOp, shift_shl k yk a b h0 h1, go_sem]) h
def dC : Dcl := ⟨[⟨[⟨1, 1, false, []⟩]⟩], [⟨0, 0, 1, 0, 2⟩]⟩
def fiv : List Ev := [⟨0, 1, 1, [0], 0, 0, 0, 1, 1, 0⟩, ⟨0, 2, 2, [1], 0, 0, 0, 1, 2, 0⟩, ⟨0, 3, 3, [2], 0, 0, 0, 1, 4, 0⟩, ⟨0, 4, 4, [3], 0, 0, 0, 1, 8, 0⟩, ⟨0, 5, 5, [4], 0, 0, 0, 1, 16, 0⟩]
theorem Yk {P : Nat → Prop} (h0 : P 0) (h1 : P 1) (h2 : P 2) (h3 : P 3) (h4 : P 4) {k : Nat} (h : k < 5) : P k := by
  match k, h with
  | 0, _ => exact h0
  | 1, _ => exact h1
  | 2, _ => exact h2
  | 3, _ => exact h3
  | 4, _ => exact h4
theorem zaA {k : Nat} (h : k < 5) : InR ((2 ^ k : Nat) : Int) := Yk (P := fun k => InR ((2 ^ k : Nat) : Int)) (by decide) (by decide) (by decide) (by decide) (by decide) h
theorem zbl {k : Nat} (h : k < 5) : IntKind.i64.wrap (1 * 2 ^ ((k : Nat) : Int).toNat) = ((2 ^ k : Nat) : Int) := Yk (P := fun k => IntKind.i64.wrap (1 * 2 ^ ((k : Nat) : Int).toNat) = ((2 ^ k : Nat) : Int)) rfl rfl rfl rfl rfl h
theorem XZ {k : Nat} (h : k < 5) (d : Value) : (fiv.getD k default).cells d = [.int .i64 0, .int .i64 ((k + 1 : Nat) : Int), .int .i64 ((k + 1 : Nat) : Int), d, .int .i64 0, .int .i64 0, .int .i64 0, .int .i64 1, .int .i64 ((2 ^ k : Nat) : Int), .int .i64 0] := Yk (P := fun k => (fiv.getD k default).cells d = [.int .i64 0, .int .i64 ((k + 1 : Nat) : Int), .int .i64 ((k + 1 : Nat) : Int), d, .int .i64 0, .int .i64 0, .int .i64 0, .int .i64 1, .int .i64 ((2 ^ k : Nat) : Int), .int .i64 0]) rfl rfl rfl rfl rfl h
theorem zbh {k : Nat} (h : k < 5) : (fiv.getD k default).Ok := Yk (P := fun k => (fiv.getD k default).Ok) (by constructor <;> decide) (by constructor <;> decide) (by constructor <;> decide) (by constructor <;> decide) (by constructor <;> decide) h
theorem KR {k : Nat} (h : k < 5) : [((k : Nat) : Int)] = (fiv.getD k default).deps := Yk (P := fun k => [((k : Nat) : Int)] = (fiv.getD k default).deps) rfl rfl rfl rfl rfl h
instance (a b : Ev) : Decidable (xN a b) := inferInstanceAs (Decidable (_ ∧ _))
instance (l m : List Ev) : Decidable (VL l m) := inferInstanceAs (Decidable (∀ a ∈ l, ∀ b ∈ m, xN a b → a = b))
theorem Xj : DclOk dC := by
  have one : ∀ {P : Nat → Prop}, P 0 → ∀ i, i < 1 → P i := fun {P} h i hi => (show i = 0 by omega) ▸ h
  refine ⟨Nat.le_refl 1, (by show 1 ≤ 8; decide), one (P := fun i => TypOk (dC.types.getD i default)) ?_⟩
  refine ⟨Nat.le_refl 1, (by show 1 ≤ 8; decide), ?_, ?_, ?_, ?_⟩
  · intro i hi; obtain rfl : i = 0 := by have : i < 1 := hi; omega
    exact ⟨(by decide : (1 : Int) ≤ 1), (by decide : (1 : Int) ≤ 4)⟩
  · intro i hi h; obtain rfl : i = 0 := by have : i < 1 := hi; omega
    cases h
  · intro i hi; obtain rfl : i = 0 := by have : i < 1 := hi; omega
    exact ⟨fun h => absurd h (by show ¬ (1 : Int) = 4; decide), Nat.zero_le _⟩
  · intro i hi j hj; obtain rfl : i = 0 := by have : i < 1 := hi; omega
    exact absurd hj (Nat.not_lt_zero j)
theorem YH : YD dC := ⟨by decide, fun i hi => (show i = 0 by have : i < 1 := hi; omega) ▸ ⟨by decide, ⟨by decide, by decide⟩, by decide, by decide⟩⟩
theorem zbn {G : Nat → Prop} {W w : World} {Rs : List HP}  (hS0 : Sep G W Rs w) : Ret Tryz.prog 30 [] w (fun r w' => ∃ (v : Value), r = (v : Value) ∧ Sep G W ((RowE (α := Ev) own 64 v fiv) :: Rs) w') := by
 refine zk (args := []) Tryz.func30 rfl rfl ?_
 refine za (R0 fun _ => st (aS (Iz) (zb (za (R0 fun _ => st (aS (Iz) (zb (za (za (R0 fun _ => st (aS (Iv 0) (zb (zp ?_)))))))))))))
 have z : Sep G W ((RowE (α := Ev) own 64 (Iz) ([] : List Ev)) :: Rs) w := hS0.rowNil own 64
 refine zZ (fun mq σ F => ∃ (k : Nat) (vo : Value) (ρ : Env), mq = 5 - k ∧ σ = ya ρ [(0, (Iz)), (2, Iw k), (1, vo)] ∧ (k ≤ 5) ∧ Sep G W ((RowE (α := Ev) own 64 vo (fiv.take k)) :: Rs) F) ⟨0, (Iz), _, rfl, sSf, Nat.zero_le _, z⟩ ?_
 rintro m3 σ4 w2 ⟨k, vo, ρl1, rfl, rfl, hkk, h⟩
 have A := h.r0
 have hr6s : _ * 96 ≤ _ := A.2
 refine za (za (R0 fun _ => st (mV (Iw k) (st (zJ (k := .i64) (a := ((k : Nat) : Int)) (b := 5) rfl rfl (zb ?_))))))
 cases g : decide (((k : Nat) : Int) < 5)
 have g := fD g
 have B : k = 5 := by omega
 subst B
 refine zf rfl (zY (zR (za (R0 fun _ => st (mV vo (st (aS vo (zb (zm (zT Tryz.results30 (show _ = (vo : Value) from rfl) ?_))))))))))
 refine ⟨vo, rfl, h⟩
 have g := tD g
 refine zi rfl (zn (za (zp (R0 fun _ => st (mV vo (st (mV (Iw k) ?_)))))))
 have C : InR ((k + 1 : Nat) : Int) := bo
 refine st (zO (r := ((k + 1 : Nat) : Int)) (k := .i64) (a := ((k : Nat) : Int)) (b := 1) rfl rfl (by rw [show (((k : Nat) : Int) + 1 : Int) = ((k + 1 : Nat) : Int) from bo]; exact zy C) ?_)
 refine st (zQ (parts' := [(1, Iw (k + 1))]) (v := .agg #[Iv 0, Iw (k + 1)]) rfl (by first | (rw [XZ (by omega)]; simp [Instr.build, Instr.fill, go_sem]) | simp [Instr.build, Instr.fill, go_sem]) (st (mV (Iw k) ?_)))
 have D : InR ((k + 1 : Nat) : Int) := bo
 refine st (zO (r := ((k + 1 : Nat) : Int)) (k := .i64) (a := ((k : Nat) : Int)) (b := 1) rfl rfl (by rw [show (((k : Nat) : Int) + 1 : Int) = ((k + 1 : Nat) : Int) from bo]; exact zy D) (st (mV (Iw k) (st (zD (k := 1) (parts' := [(0, Iw k)]) (c := #[Iw k]) Tryz.underlying62 vT wT (by decide) rfl (by kernel_rfl) ?_)))))
 intro E d o
 refine st (mV (Iw k) (st (Un (k := .i64) (k2 := .u64) (a := ((k : Nat) : Int)) (r := ((k : Nat) : Int)) (by rw [uT]; rfl) mR rfl (WZ ⟨by omega, by omega⟩) ?_)))
 have hpw14 := zaA (k := k) om
 refine st (zax (k := .i64) (yk := .u64) (a := 1) (b := ((k : Nat) : Int)) (r := ((2 ^ k : Nat) : Int)) rfl rfl om (show ((k : Nat) : Int) ≤ 64 by omega) (zbl om) ?_)
 refine st (zQ (parts' := [(0, .agg #[Iv 0, Iw (k + 1)]), (1, Iw (k + 1)), (2, (Iy d 1 1)), (6, Iv 1), (7, Iv (((2 ^ k : Nat) : Int)))]) (v := .agg ((fiv.getD k default).cells (Iy d 1 1)).toArray) rfl (by first | (rw [XZ (by omega)]; simp [Instr.build, Instr.fill, go_sem]) | simp [Instr.build, Instr.fill, go_sem]) ?_)
 have e : Sep _ _ ((RowE (α := Int) own 3 (Iy d 1 1) [((k : Nat) : Int)]) :: _) _ := Sep.blkRow (src := own) (l := [((k : Nat) : Int)]) (css := [[Iw k]]) (h.new o) rfl ⟨fun _ _ => ⟨rfl, (by omega)⟩, trivial⟩ yqa (show 1 ≤ maxLen by decide)
 have p := e.r0
 have hr16s : _ * 8 ≤ _ := p.2
 have q := KR (k := k) om
 rw [q] at e
 have i : Sep G W ((RowE (α := Int) own 3 (Iy d 1 1) ((fiv.getD k default).deps)) :: (RowE (α := Ev) own 64 vo (fiv.take k)) :: Rs) E := e
 have s := i.r0
 have hr18s : _ * 8 ≤ _ := s.2
 refine st (zD (k := 10) (parts' := [(0, .agg ((fiv.getD k default).cells (Iy d 1 1)).toArray)]) (c := ((fiv.getD k default).cells (Iy d 1 1)).toArray) kT lT oT dc rfl kr ?_)
 intro w21 b20 t
 have j := i.new t
 have m := j.b0
 refine st (yv (src := own) (bytes := 96) (x1 := (fiv.getD k default)) (j.s3_cb) Ql rfl rfl m (fun _ _ H => ⟨_, rfl, RowE.soft H, (zbh (by omega))⟩) yqb rfl ?_)
 intro n w23 f
 have u := f.r0
 have hr28s : _ * 96 ≤ _ := u.2
 refine st (aS n (zb (R0 fun _ => st (mV (Iw k) ?_))))
 have x : InR ((k + 1 : Nat) : Int) := bo
 refine st (zO (r := ((k + 1 : Nat) : Int)) (k := .i64) (a := ((k : Nat) : Int)) (b := 1) rfl rfl (by rw [show (((k : Nat) : Int) + 1 : Int) = ((k + 1 : Nat) : Int) from bo]; exact zy x) (st (aS (Iw (k + 1)) (zb ?_))))
 have y : (fiv.take (k + 1)) = (fiv.take k) ++ [(fiv.getD k default)] := (List.take_getD (show k < 5 by omega))
 rw [← y] at f
 exact ⟨_, by omega, k + 1, n, _, rfl, sSf, by omega, f⟩

end Go.Proofs.YtojlbibionhdjaaGreatDoor
