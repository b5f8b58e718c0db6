import Derived.Test.YtojlbibionhdjaaGreatDoorB8
import Derived.Shelf.SlSortCmp.NoneTotal
import Derived.Test.YtojlbibionhdjaaGreatDoorProg
import Derived.Test.YtojlbibionhdjaaGreatDoorB1
set_option linter.unusedSimpArgs false
set_option linter.unusedVariables false
set_option linter.unusedSectionVars false
set_option linter.deprecated false
set_option maxRecDepth 8000
set_option maxHeartbeats 4000000
open Go.Proofs.Tryz renaming underlying26 → kT, sizeOf64 → lT, isAgg3 → mT, isAgg26 → nT, sizeOf46 → oT, isAgg75 → pT, isAgg64 → qT, isAgg76 → rT, sizeOf78 → sT, underlying23 → tT, underlying76 → uT, sizeOf84 → vT, underlying79 → wT, isAgg61 → kR, sizeOf61 → lR, sizeOf44 → mR, call52 → nR, zeroValue57 → oR, sizeOf57 → pR, isAgg23 → qR, zeroValue64 → rR, isAgg46 → sR, sizeOf93 → tR, underlying22 → uR, underlying82 → vR, isAgg79 → wR, call63 → kY, zeroValue66 → lY, sizeOf66 → mY, sizeOf26 → nY, call40 → oY, zeroValue46 → pY, isAgg55 → qY, underlying55 → rY, isAgg93 → sY, isAgg22 → tY, zeroValue84 → uY, sizeOf88 → vY, underlying41 → wY, results69 → kA, isAgg44 → lA, zeroValue44 → mA, results16 → nA
namespace Go.Proofs.YtojlbibionhdjaaGreatDoor
open Go.Proofs Go.RowKit

theorem zaB {G : Nat → Prop} {W w : World} {Rs : List HP} {b : Nat} {d : Dcl} {every : Nat} {evs : List Ev} {e : Ev} {de0 : Value} (hde0 : RdS W G de0 e.deps) (oe : e.Ok) (hKN : RdS W G (.slice (some ⟨0, 0, none⟩) 6 6) kindsL) (hS0 : Sep G W ((BaseO b d every evs) :: Rs) w) (hd : DclOk d) (hp : Xo d) (hfew : evs.length ≤ 100000) : Ret Tryz.prog 42 [.pointer (some ⟨b, 0, none⟩), .agg (e.cells de0).toArray] w (fun r w' => r = (.tuple #[] : Value) ∧ Sep G W ((BaseO b d every (evs ++ [e])) :: Rs) w') := by
 have hde0s : _ * 8 ≤ _ := hde0.small
 have hKNs : _ * 8 ≤ _ := hKN.small
 refine zl (args := [Ix b 0, .agg (e.cells de0).toArray]) Tryz.func42 rfl rfl ?_
 obtain ⟨ar, E, y, C, m, B, q, eS⟩ := BaseO.open hS0
 let fa := ViewO m d (zn d (evs ++ [e])) (zn d (evs ++ [e]))
 let eZ := Blk b #[E, y, Iw every, C, Ix m 0, B, q] 81
 have au : Sep G W (eZ :: (RowE (α := Typ) own 84 E d.types) :: (RowE (α := Prj) own 46 y d.projs) :: (RowE (α := Ev) own 64 C evs) :: (ViewO m d (zn d evs) (zn d evs)) :: (zW B (prs d evs)) :: (yE q (yq d every evs)) :: Rs) w := eS
 have eT := au.r1
 have hr9s : _ * 24 ≤ _ := eT.2
 have ba := au.r2
 have hr10s : _ * 40 ≤ _ := ba.2
 have ek := au.r3
 have hr11s : _ * 96 ≤ _ := ek.2
 refine za (R0 fun _ => st (zT (v := .agg (e.cells de0).toArray) rfl ?_))
 intro w14 I el
 let fb := Blk I (e.cells de0).toArray 64
 refine zb (za ?_)
 refine WD6 ((fun TT M N V X Y ai aj => WF [fun vals H => Sep G W (M :: N :: V :: X :: Y :: ai :: TT) H, fun vals H => ∃ (u : Value), (vals 6 = (.agg ((yh d (zn d evs) e).cells u).toArray : Value)) ∧ Sep G W (aj :: (RowE (α := Int) own 3 u e.deps) :: M :: N :: V :: X :: Y :: TT) H, fun vals H => ∃ (s : Nat), (vals 7 = (Ix s 0 : Value)) ∧ Sep G W ((Blk s #[Iv 0, Iv 0, Iv 0, (Iz), Iv 0, Iv 0, Iv 0, Iv 0, Iv 0, Iv 0, .bool false, Iv 0, Iv 0] 66) :: M :: N :: V :: X :: Y :: ai :: TT) H, fun vals H => ∃ (u : Value) (s : Nat), (vals 6 = (.agg ((yh d (zn d evs) e).cells u).toArray : Value)) ∧ (vals 7 = (Ix s 0 : Value)) ∧ Sep G W ((Blk s #[Iv 0, Iv 0, Iv 0, (Iz), Iv 0, Iv 0, Iv 0, Iv 0, Iv 0, Iv 0, .bool false, Iv 0, Iv 0] 66) :: aj :: (RowE (α := Int) own 3 u e.deps) :: M :: N :: V :: X :: Y :: TT) H, fun _ _ => True, fun _ _ => True, fun _ _ => True, fun vals H => ∃ (u : Value) (s : Nat), (vals 6 = (.agg ((yh d (zn d evs) e).cells u).toArray : Value)) ∧ (vals 7 = (Ix s 0 : Value)) ∧ Sep G W ((Blk s ((yh d (zn d evs) e).cells u).toArray 66) :: aj :: (RowE (α := Int) own 3 u e.deps) :: M :: N :: V :: X :: Y :: TT) H]) ((zW B (prs d evs)) :: (yE q (yq d every evs)) :: Rs) fb eZ (RowE (α := Typ) own 84 E d.types) (RowE (α := Prj) own 46 y d.projs) (RowE (α := Ev) own 64 C evs) (ViewO m d (zn d evs) (zn d evs)) (ViewO m d ((zn d evs) ++ [yh d (zn d evs) e]) ((zn d evs) ++ [yh d (zn d evs) e]))) (AF [Vl 0 (Ix b 0), Vl 1 (Ix b 0), Vl 2 (Ix b 4), Vl 3 (Ix b 4), Vl 4 (Ix m 0), Vl 5 (.agg (e.cells de0).toArray), fun _ => True, fun _ => True, fun _ => True]) [[], [0], [0, 1], [0, 1, 2], (rg 4), [], (rg 6), [], (rg 8)] [6, 7, 8] [[0, 2], [0, 2], [0, 2], [0, 2], [0, 2], [0, 2], [0, 2], [0, 1], [3]] (au.new el) ⟨fun _ _ _ _ _ _ => obl rfl (mV (Ix b 0) dR), fun _ _ _ _ _ em => obl rfl (zm (b := b) (o := 0) (em 0 dc) dR), fun _ _ _ _ _ bU => obl rfl (xC (bU 1 dc) dR), fun _ _ _ _ _ bV => obl rfl (Xx (bV 2 dc) dR), ?_, ?_, ?_, ?_, ?_, trivial⟩ ?_
 intro en vals w116 bW bd be
 have aH : en ∈ [0, 2] := bW
 simp only [List.mem_cons, List.not_mem_nil, or_false] at aH
 rcases aH with rfl | rfl
 have bX : Sep _ _ _ _ := bd
 exact obl rfl (lD (Ix m 0) pT (be 3 dc) (zd (bX.b1) rfl) dR)
 obtain ⟨s, Z, bY⟩ := bd
 exact obl rfl (lD (Ix m 0) pT (be 3 dc) (zd (bY.b2) rfl) dR)
 intro eo vals w125 bZ bf hA126
 have aI : eo ∈ [0, 2] := bZ
 simp only [List.mem_cons, List.not_mem_nil, or_false] at aI
 rcases aI with rfl | rfl
 have ca : Sep _ _ _ _ := bf
 exact obl rfl (zg (k := 10) qT lT rfl rfl (CellsAt.all (ca.b0)) dR)
 obtain ⟨s, Z, cb⟩ := bf
 exact obl rfl (zg (k := 10) qT lT rfl rfl (CellsAt.all (cb.b1)) dR)
 intro er vals w132 cc bg ak
 have aJ : er ∈ [0, 2] := cc
 simp only [List.mem_cons, List.not_mem_nil, or_false] at aJ
 rcases aJ with rfl | rfl
 have cd : Sep _ _ _ _ := bg
 refine obl rfl ((zK (f := 63) (vals := [Ix m 0, .agg (e.cells de0).toArray]) (cap := []) rfl (yI ⟨(ak 4 (by decide)), (ak 5 (by decide)), trivial⟩) kY (Ko (e := e) hde0 oe hKN (cd.mv5) (hd) ((Inv.run hd _)) ((by rw [xX]; omega))) ?_))
 rintro _ w141 ⟨u, rfl, bh⟩
 have ce := bh.r1
 have hr143s : _ * 8 ≤ _ := ce.2
 exact fun A F z => ⟨(Exists.intro u (And.intro F bh)), trivial⟩
 obtain ⟨s, Z, cf⟩ := bg
 refine obl rfl ((zK (f := 63) (vals := [Ix m 0, .agg (e.cells de0).toArray]) (cap := []) rfl (yI ⟨(ak 4 (by decide)), (ak 5 (by decide)), trivial⟩) kY (Ko (e := e) hde0 oe hKN (cf.mv6) (hd) ((Inv.run hd _)) ((by rw [xX]; omega))) ?_))
 rintro _ w149 ⟨u, rfl, bi⟩
 have cg := bi.r1
 have hr151s : _ * 8 ≤ _ := cg.2
 exact fun A F z => ⟨(Exists.intro u (Exists.intro s (And.intro F (And.intro ((z 7 dc).trans Z) (bi.mv2))))), trivial⟩
 intro es vals w154 ch bj hA155
 have aK : es ∈ [0, 1] := ch
 simp only [List.mem_cons, List.not_mem_nil, or_false] at aK
 rcases aK with rfl | rfl
 have ci : Sep _ _ _ _ := bj
 refine obl rfl ((zH lY ?_))
 intro w161 s cj
 exact fun A F z => ⟨(Exists.intro s (And.intro F (ci.new cj))), trivial⟩
 obtain ⟨u, ao, ck⟩ := bj
 refine obl rfl ((zH lY ?_))
 intro w166 s cl
 exact fun A F z => ⟨(Exists.intro u (Exists.intro s (And.intro ((z 6 dc).trans ao) (And.intro F (ck.new cl))))), trivial⟩
 intro et vals w169 cm cn hA170
 have aL : et ∈ [3] := cm
 simp only [List.mem_cons, List.not_mem_nil, or_false] at aL
 subst aL
 obtain ⟨u, s, ao, Z, av⟩ := cn
 refine obl rfl ?_
 have bk := av.r2
 have hr176s : _ * 8 ≤ _ := bk.2
 refine (zF (v := .agg ((yh d (zn d evs) e).cells u).toArray) (c' := ((yh d (zn d evs) e).cells u).toArray) mY Z ao (av.b0) (yg ⟨rfl, rfl, rfl, bk.1.one, rfl, rfl, rfl, rfl, rfl, rfl, rfl, rfl, rfl, trivial⟩) yqc rfl ?_)
 intro w174 co
 exact fun A F z => ⟨(Exists.intro u (Exists.intro s (And.intro ((z 6 dc).trans ao) (And.intro ((z 7 dc).trans Z) (av.pt0 co))))), trivial⟩
 intro vals eu cp hA180
 obtain ⟨u, s, ao, Z, al⟩ := cp
 let eY := Blk s ((yh d (zn d evs) e).cells u).toArray 66
 refine zX (kv := [(0, Ix b 0), (1, .agg (e.cells de0).toArray), (3, Ix I 0), (4, Ix s 0)]) ⟨rfl, rfl, rfl, (by exact Z), trivial⟩ (fun ρw178 => (zb (za ?_)))
 have ew : ((yh d (zn d evs) e)).Ok := Ji oe (al.evOk (i := 7) rfl)
 try simp +zetaDelta only at al
 rw [← xu] at al
 have cq : Sep G W (eY :: fa :: (RowE (α := Int) own 3 u e.deps) :: fb :: eZ :: (RowE (α := Typ) own 84 E d.types) :: (RowE (α := Prj) own 46 y d.projs) :: (RowE (α := Ev) own 64 C evs) :: (zW B (prs d evs)) :: (yE q (yq d every evs)) :: Rs) eu := al
 refine WD6 ((fun TT M N => WF [fun vals H => Sep G W (M :: N :: TT) H, fun vals H => ∃ (g : Value), (vals 9 = (.tuple #[.agg ((yp d (e.typ, e.agg) (zn d (evs ++ [e]))).cells g).toArray, .bool ((zj d (zn d (evs ++ [e])) (e.typ, e.agg)).isSome)] : Value)) ∧ Sep G W (N :: (RowE (α := Cel) own 107 g (stL d (e.typ, e.agg) (zn d (evs ++ [e])))) :: M :: TT) H, fun vals H => ∃ (p : Nat), (vals 13 = (Ix p 0 : Value)) ∧ Sep G W ((Blk p #[Iv 0, (Iz)] 57) :: M :: N :: TT) H, fun vals H => ∃ (g : Value) (p : Nat), (vals 9 = (.tuple #[.agg ((yp d (e.typ, e.agg) (zn d (evs ++ [e]))).cells g).toArray, .bool ((zj d (zn d (evs ++ [e])) (e.typ, e.agg)).isSome)] : Value)) ∧ (vals 13 = (Ix p 0 : Value)) ∧ Sep G W ((Blk p #[Iv 0, (Iz)] 57) :: N :: (RowE (α := Cel) own 107 g (stL d (e.typ, e.agg) (zn d (evs ++ [e])))) :: M :: TT) H, fun _ _ => True, fun _ _ => True, fun _ _ => True, fun vals H => ∃ (g : Value) (p : Nat), (vals 9 = (.tuple #[.agg ((yp d (e.typ, e.agg) (zn d (evs ++ [e]))).cells g).toArray, .bool ((zj d (zn d (evs ++ [e])) (e.typ, e.agg)).isSome)] : Value)) ∧ (vals 13 = (Ix p 0 : Value)) ∧ Sep G W ((Blk p ((yp d (e.typ, e.agg) (zn d (evs ++ [e]))).cells g).toArray 57) :: N :: (RowE (α := Cel) own 107 g (stL d (e.typ, e.agg) (zn d (evs ++ [e])))) :: M :: TT) H]) ((RowE (α := Int) own 3 u e.deps) :: fb :: eZ :: (RowE (α := Typ) own 84 E d.types) :: (RowE (α := Prj) own 46 y d.projs) :: (RowE (α := Ev) own 64 C evs) :: (zW B (prs d evs)) :: (yE q (yq d every evs)) :: Rs) eY fa) (AF [Vl 0 (Ix b 0), Vl 1 (Ix b 0), Vl 2 (Ix b 4), Vl 3 (Ix b 4), Vl 4 (Ix m 0), Vl 5 (Ix I 4), Vl 6 (Iv (e.typ)), Vl 7 (Ix I 5), Vl 8 (Iv (e.agg)), fun _ => True, fun vals => ∀ (g : Value), vals 9 = (.tuple #[.agg ((yp d (e.typ, e.agg) (zn d (evs ++ [e]))).cells g).toArray, .bool ((zj d (zn d (evs ++ [e])) (e.typ, e.agg)).isSome)] : Value) → vals 10 = (.tuple #[.agg ((yp d (e.typ, e.agg) (zn d (evs ++ [e]))).cells g).toArray, .bool ((zj d (zn d (evs ++ [e])) (e.typ, e.agg)).isSome)] : Value), fun vals => ∀ (g : Value), vals 9 = (.tuple #[.agg ((yp d (e.typ, e.agg) (zn d (evs ++ [e]))).cells g).toArray, .bool ((zj d (zn d (evs ++ [e])) (e.typ, e.agg)).isSome)] : Value) → vals 11 = (.agg ((yp d (e.typ, e.agg) (zn d (evs ++ [e]))).cells g).toArray : Value), Vl 12 (.bool ((zj d (zn d (evs ++ [e])) (e.typ, e.agg)).isSome)), fun _ => True, fun _ => True, Vl 15 (.bool ((zj d (zn d (evs ++ [e])) (e.typ, e.agg)).isSome))]) [[], [0], [0, 1], [0, 1, 2], (rg 4), [], [5], [], [7], (rg 9), (rg 10), (rg 11), (rg 11), [], [0, 1, 2, 3, 4, 5, 6, 7, 8, 9, 10, 11, 13], (rg 15)] [9, 13, 14] [[0, 2], [0, 2], [0, 2], [0, 2], [0, 2], [0, 2], [0, 2], [0, 2], [0, 2], [0, 2], [1, 3], [1, 3], [1, 3, 7], [0, 1], [3], [7]] cq ⟨fun _ _ _ _ _ _ => obl rfl (mV (Ix b 0) dR), fun _ _ _ _ _ cr => obl rfl (zm (b := b) (o := 0) (cr 0 dc) dR), fun _ _ _ _ _ cs => obl rfl (xC (cs 1 dc) dR), fun _ _ _ _ _ ct => obl rfl (Xx (ct 2 dc) dR), ?_, fun _ _ _ _ _ _ => obl rfl (xS rfl dR), ?_, fun _ _ _ _ _ _ => obl rfl (ZS rfl dR), ?_, ?_, ?_, ?_, ?_, ?_, ?_, fun _ _ _ _ _ cu => obl rfl (zv (v := .bool ((zj d (zn d (evs ++ [e])) (e.typ, e.agg)).isSome)) (cu 12 dc) dR), trivial⟩ ?_ (hlocA := xf ⟨dA, dA, dA, dA, dA, dA, dA, dA, dA, dT, fun vals A F h => fun g Q => (F 10 (.inl rfl)).trans (h g ((F 9 (.inr dc)).symm.trans Q)), fun vals A F h => fun g Q => (F 11 (.inl rfl)).trans (h g ((F 9 (.inr dc)).symm.trans Q)), dA, dT, dT, dA, trivial⟩)
 intro ex vals w329 cv bl bm
 have aM : ex ∈ [0, 2] := cv
 simp only [List.mem_cons, List.not_mem_nil, or_false] at aM
 rcases aM with rfl | rfl
 have cw : Sep _ _ _ _ := bl
 exact obl rfl (lD (Ix m 0) pT (bm 3 dc) (zd (cw.b4) rfl) dR)
 obtain ⟨p, J, cx⟩ := bl
 exact obl rfl (lD (Ix m 0) pT (bm 3 dc) (zd (cx.b5) rfl) dR)
 intro ey vals w343 cy bn bp
 have aN : ey ∈ [0, 2] := cy
 simp only [List.mem_cons, List.not_mem_nil, or_false] at aN
 rcases aN with rfl | rfl
 have cz : Sep _ _ _ _ := bn
 exact obl rfl (lD (Iv (e.typ)) mT (bp 5 dc) (zd (cz.b3) rfl) dR)
 obtain ⟨p, J, cA⟩ := bn
 exact obl rfl (lD (Iv (e.typ)) mT (bp 5 dc) (zd (cA.b4) rfl) dR)
 intro ez vals w357 cB bq br
 have aO : ez ∈ [0, 2] := cB
 simp only [List.mem_cons, List.not_mem_nil, or_false] at aO
 rcases aO with rfl | rfl
 have cC : Sep _ _ _ _ := bq
 exact obl rfl (lD (Iv (e.agg)) mT (br 7 dc) (zd (cC.b3) rfl) dR)
 obtain ⟨p, J, cD⟩ := bq
 exact obl rfl (lD (Iv (e.agg)) mT (br 7 dc) (zd (cD.b4) rfl) dR)
 intro eA vals w366 cE bs ab
 have aP : eA ∈ [0, 2] := cE
 simp only [List.mem_cons, List.not_mem_nil, or_false] at aP
 rcases aP with rfl | rfl
 have cF : Sep _ _ _ _ := bs
 refine obl rfl ((zK (f := 52) (vals := [Ix m 0, Iv (e.typ), Iv (e.agg)]) (cap := []) rfl (yI ⟨(ab 4 dc), (ab 6 dc), (ab 8 dc), trivial⟩) nR (WB (ty := e.typ) (no := e.agg) oe.typ oe.agg (cF.mv1)) ?_))
 rintro _ w376 ⟨g, rfl, bt⟩
 have cG := bt.r1
 have hr378s : _ * 32 ≤ _ := cG.2
 exact fun A F z => ⟨(Exists.intro g (And.intro F bt)), trivial⟩
 obtain ⟨p, J, cH⟩ := bs
 refine obl rfl ((zK (f := 52) (vals := [Ix m 0, Iv (e.typ), Iv (e.agg)]) (cap := []) rfl (yI ⟨(ab 4 dc), (ab 6 dc), (ab 8 dc), trivial⟩) nR (WB (ty := e.typ) (no := e.agg) oe.typ oe.agg (cH.mv2)) ?_))
 rintro _ w385 ⟨g, rfl, bu⟩
 have cI := bu.r1
 have hr387s : _ * 32 ≤ _ := cI.2
 exact fun A F z => ⟨(Exists.intro g (Exists.intro p (And.intro F (And.intro ((z 13 dc).trans J) (bu.mv2))))), trivial⟩
 intro eB vals w390 cJ bv hA391
 have aQ : eB ∈ [1, 3] := cJ
 simp only [List.mem_cons, List.not_mem_nil, or_false] at aQ
 rcases aQ with rfl | rfl
 obtain ⟨g, t, hS394⟩ := bv
 refine obl rfl (zt (v := .tuple #[.agg ((yp d (e.typ, e.agg) (zn d (evs ++ [e]))).cells g).toArray, .bool ((zj d (zn d (evs ++ [e])) (e.typ, e.agg)).isSome)]) t (fun A F z => ⟨rfl, ?_⟩))
 intro aw Q
 rw [z 9 (by decide)] at Q; cases t.symm.trans Q
 exact F
 obtain ⟨g, p, t, J, hS395⟩ := bv
 refine obl rfl (zt (v := .tuple #[.agg ((yp d (e.typ, e.agg) (zn d (evs ++ [e]))).cells g).toArray, .bool ((zj d (zn d (evs ++ [e])) (e.typ, e.agg)).isSome)]) t (fun A F z => ⟨rfl, ?_⟩))
 intro aw Q
 rw [z 9 (by decide)] at Q; cases t.symm.trans Q
 exact F
 intro eC vals w397 cK bw bx
 have aR : eC ∈ [1, 3] := cK
 simp only [List.mem_cons, List.not_mem_nil, or_false] at aR
 rcases aR with rfl | rfl
 obtain ⟨g, t, hS401⟩ := bw
 let fd := (yp d (e.typ, e.agg) (zn d (evs ++ [e]))).cells g
 have eD : vals 10 = (.tuple #[.agg fd.toArray, .bool ((zj d (zn d (evs ++ [e])) (e.typ, e.agg)).isSome)] : Value) := bx 10 dc g t
 refine obl rfl (zw (vs := [.agg fd.toArray, .bool ((zj d (zn d (evs ++ [e])) (e.typ, e.agg)).isSome)]) (i := 0) (v := .agg fd.toArray) eD rfl (fun A F z => ⟨rfl, ?_⟩))
 intro aw Q
 rw [z 9 (by decide)] at Q; cases t.symm.trans Q
 exact F
 obtain ⟨g, p, t, J, hS403⟩ := bw
 let fe := (yp d (e.typ, e.agg) (zn d (evs ++ [e]))).cells g
 have eE : vals 10 = (.tuple #[.agg fe.toArray, .bool ((zj d (zn d (evs ++ [e])) (e.typ, e.agg)).isSome)] : Value) := bx 10 dc g t
 refine obl rfl (zw (vs := [.agg fe.toArray, .bool ((zj d (zn d (evs ++ [e])) (e.typ, e.agg)).isSome)]) (i := 0) (v := .agg fe.toArray) eE rfl (fun A F z => ⟨rfl, ?_⟩))
 intro aw Q
 rw [z 9 (by decide)] at Q; cases t.symm.trans Q
 exact F
 intro eF vals w406 cM ax ay
 have aT : eF ∈ [1, 3, 7] := cM
 simp only [List.mem_cons, List.not_mem_nil, or_false] at aT
 rcases aT with rfl | rfl | rfl
 obtain ⟨g, t, hS410⟩ := ax
 have eG : vals 10 = (.tuple #[.agg ((yp d (e.typ, e.agg) (zn d (evs ++ [e]))).cells g).toArray, .bool ((zj d (zn d (evs ++ [e])) (e.typ, e.agg)).isSome)] : Value) := ay 10 dc g t
 exact obl rfl (zw (vs := [.agg ((yp d (e.typ, e.agg) (zn d (evs ++ [e]))).cells g).toArray, .bool ((zj d (zn d (evs ++ [e])) (e.typ, e.agg)).isSome)]) (i := 1) (v := .bool ((zj d (zn d (evs ++ [e])) (e.typ, e.agg)).isSome)) eG rfl dR)
 obtain ⟨g, p, t, J, hS412⟩ := ax
 have eH : vals 10 = (.tuple #[.agg ((yp d (e.typ, e.agg) (zn d (evs ++ [e]))).cells g).toArray, .bool ((zj d (zn d (evs ++ [e])) (e.typ, e.agg)).isSome)] : Value) := ay 10 dc g t
 exact obl rfl (zw (vs := [.agg ((yp d (e.typ, e.agg) (zn d (evs ++ [e]))).cells g).toArray, .bool ((zj d (zn d (evs ++ [e])) (e.typ, e.agg)).isSome)]) (i := 1) (v := .bool ((zj d (zn d (evs ++ [e])) (e.typ, e.agg)).isSome)) eH rfl dR)
 obtain ⟨g, p, t, J, hS414⟩ := ax
 have eI : vals 10 = (.tuple #[.agg ((yp d (e.typ, e.agg) (zn d (evs ++ [e]))).cells g).toArray, .bool ((zj d (zn d (evs ++ [e])) (e.typ, e.agg)).isSome)] : Value) := ay 10 dc g t
 exact obl rfl (zw (vs := [.agg ((yp d (e.typ, e.agg) (zn d (evs ++ [e]))).cells g).toArray, .bool ((zj d (zn d (evs ++ [e])) (e.typ, e.agg)).isSome)]) (i := 1) (v := .bool ((zj d (zn d (evs ++ [e])) (e.typ, e.agg)).isSome)) eI rfl dR)
 intro eJ vals w417 cN bz hA418
 have aU : eJ ∈ [0, 1] := cN
 simp only [List.mem_cons, List.not_mem_nil, or_false] at aU
 rcases aU with rfl | rfl
 have cO : Sep _ _ _ _ := bz
 refine obl rfl ((zH oR ?_))
 intro w424 p cP
 exact fun A F z => ⟨(Exists.intro p (And.intro F (cO.new cP))), trivial⟩
 obtain ⟨g, t, cQ⟩ := bz
 refine obl rfl ((zH oR ?_))
 intro w429 p cR
 exact fun A F z => ⟨(Exists.intro g (Exists.intro p (And.intro ((z 9 dc).trans t) (And.intro F (cQ.new cR))))), trivial⟩
 intro eK vals w432 cS cT cU
 have aV : eK ∈ [3] := cS
 simp only [List.mem_cons, List.not_mem_nil, or_false] at aV
 subst aV
 obtain ⟨g, p, t, J, az⟩ := cT
 let ff := (yp d (e.typ, e.agg) (zn d (evs ++ [e]))).cells g
 refine obl rfl ?_
 have eL : vals 11 = (.agg ff.toArray : Value) := cU 11 dc g t
 have bA := az.r2
 have hr440s : _ * 32 ≤ _ := bA.2
 refine (zF (v := .agg ff.toArray) (c' := ff.toArray) pR J eL (az.b0) (yg ⟨rfl, bA.1.one, trivial⟩) yqc rfl ?_)
 intro w438 cV
 exact fun A F z => ⟨(Exists.intro g (Exists.intro p (And.intro ((z 9 dc).trans t) (And.intro ((z 13 dc).trans J) (az.pt0 cV))))), trivial⟩
 intro vals S cW hA450
 obtain ⟨g, p, t, J, cX⟩ := cW
 let eX := Blk p ((yp d (e.typ, e.agg) (zn d (evs ++ [e]))).cells g).toArray 57
 refine zX (kv := [(0, Ix b 0), (1, .agg (e.cells de0).toArray), (3, Ix I 0), (4, Ix s 0), (5, Ix p 0)]) ⟨rfl, rfl, rfl, rfl, (by exact J), trivial⟩ (fun ρw448 => (zb (za (za ?_))))
 obtain ⟨G453, cY, hB456, cZ, da⟩ := (cX.mv2).lend
 have aa := RowE.rd cY
 have hrd459s : _ * 32 ≤ _ := aa.small
 obtain ⟨T, db, am, bB, dd⟩ := (cZ.mv3).lend
 have aW := RowE.rd db
 have hrd467s : _ * 8 ≤ _ := aW.small
 refine R0 fun _ => st (mV (Ix b 0) (st (zm (b := b) (o := 0) rfl (st (Yx rfl (st (Zk rfl (st (lD y qR rfl (zd (bB.b4) rfl) (st (zB (n := d.projs.length) tT rfl ba.1 (st (mV (Iv 0) (zb (zr ?_)))))))))))))))
 have ah : (prs d (evs ++ [e])).length = (prs d evs).length := by rw [Zl, Zl]
 have eM : (prs d evs).length = d.projs.length := Zl _ _
 refine zZ (fun mq σ H => ∃ (k : Nat) (ρ : Env), mq = d.projs.length - k ∧ σ = yc ρ [(0, Ix b 0), (3, Ix I 0), (4, Ix s 0), (5, Ix p 0), (34, y), (35, Iw d.projs.length), (36, Iw k)] ∧ (k ≤ d.projs.length) ∧ Sep T S ((Blk p ((yp d (e.typ, e.agg) (zn d (evs ++ [e]))).cells g).toArray 57) :: (ViewO m d (zn d (evs ++ [e])) (zn d (evs ++ [e]))) :: (Blk s ((yh d (zn d evs) e).cells u).toArray 66) :: (Blk I (e.cells de0).toArray 64) :: (Blk b #[E, y, Iw every, C, Ix m 0, B, q] 81) :: (RowE (α := Typ) own 84 E d.types) :: (RowE (α := Prj) own 46 y d.projs) :: (RowE (α := Ev) own 64 C evs) :: (zW B (xF (prs d (evs ++ [e])) (prs d evs) k)) :: (yE q (yq d every evs)) :: Rs) H) ⟨0, _, rfl, sSf, Nat.zero_le _, bB⟩ ?_
 rintro m469 σ470 w468 ⟨k, ρl1, rfl, rfl, hkk, af⟩
 refine za (R0 fun _ => st (zL (k := .i64) (a := ((k : Nat) : Int)) (b := ((d.projs.length : Nat) : Int)) rfl rfl (zb (za ?_))))
 cases an : decide (((k : Nat) : Int) < ((d.projs.length : Nat) : Int))
 have an := fD an
 have eN : xF (prs d (evs ++ [e])) (prs d evs) k = (prs d (evs ++ [e])) := Ky ah om
 try simp +zetaDelta only at af
 rw [eN] at af
 refine zf rfl (ya (zS (za ?_)))
 have de := dd _ _ af
 have df := da _ _ de
 refine WD4 ((fun TT M N V X Y ai aj aX aY bL => WF [fun vals H => Sep G W (M :: N :: V :: X :: Y :: ai :: aj :: aX :: aY :: bL :: TT) H, fun vals H => ∃ (D : Value), (vals 6 = (.agg (e.cells D).toArray : Value)) ∧ Sep G W ((RowE (α := Int) own 3 D e.deps) :: M :: N :: V :: X :: Y :: ai :: aj :: aX :: aY :: bL :: TT) H, fun vals H => ∃ (D : Value) (K : Nat), (vals 6 = (.agg (e.cells D).toArray : Value)) ∧ (vals 7 = ((Iy K 1 1) : Value)) ∧ Sep G W ((Blk K (e.cells D).toArray 64) :: (RowE (α := Int) own 3 D e.deps) :: M :: N :: V :: X :: Y :: ai :: aj :: aX :: aY :: bL :: TT) H, fun vals H => ∃ (D : Value) (K : Nat) (L : Value), (vals 6 = (.agg (e.cells D).toArray : Value)) ∧ (vals 7 = ((Iy K 1 1) : Value)) ∧ (vals 8 = (L : Value)) ∧ Sep G W ((RowE (α := Ev) own 64 L (evs ++ [e])) :: M :: N :: V :: X :: Y :: ai :: aj :: aX :: aY :: TT) H, fun vals H => ∃ (D : Value) (K : Nat) (L : Value), (vals 6 = (.agg (e.cells D).toArray : Value)) ∧ (vals 7 = ((Iy K 1 1) : Value)) ∧ (vals 8 = (L : Value)) ∧ Sep G W ((RowE (α := Ev) own 64 L (evs ++ [e])) :: M :: N :: V :: X :: Y :: ai :: (Blk b #[E, y, Iw every, L, Ix m 0, B, q] 81) :: aX :: aY :: TT) H]) ((zW B (prs d (evs ++ [e]))) :: (yE q (yq d every evs)) :: Rs) (RowE (α := Cel) own 107 g (stL d (e.typ, e.agg) (zn d (evs ++ [e])))) (RowE (α := Int) own 3 u e.deps) eX fa eY fb eZ (RowE (α := Typ) own 84 E d.types) (RowE (α := Prj) own 46 y d.projs) (RowE (α := Ev) own 64 C evs)) (AF [Vl 0 (Ix b 0), Vl 1 (Ix b 0), Vl 2 (Ix b 0), Vl 3 (Ix b 3), Vl 4 (C), Vl 5 (.agg (e.cells de0).toArray), fun _ => True, fun _ => True, fun _ => True, Vl 9 (Ix b 0), Vl 10 (Ix b 3), fun _ => True]) [[], [], [1], [1, 2], [1, 2, 3], [], [5], [5, 6], [1, 2, 3, 4, 5, 6, 7], (rg 9), (rg 10), (rg 11)] [6, 7, 8, 11] [(0, 3), (0, 2), (0, 2), (0, 2), (0, 2), (0, 0), (0, 0), (1, 1), (2, 2), (3, 3), (3, 3), (3, 3)] df ⟨fun _ _ _ _ _ _ _ => obl rfl (mV (Ix b 0) dR), fun _ _ _ _ _ _ _ => obl rfl (mV (Ix b 0) dR), fun _ _ _ _ _ _ dg => obl rfl (zm (b := b) (o := 0) (dg 1 dc) dR), fun _ _ _ _ _ _ dh => obl rfl (xR (dh 2 dc) dR), ?_, ob1 0 fun _ _ (di : Sep _ _ _ _) _ => obl rfl (zg (k := 10) qT lT rfl rfl (CellsAt.all (di.b5)) dR), ?_, ?_, ?_, fun _ _ _ _ _ _ dj => obl rfl (zm (b := b) (o := 0) (dj 0 dc) dR), fun _ _ _ _ _ _ dk => obl rfl (xR (dk 9 dc) dR), ?_, trivial⟩ ?_
 refine fun ap _ _ eO eP aA aB => ?_
 have hkk : ap = 0 ∨ ap = 1 ∨ ap = 2 := by have h1 : 0 ≤ ap := eO; have h2 : ap ≤ 2 := eP; omega
 rcases hkk with rfl | rfl | rfl
 have dl : Sep _ _ _ _ := aA
 exact obl rfl (lD C nT (aB 3 dc) (zd (dl.b6) rfl) dR)
 obtain ⟨D, P, dm⟩ := aA
 exact obl rfl (lD C nT (aB 3 dc) (zd (dm.b7) rfl) dR)
 obtain ⟨D, K, P, ac, dp⟩ := aA
 exact obl rfl (lD C nT (aB 3 dc) (zd (dp.b8) rfl) dR)
 refine ob1 0 fun vals _ (dq : Sep _ _ _ _) dr => (obl rfl ((zK (f := 65) (vals := [.agg (e.cells de0).toArray]) (cap := []) rfl (yI ⟨(dr 5 dc), trivial⟩) Tryz.call65 (KR (e := e) hde0 oe dq) ?_)))
 rintro _ w525 ⟨D, rfl, bC⟩
 have ds := bC.r0
 have hr527s : _ * 8 ≤ _ := ds.2
 exact fun A F z => ⟨(Exists.intro D (And.intro F bC)), trivial⟩
 refine ob1 1 fun _ _ dt _ => ?_
 obtain ⟨D, P, du⟩ := dt
 refine obl rfl ((zJ (k := 10) (parts' := [(0, .agg (e.cells D).toArray)]) (c := (e.cells D).toArray) kT lT rR dc (xG ⟨rfl, P, trivial⟩) kr ?_))
 intro w538 K dv
 exact fun A F z => ⟨(Exists.intro D (Exists.intro K (And.intro ((z 6 dc).trans P) (And.intro F (du.new dv))))), trivial⟩
 refine ob1 2 fun _ _ dw dx => ?_
 obtain ⟨D, K, P, ac, bD⟩ := dw
 refine obl rfl ?_
 have bM := bD.b0
 refine (yx (src := own) (bytes := 96) (x1 := e) (bD.s14_lbcdefghijkmn) UV (dx 4 (by decide)) ac bM (fun _ _ hN => ⟨_, rfl, RowE.soft hN, oe⟩) yqb rfl ?_)
 intro L w549 bE
 have dy := bE.r0
 have hr554s : _ * 96 ≤ _ := dy.2
 exact fun A F z => ⟨(Exists.intro D (Exists.intro K (Exists.intro L (And.intro ((z 6 dc).trans P) (And.intro ((z 7 dc).trans ac) (And.intro F bE)))))), trivial⟩
 refine ob1 3 fun _ _ dz dB => ?_
 obtain ⟨D, K, L, P, ac, aC, aD⟩ := dz
 refine obl rfl ?_
 have bF := aD.r0
 have hr580s : _ * 96 ≤ _ := bF.2
 refine (yt (v := L) (c := [E, y, Iw every, C, Ix m 0, B, q]) (c' := [E, y, Iw every, L, Ix m 0, B, q]) nY (dB 10 dc) aC (aD.b7) bF.1.one rfl rfl ?_)
 intro w578 dD
 exact fun A F z => ⟨(Exists.intro D (Exists.intro K (Exists.intro L (And.intro ((z 6 dc).trans P) (And.intro ((z 7 dc).trans ac) (And.intro ((z 8 dc).trans aC) (aD.pt7 dD))))))), trivial⟩
 intro vals w641 dE hA643
 obtain ⟨D, K, L, P, ac, aC, dF⟩ := dE
 refine zX (kv := [(0, Ix b 0), (3, Ix I 0), (4, Ix s 0), (5, Ix p 0), (34, y), (35, Iw d.projs.length), (36, Iw k), (37, .bool false)]) sEv (fun ρw641 => (zb (zu (by kernel_rfl) (fun _ => (st (mV (Ix b 0) (st (cL oY (QX  hKN (dF.s12_hijaklbcdefg) (hd) ((by rw [List.length_append, List.length_singleton]; omega)) ((Jr ar (by omega))) (ar.1)) ?_))))))))
 rintro _ bN ⟨vpts2646, rfl, ad⟩
 have dG := ad.r1
 have hr649s : _ * 24 ≤ _ := dG.2
 have dH := ad.r2
 have hr650s : _ * 40 ≤ _ := dH.2
 have dI := ad.r3
 have hr651s : _ * 96 ≤ _ := dI.2
 refine zb (YN Tryz.results42 ?_)
 have eQ := Ql (d := d) (l := evs) (e := e) ar.1
 try simp +zetaDelta only at ad
 rw [eQ] at ad
 have dJ : Sep G W ((BaseO b d every (evs ++ [e])) :: (RowE (α := Cel) own 107 g (stL d (e.typ, e.agg) (zn d (evs ++ [e])))) :: (RowE (α := Int) own 3 u e.deps) :: eX :: eY :: fb :: Rs) bN := BaseO.close (d := d) (every := every) (evs := (evs ++ [e])) ar (ad.s12_abcdjefghikl)
 have dK : Sep G W ((BaseO b d every (evs ++ [e])) :: Rs) bN := dJ.sel 6 [0] (Nat.le_add_left _ _) rfl rfl
 refine ⟨rfl, dK⟩
 have an := tD an
 refine zh rfl (zp (za (zr (za (R0 fun _ => st (mV (Iw k) ?_))))))
 have dL : k < d.projs.length := bo
 refine st (ze (k := 5) (i := k) tT oT rfl ba.1 rfl dL ?_)
 have dM : k < d.projs.length := bo
 obtain ⟨_, _, bO, rfl, hoke656⟩ := af.rowAtD (i := 6) (j := k) rfl dM
 refine st (zg (k := 5) sR oT rfl rfl bO (st (zH pY ?_)))
 intro w660 R dN
 let fc := Blk R ((d.projs.getD k default).cells).toArray 46
 have bG := af.new dN
 refine st (aS (Iw k) (stn (zF (v := .agg ((d.projs.getD k default).cells).toArray) (c' := ((d.projs.getD k default).cells).toArray) oT rfl rfl (bG.b0) (yg ⟨rfl, rfl, rfl, rfl, rfl, trivial⟩) yqc rfl ?_)))
 intro w662 dO
 have U := bG.pt0 dO
 refine zb (za (R0 fun _ => st (aS (Iv 0) (zb (za (za ?_))))))
 have hby9 : 0 ≤ (d.projs.getD k default).pby := (hp.2 k om).1
 refine R0 fun _ => st (WH rfl (st (lD (Iv ((d.projs.getD k default).pby)) mT rfl (zd (U.b0) rfl) (st (yY rfl (st (lD g qY rfl (zd (U.b1) rfl) (st (zB (n := (stL d (e.typ, e.agg) (zn d (evs ++ [e]))).length) rY rfl (RdS.base aa am).sl (st (zL (k := .i64) (a := (d.projs.getD k default).pby) (b := (((stL d (e.typ, e.agg) (zn d (evs ++ [e]))).length : Nat) : Int)) rfl rfl (zb ?_))))))))))))
 refine WK (fun σ H => ∃ (O : Int) (ρ : Env), σ = yc ρ [(0, Ix b 0), (3, Ix I 0), (4, Ix s 0), (5, Ix p 0), (34, y), (35, Iw d.projs.length), (36, Iw k), (8, Ix R 0), (7, Iw k), (9, Iv O)] ∧ (O = (QV d (d.projs.getD k default) (zn d (evs ++ [e])) e) ∧ InR O) ∧ Sep T S (fc :: eX :: fa :: eY :: fb :: eZ :: (RowE (α := Typ) own 84 E d.types) :: (RowE (α := Prj) own 46 y d.projs) :: (RowE (α := Ev) own 64 C evs) :: (zW B (xF (prs d (evs ++ [e])) (prs d evs) k)) :: (yE q (yq d every evs)) :: Rs) H) ?_ ?_
 cases ae : decide (((d.projs.getD k default).pby) < (((stL d (e.typ, e.agg) (zn d (evs ++ [e]))).length : Nat) : Int))
 have ae := fD ae
 refine zf rfl (zp ?_)
 exact ⟨rfl, 0, _, yH ⟨(show _ = (Ix b 0 : Value) from rfl), (show _ = (Ix I 0 : Value) from rfl), (show _ = (Ix s 0 : Value) from rfl), (show _ = (Ix p 0 : Value) from rfl), (show _ = (y : Value) from rfl), (show _ = (Iw d.projs.length : Value) from rfl), (show _ = (Iw k : Value) from rfl), (show _ = (Ix R 0 : Value) from rfl), (show _ = (Iw k : Value) from rfl), (show _ = (Iv 0 : Value) from rfl), trivial⟩, ⟨(by unfold QV; rw [if_neg (by simpa using ae)]), (by decide)⟩, U⟩
 have ae := tD ae
 refine zh rfl (R0 fun _ => st (yY rfl (st (lD g qY rfl (zd (U.b1) rfl) (st (WH rfl (st (lD (Iv ((d.projs.getD k default).pby)) mT rfl (zd (U.b0) rfl) ?_))))))))
 have hi666 : ((d.projs.getD k default).pby).toNat < (stL d (e.typ, e.agg) (zn d (evs ++ [e]))).length := bo
 refine st (zN (k := 2) (i := (d.projs.getD k default).pby) rY Tryz.sizeOf107 rfl (RdS.base aa am).sl rfl ⟨by omega, by omega⟩ (st (xx rfl ?_)))
 have bH : ((d.projs.getD k default).pby).toNat < (stL d (e.typ, e.agg) (zn d (evs ++ [e]))).length := bo
 obtain ⟨bP, bb, bK⟩ := (RdS.base aa am).celD bH
 have hsm669 : (((stL d (e.typ, e.agg) (zn d (evs ++ [e]))).getD (((d.projs.getD k default).pby).toNat) default).set).length * 8 ≤ 140737488355328 := bb.small
 have bQ := U.cells bP ((RdS.base aa am).foot (ne_of_lt bH))
 refine st (lD (Iv (((stL d (e.typ, e.agg) (zn d (evs ++ [e]))).getD (((d.projs.getD k default).pby).toNat) default).n)) mT rfl (bQ.get (j := 0) rfl) (st (aS (Iv (((stL d (e.typ, e.agg) (zn d (evs ++ [e]))).getD (((d.projs.getD k default).pby).toNat) default).n)) (zb ?_))))
 exact ⟨rfl, ((stL d (e.typ, e.agg) (zn d (evs ++ [e]))).getD (((d.projs.getD k default).pby).toNat) default).n, _, yH ⟨(show _ = (Ix b 0 : Value) from rfl), (show _ = (Ix I 0 : Value) from rfl), (show _ = (Ix s 0 : Value) from rfl), (show _ = (Ix p 0 : Value) from rfl), (show _ = (y : Value) from rfl), (show _ = (Iw d.projs.length : Value) from rfl), (show _ = (Iw k : Value) from rfl), (show _ = (Ix R 0 : Value) from rfl), (show _ = (Iw k : Value) from rfl), (show _ = (Iv (((stL d (e.typ, e.agg) (zn d (evs ++ [e]))).getD (((d.projs.getD k default).pby).toNat) default).n) : Value) from rfl), trivial⟩, ⟨(by unfold QV; rw [if_pos (by simpa using ae)]), bK.n⟩, U⟩
 rintro _ bc ⟨O, ρj1, rfl, bR, dP⟩
 have eR := bR.1
 obtain ⟨x, ag, dQ⟩ := ZipW.open (dP.mv9)
 have aZ : Sep T S ((RowE (α := PtC) own 93 B x) :: (Star (Zip xq x (xF (prs d (evs ++ [e])) (prs d evs) k))) :: fc :: eX :: fa :: eY :: fb :: eZ :: (RowE (α := Typ) own 84 E d.types) :: (RowE (α := Prj) own 46 y d.projs) :: (RowE (α := Ev) own 64 C evs) :: (yE q (yq d every evs)) :: Rs) bc := dQ
 have bI := aZ.r0
 have hr677s : _ * 8 ≤ _ := bI.2
 have hsl9 : x.length = d.projs.length := by rw [ag, Xj ah, eM]
 have aE : Sep T S ((ProjO ((x.getD k default).b) (((xF (prs d (evs ++ [e])) (prs d evs) k).getD k default).1) (((xF (prs d (evs ++ [e])) (prs d evs) k).getD k default).2)) :: (Star ((Zip xq x (xF (prs d (evs ++ [e])) (prs d evs) k)).set k Emp)) :: (RowE (α := PtC) own 93 B x) :: (Blk R ((d.projs.getD k default).cells).toArray 46) :: (Blk p ((yp d (e.typ, e.agg) (zn d (evs ++ [e]))).cells g).toArray 57) :: (ViewO m d (zn d (evs ++ [e])) (zn d (evs ++ [e]))) :: (Blk s ((yh d (zn d evs) e).cells u).toArray 66) :: (Blk I (e.cells de0).toArray 64) :: (Blk b #[E, y, Iw every, C, Ix m 0, B, q] 81) :: (RowE (α := Typ) own 84 E d.types) :: (RowE (α := Prj) own 46 y d.projs) :: (RowE (α := Ev) own 64 C evs) :: (yE q (yq d every evs)) :: Rs) bc := ZipW.take ag (by rw [Xj ah]; omega) (aZ.mv1)
 have eU : (xF (prs d (evs ++ [e])) (prs d evs) k).getD k default = ((d.projs.getD k default), xL d (d.projs.getD k default) evs) := (QN ah om).trans (WA om)
 try simp +zetaDelta only at aE
 rw [eU] at aE
 have dS : Sep T S ((ProjO ((x.getD k default).b) (d.projs.getD k default) (xL d (d.projs.getD k default) evs)) :: (Star ((Zip xq x (xF (prs d (evs ++ [e])) (prs d evs) k)).set k Emp)) :: (RowE (α := PtC) own 93 B x) :: fc :: eX :: fa :: eY :: fb :: eZ :: (RowE (α := Typ) own 84 E d.types) :: (RowE (α := Prj) own 46 y d.projs) :: (RowE (α := Ev) own 64 C evs) :: (yE q (yq d every evs)) :: Rs) bc := aE
 refine WD4 ((fun TT => WF [fun vals H => Sep T S ((ProjO ((x.getD k default).b) (d.projs.getD k default) (xL d (d.projs.getD k default) evs)) :: TT) H, fun vals H => (vals 10 = (.tuple #[] : Value)) ∧ Sep T S ((ProjO ((x.getD k default).b) (d.projs.getD k default) (Zu (d.projs.getD k default) (xL d (d.projs.getD k default) evs) (yh d (zn d evs) e) O)) :: TT) H]) ((Star ((Zip xq x (xF (prs d (evs ++ [e])) (prs d evs) k)).set k Emp)) :: (RowE (α := PtC) own 93 B x) :: fc :: eX :: fa :: eY :: fb :: eZ :: (RowE (α := Typ) own 84 E d.types) :: (RowE (α := Prj) own 46 y d.projs) :: (RowE (α := Ev) own 64 C evs) :: (yE q (yq d every evs)) :: Rs)) (AF [Vl 0 (Ix b 0), Vl 1 (Ix b 0), Vl 2 (Ix b 4), Vl 3 (Ix b 5), Vl 4 (B), Vl 5 (Iw k), Vl 6 (Ix (sb B) (so B + k * 1)), Vl 7 (Ix ((x.getD k default).b) 0), Vl 8 (.agg ((yh d (zn d evs) e).cells u).toArray), Vl 9 (Iv O), fun _ => True]) [[], [0], [0, 1], [0, 1, 2], (rg 4), [], (rg 6), (rg 7), [], [], (rg 10)] [10] [(0, 0), (0, 0), (0, 0), (0, 0), (0, 0), (0, 0), (0, 0), (0, 0), (0, 0), (0, 0), (0, 0)] dS ⟨fun _ _ _ _ _ _ _ => obl rfl (mV (Ix b 0) dR), fun _ _ _ _ _ _ dU => obl rfl (zm (b := b) (o := 0) (dU 0 dc) dR), fun _ _ _ _ _ _ dV => obl rfl (xC (dV 1 dc) dR), fun _ _ _ _ _ _ dW => obl rfl (ZF (dW 2 dc) dR), ob1 0 fun _ _ (dX : Sep _ _ _ _) dY => obl rfl (lD B rT (dY 3 dc) (zd (dX.b8) rfl) dR), fun _ _ _ _ _ _ _ => obl rfl (mV (Iw k) dR), ?_, ?_, ob1 0 fun _ _ (dZ : Sep _ _ _ _) _ => obl rfl (zg (k := 13) Tryz.isAgg66 mY rfl rfl (CellsAt.all (dZ.b6)) dR), fun _ _ _ _ _ _ _ => obl rfl (mV (Iv O) dR), ?_, trivial⟩ ?_
 refine ob1 0 fun _ _ _ bJ => (obl rfl ?_)
 have ea : k < x.length := bo
 exact ze (k := 1) (i := k) uT tR (bJ 4 dc) bI.1 (bJ 5 dc) ea dR
 refine ob1 0 fun _ _ (eb : Sep _ _ _ _) ec => (obl rfl ?_)
 have ed : k < x.length := bo
 obtain ⟨_, _, aq, rfl, hpke827⟩ := eb.rowAtD (i := 2) (j := k) rfl ed
 have aq : CellsAt _ _ _ [Ix ((x.getD k default).b) 0] := aq
 exact lD (Ix ((x.getD k default).b) 0) sY (ec 6 dc) (aq.get (j := 0) rfl) dR
 refine ob1 0 fun vals _ (ee : Sep _ _ _ _) aF => (obl rfl ((zK (f := 64) (vals := [Ix ((x.getD k default).b) 0, .agg ((yh d (zn d evs) e).cells u).toArray, Iv O]) (cap := []) rfl (yI ⟨(aF 7 dc), (aF 8 dc), (aF 9 dc), trivial⟩) Tryz.call64 (zaM (e := (yh d (zn d evs) e)) (reg := O) aW ew bR.2 ee ((fun g9 => by have h9 := (Kv (Yy d (d.projs.getD k default) evs) g9).2; omega))) ?_)))
 rintro _ w765 ⟨rfl, ef⟩
 exact fun A F z => ⟨(And.intro F ef), trivial⟩
 intro vals bS eg hA844
 obtain ⟨he767, eh⟩ := eg
 refine zX (kv := [(0, Ix b 0), (3, Ix I 0), (4, Ix s 0), (5, Ix p 0), (34, y), (35, Iw d.projs.length), (36, Iw k), (8, Ix R 0), (7, Iw k), (9, Iv O)]) sEv (fun ρw842 => (zb ?_))
 have ei : Sep T S ((Star (Zip xq x ((xF (prs d (evs ++ [e])) (prs d evs) k).set k (((d.projs.getD k default), Zu (d.projs.getD k default) (xL d (d.projs.getD k default) evs) (yh d (zn d evs) e) O) : PR)))) :: (RowE (α := PtC) own 93 B x) :: (Blk R ((d.projs.getD k default).cells).toArray 46) :: (Blk p ((yp d (e.typ, e.agg) (zn d (evs ++ [e]))).cells g).toArray 57) :: (ViewO m d (zn d (evs ++ [e])) (zn d (evs ++ [e]))) :: (Blk s ((yh d (zn d evs) e).cells u).toArray 66) :: (Blk I (e.cells de0).toArray 64) :: (Blk b #[E, y, Iw every, C, Ix m 0, B, q] 81) :: (RowE (α := Typ) own 84 E d.types) :: (RowE (α := Prj) own 46 y d.projs) :: (RowE (α := Ev) own 64 C evs) :: (yE q (yq d every evs)) :: Rs) bS := ZipW.put (i := k) (c := (((d.projs.getD k default), Zu (d.projs.getD k default) (xL d (d.projs.getD k default) evs) (yh d (zn d evs) e) O) : PR)) ag (by rw [Xj ah]; omega) eh
 have bT : x.length = ((xF (prs d (evs ++ [e])) (prs d evs) k).set k (((d.projs.getD k default), Zu (d.projs.getD k default) (xL d (d.projs.getD k default) evs) (yh d (zn d evs) e) O) : PR)).length := by rw [List.length_set]; exact ag
 have aG : Sep T S ((zW B ((xF (prs d (evs ++ [e])) (prs d evs) k).set k (((d.projs.getD k default), Zu (d.projs.getD k default) (xL d (d.projs.getD k default) evs) (yh d (zn d evs) e) O) : PR))) :: fc :: eX :: fa :: eY :: fb :: eZ :: (RowE (α := Typ) own 84 E d.types) :: (RowE (α := Prj) own 46 y d.projs) :: (RowE (α := Ev) own 64 C evs) :: (yE q (yq d every evs)) :: Rs) bS := ZipW.mk bT (ei.mv1)
 have eV : (((d.projs.getD k default), Zu (d.projs.getD k default) (xL d (d.projs.getD k default) evs) (yh d (zn d evs) e) O) : PR) = (prs d (evs ++ [e])).getD k default := by rw [WA (by omega), Wg, eR]
 have eW : (xF (prs d (evs ++ [e])) (prs d evs) k).set k (((d.projs.getD k default), Zu (d.projs.getD k default) (xL d (d.projs.getD k default) evs) (yh d (zn d evs) e) O) : PR) = xF (prs d (evs ++ [e])) (prs d evs) (k + 1) := by rw [eV]; exact KJ ah (by omega)
 try simp +zetaDelta only at aG
 rw [eW] at aG
 refine R0 fun _ => ?_
 have ej : InR ((k + 1 : Nat) : Int) := bo
 refine st (zQ (r := ((k + 1 : Nat) : Int)) (k := .i64) (a := ((k : Nat) : Int)) (b := 1) rfl rfl (by rw [show (((k : Nat) : Int) + 1 : Int) = ((k + 1 : Nat) : Int) from bo]; exact zC ej) (st (mV (Iw (k + 1)) (zb ?_))))
 exact ⟨_, by omega, k + 1, _, rfl, sSf, by omega, (aG.s11_cdefghijak)⟩

theorem Xr {G : Nat → Prop} {W w : World} {Rs : List HP} {d : Dcl} {dd0 : Value} (hdd0 : RdS W G dd0 d.types) {dd1 : Value} (hdd1 : RdS W G dd1 d.projs) (od : d.Ok) {every : Int} (hevery : InR every) (hKN : RdS W G (.slice (some ⟨0, 0, none⟩) 6 6) kindsL) (hS0 : Sep G W Rs w) (hd : DclOk d) : Ret Tryz.prog 12 [.agg (d.cells dd0 dd1).toArray, .int .i64 (every)] w (fun r w' => ∃ (b : Nat) (ev : Nat), r = (.pointer (some ⟨b, 0, none⟩) : Value) ∧ (((ev : Nat) : Int) = max 1 every) ∧ Sep G W ((BaseO b d ev ([] : List Ev)) :: Rs) w') := by
 have hdd0s : _ * 24 ≤ _ := hdd0.small
 have hdd1s : _ * 40 ≤ _ := hdd1.small
 have hKNs : _ * 8 ≤ _ := hKN.small
 refine zl (args := [.agg (d.cells dd0 dd1).toArray, Iv every]) Tryz.func12 rfl rfl ?_
 refine za (R0 fun _ => st (zT (v := .agg (d.cells dd0 dd1).toArray) rfl ?_))
 intro w3 b2 cA
 have bP := hS0.new cA
 refine st (aS (.pointer none) (zb (za (R0 fun _ => st (Zk rfl (st (lD dd1 qR rfl (zd (bP.b0) rfl) (st (cL Tryz.call35 (Xh (l := d.projs) (vl := dd1) hdd1 bP) ?_)))))))))
 rintro h w6 ⟨_, rfl, bQ⟩
 have aj := bQ.r0
 have hr8s : _ * 40 ≤ _ := aj.2
 refine st (zU (parts' := [(1, h)]) (v := .agg #[(Iz), h]) rfl (by obtain ⟨_, _, cB, _⟩ := aj.1; rw [show h = Value.slice _ _ _ from cB]; simp [Instr.build, Instr.fill, go_sem, Dcl.cells, Typ.cells]) (st (mV (Iv every) (st (Uh (k := .i64) (a := 1) (b := every) rfl rfl (st (zU (parts' := [(0, .agg #[(Iz), h]), (1, Iv (max 1 every))]) (v := .agg #[(Iz), h, Iv (max 1 every), (Iz), .pointer none, (Iz), (Iz)]) rfl (by simp [Instr.build, Instr.fill, go_sem, Dcl.cells, Typ.cells]) (st (zT (v := .agg #[(Iz), h, Iv (max 1 every), (Iz), .pointer none, (Iz), (Iz)]) rfl ?_)))))))))
 intro w12 e bR
 have aL := bQ.new bR
 refine st (aS (Ix e 0) (zb (za (za (R0 fun _ => st (yz rfl (st (lD dd0 tY rfl (zd (aL.b2) rfl) (st (zB (n := d.types.length) uR rfl hdd0.sl (st (mV (Iv 0) (zb (zr ?_))))))))))))))
 have bS : Sep _ _ ((RowE (α := Typ) own 84 (Iz) ([] : List Typ)) :: _) _ := aL.rowNil own 84
 refine zZ (fun mq σ B => ∃ (k : Nat) (vo : Value) (ρ : Env), mq = d.types.length - k ∧ σ = yc ρ [(2, Ix b2 0), (4, .pointer none), (5, Ix e 0), (21, dd0), (22, Iw d.types.length), (23, Iw k)] ∧ (k ≤ d.types.length) ∧ Sep G W ((RowE (α := Typ) own 84 vo (d.types.take k)) :: (Blk e #[vo, h, Iv (max 1 every), (Iz), .pointer none, (Iz), (Iz)] 81) :: (RowE (α := Prj) own 46 h d.projs) :: (Blk b2 (d.cells dd0 dd1).toArray 25) :: Rs) B) ⟨0, (Iz), _, rfl, sSf, Nat.zero_le _, bS⟩ ?_
 rintro m16 σ17 w15 ⟨k, vo, ρl1, rfl, rfl, hkk, C⟩
 have bT := C.r0
 have hr19s : _ * 24 ≤ _ := bT.2
 refine za (R0 fun _ => st (zL (k := .i64) (a := ((k : Nat) : Int)) (b := ((d.types.length : Nat) : Int)) rfl rfl (zb (za ?_))))
 cases P : decide (((k : Nat) : Int) < ((d.types.length : Nat) : Int))
 have P := fD P
 have hkn : k = d.types.length := by omega
 rw [hkn, List.take_of_length_le (Nat.le_refl d.types.length)] at C
 have bU := C.r0
 have hr21s : _ * 24 ≤ _ := bU.2
 refine zf rfl (ya (zS (za (R0 fun _ => st (mV (Ix e 0) (st (mV (Ix e 0) (st (zm (b := e) (o := 0) rfl (st (Yx rfl (st (zg (k := 2) (cs := [vo, h]) Tryz.isAgg25 Tryz.sizeOf25 rfl rfl (CellsAt.sub (CellsAt.all (C.b1)) 0 (cs2 := [vo, h]) rfl) ?_)))))))))))))
 obtain ⟨G22, bV, hB25, bW, bX⟩ := C.lend
 have ak := RowE.rd bV
 have hrd28s : _ * 24 ≤ _ := ak.small
 obtain ⟨G30, bY, bZ, ca, cb⟩ := (bW.mv1).lend
 have al := RowE.rd bY
 have hrd36s : _ * 40 ≤ _ := al.small
 refine st (cL Tryz.call38 (Kn (d := d) (RdS.base ak bZ) al od ca) ?_)
 rintro _ w38 ⟨y, rfl, cc⟩
 have cd := cb _ _ cc
 have aM := bX _ _ cd
 refine st (zm (b := e) (o := 0) rfl (st (xC rfl (st (Xx rfl (stn (yt (v := Ix y 0) (c := [vo, h, Iv (max 1 every), (Iz), .pointer none, (Iz), (Iz)]) (c' := [vo, h, Iv (max 1 every), (Iz), Ix y 0, (Iz), (Iz)]) Tryz.sizeOf75 rfl rfl (aM.b3) rfl rfl rfl ?_)))))))
 intro cC ce
 have aN := aM.pt3 ce
 refine zb (za (za (R0 fun _ => st (mV (Ix e 0) (st (zm (b := e) (o := 0) rfl (st (Yx rfl (st (Zk rfl (st (lD h qR rfl (zd (aN.b3) rfl) (st (zB (n := d.projs.length) tT rfl aj.1 (st (mV (Iv 0) (zb (zr ?_))))))))))))))))))
 have cf : Sep G W ((zW (Iz) ([] : List PR)) :: (RowE (α := Typ) own 84 vo d.types) :: (RowE (α := Prj) own 46 h d.projs) :: (ViewO y d [] []) :: (Blk e #[vo, h, Iv (max 1 every), (Iz), Ix y 0, (Iz), (Iz)] 81) :: (Blk b2 (d.cells dd0 dd1).toArray 25) :: Rs) cC := ZipW.nil xq 93 aN
 have cg : (prs d []).length = d.projs.length := Zl _ _
 refine zZ (fun mq σ B => ∃ (k : Nat) (vw : Value) (ρ : Env), mq = d.projs.length - k ∧ σ = yc ρ [(4, .pointer none), (5, Ix e 0), (73, h), (74, Iw d.projs.length), (75, Iw k)] ∧ (k ≤ d.projs.length) ∧ Sep G W ((zW vw ((prs d []).take k)) :: (RowE (α := Typ) own 84 vo d.types) :: (RowE (α := Prj) own 46 h d.projs) :: (ViewO y d [] []) :: (Blk e #[vo, h, Iv (max 1 every), (Iz), Ix y 0, vw, (Iz)] 81) :: (Blk b2 (d.cells dd0 dd1).toArray 25) :: Rs) B) ⟨0, (Iz), _, rfl, sSf, Nat.zero_le _, cf⟩ ?_
 rintro m47 σ48 cD ⟨k, vw, ρl2, rfl, rfl, hkk, K⟩
 refine za (R0 fun _ => st (zL (k := .i64) (a := ((k : Nat) : Int)) (b := ((d.projs.length : Nat) : Int)) rfl rfl (zb (za ?_))))
 cases Q : decide (((k : Nat) : Int) < ((d.projs.length : Nat) : Int))
 have Q := fD Q
 have hkn : k = d.projs.length := by omega
 rw [hkn, List.take_of_length_le (Nat.le_of_eq cg)] at K
 refine zf rfl (ya (zS (za ?_)))
 obtain ⟨F, aO⟩ : ∃ n : Nat, ((n : Nat) : Int) = max 1 every := ⟨(max 1 every).toNat, by omega⟩
 rw [← aO] at K
 have am : 1 ≤ F ∧ F ≤ 9223372036854775807 := by omega
 have ch : Sep _ _ ((RowE (α := Ev) own 64 (Iz) ([] : List Ev)) :: _) _ := K.rowNil own 64
 have ci : Sep G W ((yE (Iz) ([] : List (List PR))) :: (RowE (α := Ev) own 64 (Iz) ([] : List Ev)) :: (zW vw (prs d [])) :: (RowE (α := Typ) own 84 vo d.types) :: (RowE (α := Prj) own 46 h d.projs) :: (ViewO y d [] []) :: (Blk e #[vo, h, Iw F, (Iz), Ix y 0, vw, (Iz)] 81) :: (Blk b2 (d.cells dd0 dd1).toArray 25) :: Rs) cD := ZipW.nil PtA 78 ch
 refine zu (by kernel_rfl) (fun _ => (st (mV (Ix e 0) (st (cL oY (QX  hKN (ci.s8_gdebcafh) (hd) ((Nat.zero_le _)) ((by simp)) (am.1)) ?_)))))
 rintro _ cE ⟨vpts254, rfl, L⟩
 have cj := L.r1
 have hr57s : _ * 24 ≤ _ := cj.2
 have ck := L.r2
 have hr58s : _ * 40 ≤ _ := ck.2
 have cl := L.r3
 have hr59s : _ * 96 ≤ _ := cl.2
 refine zb (za (R0 fun _ => st (mV (Ix e 0) (st (aS (Ix e 0) (zb (zo (zR Tryz.results12 (show _ = (Ix e 0 : Value) from rfl) ?_))))))))
 have cm : (ZA (([] : List Ev)).length F ([] : List (List PR)) (prs d [])) = yq d F [] := Qp (d := d) (every := F)
 rw [cm] at L
 have cn : Sep G W ((BaseO e d F ([] : List Ev)) :: (Blk b2 (d.cells dd0 dd1).toArray 25) :: Rs) cE := BaseO.close (d := d) (every := F) (evs := ([] : List Ev)) am (L.s8_abcdgefh)
 refine ⟨e, F, rfl, ?_, (cn.s2_a)⟩
 exact aO
 have Q := tD Q
 refine zh rfl (zp (za (zr (za (R0 fun _ => ?_)))))
 have co : k < d.projs.length := bo
 refine st (ze (k := 5) (i := k) tT oT rfl aj.1 rfl co ?_)
 have cp : k < d.projs.length := bo
 obtain ⟨_, _, aY, rfl, aP⟩ := K.rowAtD (i := 2) (j := k) rfl cp
 refine st (zg (k := 5) sR oT rfl rfl aY (st (zH pY ?_)))
 intro w68 an cq
 have aQ := K.new cq
 refine stn (zF (v := .agg ((d.projs.getD k default).cells).toArray) (c' := ((d.projs.getD k default).cells).toArray) oT rfl rfl (aQ.b0) (yg ⟨rfl, rfl, rfl, rfl, rfl, trivial⟩) yqc rfl ?_)
 intro cF cr
 refine zb ?_
 obtain ⟨D, ao, ct⟩ := ZipW.open ((aQ.pt0 cr).mv1)
 have ap : Sep G W ((RowE (α := PtC) own 93 vw D) :: (Star (Zip xq D ((prs d []).take k))) :: (Blk an ((d.projs.getD k default).cells).toArray 46) :: (RowE (α := Typ) own 84 vo d.types) :: (RowE (α := Prj) own 46 h d.projs) :: (ViewO y d [] []) :: (Blk e #[vo, h, Iv (max 1 every), (Iz), Ix y 0, vw, (Iz)] 81) :: (Blk b2 (d.cells dd0 dd1).toArray 25) :: Rs) cF := ct
 have cu := ap.r0
 have hr77s : _ * 8 ≤ _ := cu.2
 have hsn9 : D.length = k := by rw [ao, List.length_take]; omega
 refine WD4 ((fun TT aR ab ac ad ae af aq => WF [fun vals B => Sep G W (aR :: ab :: ac :: ad :: ae :: af :: aq :: TT) B, fun vals B => ∃ (g : Nat), (vals 7 = (Ix g 0 : Value)) ∧ Sep G W ((ProjO g (d.projs.getD k default) []) :: aR :: ab :: ac :: ad :: ae :: af :: aq :: TT) B, fun vals B => ∃ (g : Nat) (t : Nat), (vals 7 = (Ix g 0 : Value)) ∧ (vals 8 = ((Iy t 1 1) : Value)) ∧ Sep G W ((Blk t #[Ix g 0] 93) :: (ProjO g (d.projs.getD k default) []) :: aR :: ab :: ac :: ad :: ae :: af :: aq :: TT) B, fun vals B => ∃ (g : Nat) (t : Nat) (m : Value), (vals 7 = (Ix g 0 : Value)) ∧ (vals 8 = ((Iy t 1 1) : Value)) ∧ (vals 9 = (m : Value)) ∧ Sep G W ((RowE (α := PtC) own 93 m (D ++ [(⟨g⟩ : PtC)])) :: (ProjO g (d.projs.getD k default) []) :: ab :: ac :: ad :: ae :: af :: aq :: TT) B, fun vals B => ∃ (g : Nat) (t : Nat) (m : Value), (vals 7 = (Ix g 0 : Value)) ∧ (vals 8 = ((Iy t 1 1) : Value)) ∧ (vals 9 = (m : Value)) ∧ Sep G W ((RowE (α := PtC) own 93 m (D ++ [(⟨g⟩ : PtC)])) :: (ProjO g (d.projs.getD k default) []) :: ab :: ac :: ad :: ae :: af :: (Blk e #[vo, h, Iv (max 1 every), (Iz), Ix y 0, m, (Iz)] 81) :: TT) B]) ((Blk b2 (d.cells dd0 dd1).toArray 25) :: Rs) (RowE (α := PtC) own 93 vw D) (Star (Zip xq D ((prs d []).take k))) (Blk an ((d.projs.getD k default).cells).toArray 46) (RowE (α := Typ) own 84 vo d.types) (RowE (α := Prj) own 46 h d.projs) (ViewO y d [] []) (Blk e #[vo, h, Iv (max 1 every), (Iz), Ix y 0, vw, (Iz)] 81)) (AF [Vl 0 (Ix e 0), Vl 1 (Ix e 0), Vl 2 (Ix e 0), Vl 3 (Ix e 4), Vl 4 (Ix e 5), Vl 5 (vw), Vl 6 (.agg ((d.projs.getD k default).cells).toArray), fun _ => True, fun _ => True, fun _ => True, Vl 10 (Ix e 0), Vl 11 (Ix e 4), Vl 12 (Ix e 5), fun _ => True]) [[], [], [1], [1, 2], [1, 2, 3], [1, 2, 3, 4], [], [6], [6, 7], [1, 2, 3, 4, 5, 6, 7, 8], (rg 10), (rg 11), (rg 12), (rg 13)] [7, 8, 9, 13] [(0, 3), (0, 2), (0, 2), (0, 2), (0, 2), (0, 2), (0, 0), (0, 0), (1, 1), (2, 2), (3, 3), (3, 3), (3, 3), (3, 3)] ap ⟨fun _ _ _ _ _ _ _ => obl rfl (mV (Ix e 0) dR), fun _ _ _ _ _ _ _ => obl rfl (mV (Ix e 0) dR), fun _ _ _ _ _ _ aZ => obl rfl (zm (b := e) (o := 0) (aZ 1 dc) dR), fun _ _ _ _ _ _ ba => obl rfl (xC (ba 2 dc) dR), fun _ _ _ _ _ _ bb => obl rfl (ZF (bb 3 dc) dR), ?_, ob1 0 fun _ _ (bc : Sep _ _ _ _) _ => obl rfl (zg (k := 5) sR oT rfl rfl (CellsAt.all (bc.b2)) dR), ?_, ?_, ?_, fun _ _ _ _ _ _ bd => obl rfl (zm (b := e) (o := 0) (bd 0 dc) dR), fun _ _ _ _ _ _ be => obl rfl (xC (be 10 dc) dR), fun _ _ _ _ _ _ bf => obl rfl (ZF (bf 11 dc) dR), ?_, trivial⟩ ?_
 refine fun M _ _ cv cw R S => ?_
 have hkk : M = 0 ∨ M = 1 ∨ M = 2 := by have h1 : 0 ≤ M := cv; have h2 : M ≤ 2 := cw; omega
 rcases hkk with rfl | rfl | rfl
 have bg : Sep _ _ _ _ := R
 exact obl rfl (lD vw rT (S 4 dc) (zd (bg.b6) rfl) dR)
 obtain ⟨g, z, bh⟩ := R
 exact obl rfl (lD vw rT (S 4 dc) (zd (bh.b7) rfl) dR)
 obtain ⟨g, t, z, A, bi⟩ := R
 exact obl rfl (lD vw rT (S 4 dc) (zd (bi.b8) rfl) dR)
 refine ob1 0 fun vals _ (bj : Sep _ _ _ _) bk => (obl rfl ((zK (f := 39) (vals := [.agg ((d.projs.getD k default).cells).toArray]) (cap := []) rfl (yI ⟨(bk 6 dc), trivial⟩) Tryz.call39 (zaC (p := (d.projs.getD k default)) aP bj) ?_)))
 rintro _ w135 ⟨g, rfl, bl⟩
 exact fun T hv H => ⟨(Exists.intro g (And.intro hv bl)), trivial⟩
 refine ob1 1 fun _ _ bm _ => ?_
 obtain ⟨g, z, bn⟩ := bm
 refine obl rfl ((zJ (k := 1) (parts' := [(0, Ix g 0)]) (c := #[Ix g 0]) uT tR Tryz.zeroValue93 dc (xG ⟨rfl, z, trivial⟩) kr ?_))
 intro w147 t bp
 exact fun T hv H => ⟨(Exists.intro g (Exists.intro t (And.intro ((H 7 dc).trans z) (And.intro hv (bn.new bp))))), trivial⟩
 refine ob1 2 fun _ _ bq br => ?_
 obtain ⟨g, t, z, A, ar⟩ := bq
 refine obl rfl ?_
 have aT := ar.b0
 refine (yx (src := own) (bytes := 8) (x1 := (⟨g⟩ : PtC)) ((ar.s10_cbdefghij).emp1) el76 (br 5 (by decide)) A aT (fun _ _ _ => (show _ from ⟨rfl, ⟨⟩⟩)) yqb rfl ?_)
 intro m w158 au
 have bs := au.r0
 have hr164s : _ * 8 ≤ _ := bs.2
 exact fun T hv H => ⟨(Exists.intro g (Exists.intro t (Exists.intro m (And.intro ((H 7 dc).trans z) (And.intro ((H 8 dc).trans A) (And.intro hv au)))))), trivial⟩
 refine ob1 3 fun _ _ bt bu => ?_
 obtain ⟨g, t, m, z, A, U, V⟩ := bt
 refine obl rfl ?_
 have av := V.r0
 have hr197s : _ * 8 ≤ _ := av.2
 refine (yt (v := m) (c := [vo, h, Iv (max 1 every), (Iz), Ix y 0, vw, (Iz)]) (c' := [vo, h, Iv (max 1 every), (Iz), Ix y 0, m, (Iz)]) Tryz.sizeOf76 (bu 12 dc) U (V.b7) av.1.one rfl rfl ?_)
 intro w195 bv
 exact fun T hv H => ⟨(Exists.intro g (Exists.intro t (Exists.intro m (And.intro ((H 7 dc).trans z) (And.intro ((H 8 dc).trans A) (And.intro ((H 9 dc).trans U) (V.pt7 bv))))))), trivial⟩
 intro vals cx bw hA274
 obtain ⟨g, t, m, z, A, U, bx⟩ := bw
 refine zX (kv := [(4, .pointer none), (5, Ix e 0), (73, h), (74, Iw d.projs.length), (75, Iw k), (76, .bool true), (77, Ix (sb h) (so h + k * 5)), (78, .agg ((d.projs.getD k default).cells).toArray), (11, Ix an 0)]) sEv (fun ρw272 => (zb ?_))
 have bz : Sep G W ((zW m (((prs d []).take k) ++ [(((d.projs.getD k default), []) : PR)])) :: (Blk an ((d.projs.getD k default).cells).toArray 46) :: (RowE (α := Typ) own 84 vo d.types) :: (RowE (α := Prj) own 46 h d.projs) :: (ViewO y d [] []) :: (Blk e #[vo, h, Iv (max 1 every), (Iz), Ix y 0, m, (Iz)] 81) :: (Blk b2 (d.cells dd0 dd1).toArray 25) :: Rs) cx := ZipW.snoc (s := (⟨g⟩ : PtC)) (c := (((d.projs.getD k default), []) : PR)) ao (bx.s9_acbdefghi)
 refine R0 fun _ => ?_
 have bA : InR ((k + 1 : Nat) : Int) := bo
 refine st (zQ (r := ((k + 1 : Nat) : Int)) (k := .i64) (a := ((k : Nat) : Int)) (b := 1) rfl rfl (by rw [show (((k : Nat) : Int) + 1 : Int) = ((k + 1 : Nat) : Int) from bo]; exact zC bA) (st (mV (Iw (k + 1)) (zb ?_))))
 have aw := bz.s7_acdefg
 have cG : (prs d []).take (k + 1) = (((prs d []).take k) ++ [(((d.projs.getD k default), []) : PR)]) := by rw [List.take_getD (d := default) (by omega), WA (by omega)]; rfl
 rw [← cG] at aw
 exact ⟨_, by omega, k + 1, m, _, rfl, sSf, by omega, aw⟩
 have P := tD P
 refine zh rfl (zp (za (zr (za (R0 fun _ => ?_)))))
 have bB : k < d.types.length := bo
 refine st (ze (k := 1) (i := k) uR vT rfl hdd0.sl rfl bB ?_)
 have ax : k < d.types.length := bo
 obtain ⟨aU, E, hoke281⟩ := hdd0.typD ax
 have hsm283 : ((d.types.getD k default).fields).length * 48 ≤ 140737488355328 := E.small
 have aV := C.cells aU (hdd0.foot (ne_of_lt ax))
 refine st (zg (k := 1) Tryz.isAgg84 vT rfl rfl aV (st (zH uY ?_)))
 intro w287 ah bC
 have ay := C.new bC
 refine stn (zF (v := .agg ((d.types.getD k default).cells (zG W (sb dd0) (so dd0 + k * 1 + 0))).toArray) (c' := ((d.types.getD k default).cells (zG W (sb dd0) (so dd0 + k * 1 + 0))).toArray) vT rfl rfl (ay.b0) (yg ⟨E.sl.one, trivial⟩) yqc rfl ?_)
 intro w289 bD
 have az := ay.pt0 bD
 refine zb (za (R0 fun _ => st (yT rfl (st (lD (zG W (sb dd0) (so dd0 + k * 1 + 0)) Tryz.isAgg82 rfl (zd (az.b0) rfl) (st (cL Tryz.call36 (Xm (l := (d.types.getD k default).fields) (vl := (zG W (sb dd0) (so dd0 + k * 1 + 0))) E az) ?_)))))))
 rintro x w293 ⟨_, rfl, aA⟩
 have aB := aA.r0
 have hr295s : _ * 48 ≤ _ := aB.2
 refine st (aS x (zb (za (za (R0 fun _ => st (mV x (st (zB (n := ((d.types.getD k default).fields).length) vR rfl aB.1 (st (mV (Iv 0) (zb (zr ?_))))))))))))
 have bE := aA.toMix
 refine zZ (fun mq σ B => ∃ (q : Nat) (ρ : Env), mq = ((d.types.getD k default).fields).length - q ∧ σ = yc ρ [(2, Ix b2 0), (4, .pointer none), (5, Ix e 0), (7, Ix ah 0), (8, x), (21, dd0), (22, Iw d.types.length), (23, Iw k), (31, Iw (((d.types.getD k default).fields).length)), (32, Iw q)] ∧ (q ≤ ((d.types.getD k default).fields).length) ∧ Sep G W ((RowE (α := Bool × Fld) (mix (α := Fld) G W) 88 x (xE q ((d.types.getD k default).fields))) :: (Blk ah ((d.types.getD k default).cells (zG W (sb dd0) (so dd0 + k * 1 + 0))).toArray 84) :: (RowE (α := Typ) own 84 vo (d.types.take k)) :: (Blk e #[vo, h, Iv (max 1 every), (Iz), .pointer none, (Iz), (Iz)] 81) :: (RowE (α := Prj) own 46 h d.projs) :: (Blk b2 (d.cells dd0 dd1).toArray 25) :: Rs) B) ⟨0, _, rfl, sSf, Nat.zero_le _, bE⟩ ?_
 rintro m298 σ299 cy ⟨q, ρl3, rfl, rfl, hkq, I⟩
 have X := I.r0
 rw [xg] at X
 refine za (R0 fun _ => st (zL (k := .i64) (a := ((q : Nat) : Int)) (b := ((((d.types.getD k default).fields).length : Nat) : Int)) rfl rfl (zb (za ?_))))
 cases J : decide (((q : Nat) : Int) < ((((d.types.getD k default).fields).length : Nat) : Int))
 have J := fD J
 have Y : Sep G W ((RowE (α := Fld) own 88 x ((d.types.getD k default).fields)) :: (Blk ah ((d.types.getD k default).cells (zG W (sb dd0) (so dd0 + k * 1 + 0))).toArray 84) :: (RowE (α := Typ) own 84 vo (d.types.take k)) :: (Blk e #[vo, h, Iv (max 1 every), (Iz), .pointer none, (Iz), (Iz)] 81) :: (RowE (α := Prj) own 46 h d.projs) :: (Blk b2 (d.cells dd0 dd1).toArray 25) :: Rs) cy := I.ofMix om
 have aC := Y.r0
 have hr304s : _ * 48 ≤ _ := aC.2
 refine zf rfl (ya (zS (R0 fun _ => st (mV (Ix e 0) (st (mV (Ix e 0) (st (zm (b := e) (o := 0) rfl (st (Yx rfl (st (yz rfl (st (lD vo tY rfl (zd (Y.b3) rfl) (st (mV x ?_))))))))))))))))
 have bF : Typ.Ok (d.types.getD k default) := ⟨⟩
 refine st (zU (parts' := [(0, x)]) (v := .agg ((d.types.getD k default).cells x).toArray) rfl (by obtain ⟨_, _, bG, _⟩ := aC.1; rw [show x = Value.slice _ _ _ from bG]; simp [Instr.build, Instr.fill, go_sem, Dcl.cells, Typ.cells]) (st (zJ (k := 1) (parts' := [(0, .agg ((d.types.getD k default).cells x).toArray)]) (c := ((d.types.getD k default).cells x).toArray) uR vT uY (by decide) rfl (by kernel_rfl) ?_)))
 intro w309 b308 bH
 have aD := Y.new bH
 have aW := aD.b0
 refine st (yx (src := own) (bytes := 24) (x1 := (d.types.getD k default)) (aD.s7_dbcefg) el22 rfl rfl aW (fun _ _ hN => ⟨_, rfl, RowE.soft hN, bF⟩) yqb rfl ?_)
 intro ai w311 Z
 have aE := Z.r0
 have hr316s : _ * 24 ≤ _ := aE.2
 refine st (zm (b := e) (o := 0) rfl (st (Yx rfl (st (yz rfl (stn (yt (v := ai) (c := [vo, h, Iv (max 1 every), (Iz), .pointer none, (Iz), (Iz)]) (c' := [ai, h, Iv (max 1 every), (Iz), .pointer none, (Iz), (Iz)]) Tryz.sizeOf22 rfl rfl (Z.b2) aE.1.one rfl rfl ?_)))))))
 intro w317 bI
 refine zb (R0 fun _ => ?_)
 have bJ : InR ((k + 1 : Nat) : Int) := bo
 refine st (zQ (r := ((k + 1 : Nat) : Int)) (k := .i64) (a := ((k : Nat) : Int)) (b := 1) rfl rfl (by rw [show (((k : Nat) : Int) + 1 : Int) = ((k + 1 : Nat) : Int) from bo]; exact zC bJ) (st (mV (Iw (k + 1)) (zb ?_))))
 have aF := (Z.pt2 bI).s5_acde
 have bK : (d.types.take (k + 1)) = (d.types.take k) ++ [(d.types.getD k default)] := (List.take_getD om)
 rw [← bK] at aF
 exact ⟨_, by omega, k + 1, ai, _, rfl, sSf, by omega, aF⟩
 have J := tD J
 refine zh rfl (zp (za (zr (za (R0 fun _ => st (mV (Iw q) (st (aS (Iw q) (zb (R0 fun _ => st (mV x (st (mV (Iw q) (st (mV x (st (mV (Iw q) ?_)))))))))))))))))
 have bL : q < ((d.types.getD k default).fields).length := bo
 refine st (ze (k := 4) (i := q) vR vY rfl X.1 rfl bL (st (yO rfl ?_)))
 have aG : q < ((d.types.getD k default).fields).length := bo
 obtain ⟨_, ag, O, rfl, N, aK⟩ := I.mixAt (i := 0) (j := q) rfl (Nat.le_refl _) aG
 rw [← zx default aG] at ag N aK
 refine st (lD O Tryz.isAgg86 rfl (ag.get (j := 3) rfl) (st (cL Tryz.call37 (YD (l := (((d.types.getD k default).fields).getD q default).moves) (vl := O) N I) ?_)))
 rintro aX w327 ⟨_, rfl, aH⟩
 have aa := aH.r0
 have hr329s : _ * 32 ≤ _ := aa.2
 have bM : q < ((d.types.getD k default).fields).length := bo
 refine st (ze (k := 4) (i := q) vR vY rfl X.1 rfl bM (st (yO rfl ?_)))
 have aI : q < ((d.types.getD k default).fields).length := bo
 refine stn (ZH (α := Fld) (j := q) (o := 3) (u := aX) (us := [aX]) (aH.mv1) Tryz.sizeOf86 aI rfl rfl (congrArg Array.toList (yN aa.1.one)) (Nat.le_of_ble_eq_true rfl) (yg ⟨aa.1.one, trivial⟩) (fun w f cs0 hr hN => (by obtain ⟨d, rfl, hd, hok⟩ := hr; exact ⟨_, rfl, (by rw [← zx default aI]; exact RowE.soft hN), hok⟩)) ?_)
 intro w331 bN
 refine zb (R0 fun _ => ?_)
 have bO : InR ((q + 1 : Nat) : Int) := bo
 refine st (zQ (r := ((q + 1 : Nat) : Int)) (k := .i64) (a := ((q : Nat) : Int)) (b := 1) rfl rfl (by rw [show (((q : Nat) : Int) + 1 : Int) = ((q + 1 : Nat) : Int) from bo]; exact zC bO) (st (mV (Iw (q + 1)) (zb ?_))))
 exact ⟨_, by omega, q + 1, _, rfl, sSf, by omega, bN⟩

theorem zaY {G : Nat → Prop} {W w : World} {Rs : List HP} {b : Nat} {d : Dcl} {every : Nat} {evs : List Ev} {n : Nat} (hn : n < evs.length) (hKN : RdS W G (.slice (some ⟨0, 0, none⟩) 6 6) kindsL) (hS0 : Sep G W ((BaseO b d every evs) :: Rs) w) (hd : DclOk d) (hfew : evs.length ≤ 1000000) : Ret Tryz.prog 41 [.pointer (some ⟨b, 0, none⟩), .int .i64 ((n : Nat) : Int)] w (fun r w' => r = (.tuple #[] : Value) ∧ Sep G W ((BaseO b d every (evs.take (n / every * every))) :: Rs) w') := by
 have hKNs : _ * 8 ≤ _ := hKN.small
 refine zl (args := [Ix b 0, Iw n]) Tryz.func41 rfl rfl ?_
 obtain ⟨Y, p, q, aI, h, t, u, aT⟩ := BaseO.open hS0
 let aV := ViewO h d (zn d evs) (zn d evs)
 have D : Sep G W ((Blk b #[p, q, Iw every, aI, Ix h 0, t, u] 81) :: (RowE (α := Typ) own 84 p d.types) :: (RowE (α := Prj) own 46 q d.projs) :: (RowE (α := Ev) own 64 aI evs) :: aV :: (zW t (prs d evs)) :: (yE u (yq d every evs)) :: Rs) w := aT
 have aU := D.r1
 have hr9s : _ * 24 ≤ _ := aU.2
 have aL := D.r2
 have hr10s : _ * 40 ≤ _ := aL.2
 have aM := D.r3
 have hr11s : _ * 96 ≤ _ := aM.2
 refine za ?_
 have hdz9 : (0 : Int) ≤ ((n : Nat) : Int) / ((every : Nat) : Int) := Int.ediv_nonneg om om
 have hdv9 : n / every ≤ n := Nat.div_le_self ..
 have hdm9 : n / every * every ≤ n := Nat.div_mul_le_self ..
 have aN := Yl d every evs
 have hdd9 : n / every ≤ evs.length / every := Nat.div_le_div_right om
 refine zu (by kernel_rfl) (fun _ => (st (mV (Iw n) (st (mV (Ix b 0) (st (zm (b := b) (o := 0) rfl (st (VN rfl (st (lD (Iw every) mT rfl (zd (D.b0) rfl) (st (QQ (r := ((n / every : Nat) : Int)) rfl rfl (by omega) (by rw [show Int.tdiv (((n : Nat) : Int)) (((every : Nat) : Int)) = ((n / every : Nat) : Int) from (Int.ofNat_tdiv _ _).symm]; exact zC (by omega)) (st (aS (Iw (n / every)) (zb (za ?_)))))))))))))))))
 obtain ⟨l, e, rfl, hcap14⟩ := D.rowSome (i := 3) rfl om
 let aX := Iy l evs.length e
 let aP := Iy l ((n / every) * every) e
 have aO : Sep G W ((Blk b #[p, q, Iw every, aX, Ix h 0, t, u] 81) :: (RowE (α := Typ) own 84 p d.types) :: (RowE (α := Prj) own 46 q d.projs) :: (RowE (α := Ev) own 64 aX evs) :: aV :: (zW t (prs d evs)) :: (yE u (yq d every evs)) :: Rs) w := D
 refine WD4 ((fun TT => WF [fun vals wq => Sep G W ((Blk b #[p, q, Iw every, aX, Ix h 0, t, u] 81) :: TT) wq, fun vals wq => Sep G W ((Blk b #[p, q, Iw every, aP, Ix h 0, t, u] 81) :: TT) wq]) ((RowE (α := Typ) own 84 p d.types) :: (RowE (α := Prj) own 46 q d.projs) :: (RowE (α := Ev) own 64 aX evs) :: aV :: (zW t (prs d evs)) :: (yE u (yq d every evs)) :: Rs)) (AF [Vl 0 (Ix b 0), Vl 1 (Ix b 0), Vl 2 (Ix b 0), Vl 3 (Ix b 3), Vl 4 (aX), Vl 5 (Iw (n / every)), Vl 6 (Ix b 0), Vl 7 (Ix b 0), Vl 8 (Ix b 2), Vl 9 (Iw every), Vl 10 (Iw ((n / every) * every)), Vl 11 (aP), Vl 12 (Ix b 0), Vl 13 (Ix b 3), fun _ => True]) [[], [], [1], [1, 2], [1, 2, 3], [], [], [6], [6, 7], [6, 7, 8], [5, 6, 7, 8, 9], [1, 2, 3, 4, 5, 6, 7, 8, 9, 10], (rg 12), (rg 13), (rg 14)] [14] [(0, 0), (0, 0), (0, 0), (0, 0), (0, 0), (0, 0), (0, 0), (0, 0), (0, 0), (0, 0), (0, 0), (0, 0), (0, 0), (0, 0), (0, 0)] aO ⟨fun _ _ _ _ _ _ _ => obl rfl (mV (Ix b 0) dR), fun _ _ _ _ _ _ _ => obl rfl (mV (Ix b 0) dR), fun _ _ _ _ _ _ aa => obl rfl (zm (b := b) (o := 0) (aa 1 dc) dR), fun _ _ _ _ _ _ ab => obl rfl (xR (ab 2 dc) dR), ob1 0 fun _ _ (ac : Sep _ _ _ _) ad => obl rfl (lD aX nT (ad 3 dc) (zd (ac.b0) rfl) dR), fun _ _ _ _ _ _ _ => obl rfl (mV (Iw (n / every)) dR), fun _ _ _ _ _ _ _ => obl rfl (mV (Ix b 0) dR), fun _ _ _ _ _ _ ae => obl rfl (zm (b := b) (o := 0) (ae 6 dc) dR), fun _ _ _ _ _ _ af => obl rfl (VN (af 7 dc) dR), ob1 0 fun _ _ (ag : Sep _ _ _ _) ah => obl rfl (lD (Iw every) mT (ah 8 dc) (zd (ag.b0) rfl) dR), ?_, ob1 0 fun _ _ _ O => obl rfl (Xz (k := 10) (g := l) (n := evs.length) (c := e) (j := ((n / every) * every)) kT lT (O 4 dc) (O 10 dc) om om dR), fun _ _ _ _ _ _ ai => obl rfl (zm (b := b) (o := 0) (ai 0 dc) dR), fun _ _ _ _ _ _ aj => obl rfl (xR (aj 12 dc) dR), ?_, trivial⟩ ?_
 refine ob1 0 fun _ _ _ P => (obl rfl ?_)
 have ak : InR (((n / every) * every : Nat) : Int) := bo
 exact QG (r := (((n / every) * every : Nat) : Int)) (k := .i64) (a := ((n / every : Nat) : Int)) (b := ((every : Nat) : Int)) (P 5 (by decide)) (P 9 (by decide)) (by rw [show (((n / every : Nat) : Int) * ((every : Nat) : Int) : Int) = (((n / every) * every : Nat) : Int) from bo]; exact zC ak) dR
 refine ob1 0 fun _ _ (Q : Sep _ _ _ _) R => (obl rfl ((yt (v := aP) (c := [p, q, Iw every, aX, Ix h 0, t, u]) (c' := [p, q, Iw every, aP, Ix h 0, t, u]) nY (R 13 dc) (R 11 dc) (Q.b0) rfl rfl rfl ?_)))
 intro w126 al
 exact fun vals' hv hv' => ⟨(Q.pt0 al), trivial⟩
 intro vals N am hA232
 have an : Sep _ _ _ _ := am
 refine zX (kv := [(0, Ix b 0), (1, Iw n), (5, Iw n), (6, Ix b 0), (7, Ix b 0), (8, Ix b 2), (9, Iw every), (10, Iw (n / every)), (4, Iw (n / every))]) sEv (fun ρw230 => (zb (za ?_)))
 have S : Sep G W ((RowE (α := Ev) own 64 (Iy l ((n / every) * every) e) (evs.take (n / every * every))) :: (Blk b #[p, q, Iw every, (Iy l ((n / every) * every) e), Ix h 0, t, u] 81) :: (RowE (α := Typ) own 84 p d.types) :: (RowE (α := Prj) own 46 q d.projs) :: (ViewO h d (zn d evs) (zn d evs)) :: (zW t (prs d evs)) :: (yE u (yq d every evs)) :: Rs) N := (an.mv3).rowCut rfl om
 have ao := S.r0
 have hr236s : _ * 96 ≤ _ := ao.2
 obtain ⟨x, L, ap⟩ := ZipW.open (S.mv6)
 have F : Sep G W ((RowE (α := PtV) own 78 u x) :: (Star (Zip PtA x (yq d every evs))) :: (RowE (α := Ev) own 64 aP (evs.take (n / every * every))) :: (Blk b #[p, q, Iw every, aP, Ix h 0, t, u] 81) :: (RowE (α := Typ) own 84 p d.types) :: (RowE (α := Prj) own 46 q d.projs) :: aV :: (zW t (prs d evs)) :: Rs) N := ap
 have aq := F.r0
 have hr241s : _ * 32 ≤ _ := aq.2
 have hsl9 : x.length = evs.length / every + 1 := by rw [L, aN]
 obtain ⟨m, f, rfl, hcap244⟩ := F.rowSome (i := 0) rfl om
 let aW := Iy m (n / every + 1) f
 let aY := Blk b #[p, q, Iw every, aP, Ix h 0, t, aW] 81
 have T : Sep G W ((RowE (α := PtV) own 78 (Iy m x.length f) x) :: (Star (Zip PtA x (yq d every evs))) :: (RowE (α := Ev) own 64 aP (evs.take (n / every * every))) :: (Blk b #[p, q, Iw every, aP, Ix h 0, t, (Iy m x.length f)] 81) :: (RowE (α := Typ) own 84 p d.types) :: (RowE (α := Prj) own 46 q d.projs) :: aV :: (zW t (prs d evs)) :: Rs) N := F
 refine R0 fun _ => st (mV (Ix b 0) (st (zm (b := b) (o := 0) rfl (st (Yc rfl (st (lD (Iy m x.length f) wR rfl (zd (T.b3) rfl) (st (mV (Iw (n / every)) ?_)))))))))
 have ar : InR ((n / every + 1 : Nat) : Int) := bo
 refine st (zQ (r := ((n / every + 1 : Nat) : Int)) (k := .i64) (a := ((n / every : Nat) : Int)) (b := 1) rfl rfl (by rw [show (((n / every : Nat) : Int) + 1 : Int) = ((n / every + 1 : Nat) : Int) from bo]; exact zC ar) (st (WV (k := 2) (g := m) (n := x.length) (c := f) (i := (n / every + 1)) wT sT rfl rfl (by omega) (by omega) (stn (Qr (α := PtV) (g := m) (n := x.length) (c := f) (i := (n / every + 1)) wT Tryz.zeroValue78 rfl (yg ⟨rfl, rfl, trivial⟩) T rfl (by omega) rfl ?_)))))
 intro w247 E
 have au := E.r0
 have hr249s : _ * 32 ≤ _ := au.2
 refine zb (za (R0 fun _ => st (mV (Ix b 0) (st (mV (Ix b 0) (st (zm (b := b) (o := 0) rfl (st (Yc rfl (st (lD (Iy m x.length f) wR rfl (zd (E.b3) rfl) (st (mV (Iw (n / every)) ?_)))))))))))))
 have av : InR ((n / every + 1 : Nat) : Int) := bo
 refine st (zQ (r := ((n / every + 1 : Nat) : Int)) (k := .i64) (a := ((n / every : Nat) : Int)) (b := 1) rfl rfl (by rw [show (((n / every : Nat) : Int) + 1 : Int) = ((n / every + 1 : Nat) : Int) from bo]; exact zC av) (st (Xz (k := 2) (g := m) (n := x.length) (c := f) (j := (n / every + 1)) wT sT rfl rfl (by omega) (by omega) (st (zm (b := b) (o := 0) rfl (st (Yc rfl (stn (yt (v := (Iy m (n / every + 1) f)) (c := [p, q, Iw every, (Iy l ((n / every) * every) e), Ix h 0, t, (Iy m x.length f)]) (c' := [p, q, Iw every, (Iy l ((n / every) * every) e), Ix h 0, t, (Iy m (n / every + 1) f)]) Tryz.sizeOf79 rfl rfl (E.b3) rfl rfl rfl ?_)))))))))
 intro I aw
 refine zb ?_
 have U : Sep G W ((yE aW ((yq d every evs).take (n / every + 1))) :: (RowE (α := Ev) own 64 aP (evs.take (n / every * every))) :: aY :: (RowE (α := Typ) own 84 p d.types) :: (RowE (α := Prj) own 46 q d.projs) :: aV :: (zW t (prs d evs)) :: Rs) I := ZipW.cut L (E.pt3 aw)
 have aQ : (yq d every evs).take (n / every + 1) = (yq d every (evs.take (n / every * every))) := Kb Y.1 om
 rw [aQ] at U
 have aJ : (evs.take (n / every * every)).length = n / every * every := by rw [List.length_take]; omega
 have Z : (evs.take (n / every * every)).length / every = n / every := by rw [aJ, Nat.mul_div_cancel _ (by omega)]
 have aR : (yq d every (evs.take (n / every * every))).length = n / every + 1 := by rw [Yl, Z]
 obtain ⟨s, C, ax⟩ := ZipW.open U
 have M : Sep G W ((RowE (α := PtV) own 78 aW s) :: (Star (Zip PtA s (yq d every (evs.take (n / every * every))))) :: (RowE (α := Ev) own 64 aP (evs.take (n / every * every))) :: aY :: (RowE (α := Typ) own 84 p d.types) :: (RowE (α := Prj) own 46 q d.projs) :: aV :: (zW t (prs d evs)) :: Rs) I := ax
 have V := M.r0
 have hr258s : _ * 32 ≤ _ := V.2
 have hsl8 : s.length = n / every + 1 := by rw [C, aR]
 have X : Sep G W ((zW ((s.getD (n / every) default).v) ((yq d every (evs.take (n / every * every))).getD (n / every) default)) :: (Star ((Zip PtA s (yq d every (evs.take (n / every * every)))).set (n / every) Emp)) :: (RowE (α := PtV) own 78 (Iy m (n / every + 1) f) s) :: (RowE (α := Ev) own 64 (Iy l ((n / every) * every) e) (evs.take (n / every * every))) :: (Blk b #[p, q, Iw every, (Iy l ((n / every) * every) e), Ix h 0, t, (Iy m (n / every + 1) f)] 81) :: (RowE (α := Typ) own 84 p d.types) :: (RowE (α := Prj) own 46 q d.projs) :: (ViewO h d (zn d evs) (zn d evs)) :: (zW t (prs d evs)) :: Rs) I := ZipW.take C om (M.mv1)
 have aK : (yq d every (evs.take (n / every * every))).getD (n / every) default = prs d (evs.take (n / every * every)) := by rw [JA (by rw [Z]; omega), List.take_of_length_le (by rw [aJ]; exact Nat.le_refl _)]
 rw [aK] at X
 have J : Sep G W ((zW ((s.getD (n / every) default).v) (prs d (evs.take (n / every * every)))) :: (Star ((Zip PtA s (yq d every (evs.take (n / every * every)))).set (n / every) Emp)) :: (RowE (α := PtV) own 78 aW s) :: (RowE (α := Ev) own 64 aP (evs.take (n / every * every))) :: aY :: (RowE (α := Typ) own 84 p d.types) :: (RowE (α := Prj) own 46 q d.projs) :: aV :: (zW t (prs d evs)) :: Rs) I := X
 refine R0 fun _ => st (mV (Ix b 0) (st (mV (Ix b 0) (st (mV (Ix b 0) (st (zm (b := b) (o := 0) rfl (st (Yc rfl (st (lD aW wR rfl (zd (J.b4) rfl) (st (mV (Iw (n / every)) ?_)))))))))))))
 have ay : n / every < s.length := bo
 refine st (ze (k := 2) (i := n / every) wT sT rfl V.1 rfl ay ?_)
 have az : n / every < s.length := bo
 obtain ⟨_, _, H, rfl, hpke263⟩ := J.rowAtD (i := 2) (j := n / every) rfl az
 have H : CellsAt _ _ _ [Ix ((s.getD (n / every) default).b) 0, ((s.getD (n / every) default).v)] := H
 refine st (zg (k := 2) Tryz.isAgg78 sT rfl rfl H (st (cL Tryz.call62 (KU  hKN (J.s9_efgdabchi) (hd) ((by rw [List.length_take]; omega))) ?_)))
 rintro _ w268 ⟨y, z, rfl, B⟩
 have aA := B.r1
 have hr270s : _ * 24 ≤ _ := aA.2
 have aB := B.r2
 have hr271s : _ * 40 ≤ _ := aB.2
 have aC := B.r3
 have hr272s : _ * 96 ≤ _ := aC.2
 refine st (zm (b := b) (o := 0) rfl (st (xC rfl (stn (zF (v := .agg #[Ix y 0, z]) (c' := #[p, q, Iw every, aP, Ix y 0, z, aW]) sT rfl rfl (B.b0) (yg ⟨rfl, (B.zipSl (A := xq) (i := 6) rfl).one, trivial⟩) yqc rfl ?_)))))
 intro K aD
 refine zb (YN Tryz.results41 ?_)
 have aE : Sep G W ((zW ((s.getD (n / every) default).v) ((yq d every (evs.take (n / every * every))).getD (n / every) default)) :: (Star ((Zip PtA s (yq d every (evs.take (n / every * every)))).set (n / every) Emp)) :: (Blk b #[p, q, Iw every, aP, Ix y 0, z, aW] 81) :: (RowE (α := Typ) own 84 p d.types) :: (RowE (α := Prj) own 46 q d.projs) :: (RowE (α := Ev) own 64 aP (evs.take (n / every * every))) :: (ViewO y d (zn d (evs.take (n / every * every))) (zn d (evs.take (n / every * every)))) :: (zW z (prs d (evs.take (n / every * every)))) :: (RowE (α := PtV) own 78 aW s) :: aV :: (zW t (prs d evs)) :: Rs) K := (by rw [aK]; exact ((B.pt0 aD).s11_ehabcdfgijk))
 have aF : Sep G W ((Star (Zip PtA s (yq d every (evs.take (n / every * every))))) :: (Blk b #[p, q, Iw every, (Iy l ((n / every) * every) e), Ix y 0, z, (Iy m (n / every + 1) f)] 81) :: (RowE (α := Typ) own 84 p d.types) :: (RowE (α := Prj) own 46 q d.projs) :: (RowE (α := Ev) own 64 (Iy l ((n / every) * every) e) (evs.take (n / every * every))) :: (ViewO y d (zn d (evs.take (n / every * every))) (zn d (evs.take (n / every * every)))) :: (zW z (prs d (evs.take (n / every * every)))) :: (RowE (α := PtV) own 78 (Iy m (n / every + 1) f) s) :: (ViewO h d (zn d evs) (zn d evs)) :: (zW t (prs d evs)) :: Rs) K := ZipW.back (i := (n / every)) C om aE
 have aG : Sep G W ((yE aW (yq d every (evs.take (n / every * every)))) :: (Blk b #[p, q, Iw every, aP, Ix y 0, z, aW] 81) :: (RowE (α := Typ) own 84 p d.types) :: (RowE (α := Prj) own 46 q d.projs) :: (RowE (α := Ev) own 64 aP (evs.take (n / every * every))) :: (ViewO y d (zn d (evs.take (n / every * every))) (zn d (evs.take (n / every * every)))) :: (zW z (prs d (evs.take (n / every * every)))) :: aV :: (zW t (prs d evs)) :: Rs) K := ZipW.mk C (aF.mv7)
 have aH : Sep G W ((BaseO b d every (evs.take (n / every * every))) :: aV :: (zW t (prs d evs)) :: Rs) K := BaseO.close (d := d) (every := every) (evs := (evs.take (n / every * every))) Y (aG.s9_bcdefgahi)
 refine ⟨rfl, (aH.s3_a)⟩

theorem yqi {p : Prop} (h : p := by first | omega | (refine ⟨?_, ?_⟩ <;> omega)) : p := h

theorem XG {l : List Ev} {F k q : Nat} (hq : q = F) (hk : F + k < l.length) : l.take (F + (k + 1)) = l.take (F + k) ++ [(l.drop q).getD k default] := by
  subst hq
  rw [← Nat.add_assoc, List.take_getD (d := default) hk, List.getD_eq_getElem?_getD, List.getD_eq_getElem?_getD, List.getElem?_drop]
theorem Qn {every : Nat} {l evs : List Ev} {p : Nat} (h : xN l evs = p) (hp : p < evs.length) : yd every l evs = p / every * every := by unfold yd; rw [h, if_pos hp]
theorem KK {every : Nat} {l evs : List Ev} {p : Nat} (h : xN l evs = p) (hp : ¬ p < evs.length) : yd every l evs = p := by unfold yd; rw [h, if_neg hp]
theorem XT {l evs : List Ev} {p q : Nat} (h : VK l evs) (h1 : p ≤ l.length ∧ p ≤ evs.length) (h3 : ∀ i, i < p → xM (l.getD i default) (evs.getD i default)) (hq : q ≤ p) : evs.take q = l.take q := Qa h (by omega) (by omega) (fun i hi => h3 i (by omega))
theorem xA {G : Nat → Prop} {W w : World} {Rs : List HP} {b : Nat} {d : Dcl} {every : Nat} {evs : List Ev} {vl : Value} {l : List Ev} (hl : RdS W G vl l) (hKN : RdS W G (.slice (some ⟨0, 0, none⟩) 6 6) kindsL) (hS0 : Sep G W ((BaseO b d every evs) :: Rs) w) (hd : DclOk d) (hp : Xo d) (hone : VK l evs) (hfew : evs.length ≤ 1000) (hfl : l.length ≤ 1000) : Ret Tryz.prog 13 [.pointer (some ⟨b, 0, none⟩), vl] w (fun r w' => r = (.int .i64 (((l.length - yd every l evs) : Nat) : Int) : Value) ∧ Sep G W ((BaseO b d every l) :: Rs) w') := by
 have hls : _ * 96 ≤ _ := hl.small
 have hKNs : _ * 8 ≤ _ := hKN.small
 refine zl (args := [Ix b 0, vl]) Tryz.func13 rfl rfl ?_
 obtain ⟨aK, U, V, j, s, X, t, bP⟩ := BaseO.open hS0
 have aa : Sep G W ((Blk b #[U, V, Iw every, j, Ix s 0, X, t] 81) :: (RowE (α := Typ) own 84 U d.types) :: (RowE (α := Prj) own 46 V d.projs) :: (RowE (α := Ev) own 64 j evs) :: (ViewO s d (zn d evs) (zn d evs)) :: (zW X (prs d evs)) :: (yE t (yq d every evs)) :: Rs) w := bP
 have bQ := aa.r1
 have hr9s : _ * 24 ≤ _ := bQ.2
 have bG := aa.r2
 have hr10s : _ * 40 ≤ _ := bG.2
 have aL := aa.r3
 have hr11s : _ * 96 ≤ _ := aL.2
 refine za (R0 fun _ => st (aS (Iv 0) (zb (za ?_))))
 obtain ⟨bF, bH, ab, bI, bJ⟩ := (aa.mv3).lend
 have A := RowE.rd bH
 have hrd19s : _ * 96 ≤ _ := A.small
 refine R0 fun _ => st (aS (Iv 0) (zb (za (zr (zZ (fun mq σ wq => ∃ (p : Nat) (ρ : Env), mq = l.length - p ∧ σ = yc ρ [(0, Ix b 0), (1, vl), (4, Iv 0), (5, Iw p)] ∧ (p ≤ l.length ∧ p ≤ evs.length) ∧ (∀ i, i < p → xM (l.getD i default) (evs.getD i default)) ∧ Sep bF w ((Blk b #[U, V, Iw every, j, Ix s 0, X, t] 81) :: (RowE (α := Typ) own 84 U d.types) :: (RowE (α := Prj) own 46 V d.projs) :: (ViewO s d (zn d evs) (zn d evs)) :: (zW X (prs d evs)) :: (yE t (yq d every evs)) :: Rs) wq) ⟨0, _, rfl, sSf, ⟨Nat.zero_le _, Nat.zero_le _⟩, (fun i h => absurd h (Nat.not_lt_zero i)), bI⟩ ?_)))))
 rintro m21 σ22 w20 ⟨p, ρl1, rfl, rfl, hpl, hsm, bK⟩
 refine za (za ?_)
 refine WD4 (WF [fun vals wq => Sep bF w ((Blk b #[U, V, Iw every, j, Ix s 0, X, t] 81) :: (RowE (α := Typ) own 84 U d.types) :: (RowE (α := Prj) own 46 V d.projs) :: (ViewO s d (zn d evs) (zn d evs)) :: (zW X (prs d evs)) :: (yE t (yq d every evs)) :: Rs) wq]) (AF [Vl 0 (Iw p), Vl 1 (vl), Vl 2 (Iw l.length), Vl 3 (Ix b 0), Vl 4 (Ix b 0), Vl 5 (Ix b 3), Vl 6 (j), Vl 7 (Iw evs.length), Vl 8 (Iv (min ((l.length : Nat) : Int) ((evs.length : Nat) : Int))), Vl 9 (.bool (decide (((p : Nat) : Int) < (min ((l.length : Nat) : Int) ((evs.length : Nat) : Int))))), Vl 10 (.bool (decide (((p : Nat) : Int) < (min ((l.length : Nat) : Int) ((evs.length : Nat) : Int))))), Vl 11 (if (decide (((p : Nat) : Int) < (min ((l.length : Nat) : Int) ((evs.length : Nat) : Int)))) = true then vl else undef), Vl 12 (if (decide (((p : Nat) : Int) < (min ((l.length : Nat) : Int) ((evs.length : Nat) : Int)))) = true then Iw p else undef), Vl 13 (if (decide (((p : Nat) : Int) < (min ((l.length : Nat) : Int) ((evs.length : Nat) : Int)))) = true then Ix (sb vl) (so vl + p * 10) else undef), Vl 14 (if (decide (((p : Nat) : Int) < (min ((l.length : Nat) : Int) ((evs.length : Nat) : Int)))) = true then Ix (sb vl) (so vl + p * 10) else undef), Vl 15 (if (decide (((p : Nat) : Int) < (min ((l.length : Nat) : Int) ((evs.length : Nat) : Int)))) = true then .agg #[Iv ((l.getD p default).origin), Iv ((l.getD p default).seq)] else undef), Vl 16 (if (decide (((p : Nat) : Int) < (min ((l.length : Nat) : Int) ((evs.length : Nat) : Int)))) = true then Ix b 0 else undef), Vl 17 (if (decide (((p : Nat) : Int) < (min ((l.length : Nat) : Int) ((evs.length : Nat) : Int)))) = true then Ix b 0 else undef), Vl 18 (if (decide (((p : Nat) : Int) < (min ((l.length : Nat) : Int) ((evs.length : Nat) : Int)))) = true then Ix b 3 else undef), Vl 19 (if (decide (((p : Nat) : Int) < (min ((l.length : Nat) : Int) ((evs.length : Nat) : Int)))) = true then j else undef), Vl 20 (if (decide (((p : Nat) : Int) < (min ((l.length : Nat) : Int) ((evs.length : Nat) : Int)))) = true then Iw p else undef), Vl 21 (if (decide (((p : Nat) : Int) < (min ((l.length : Nat) : Int) ((evs.length : Nat) : Int)))) = true then Ix (sb j) (so j + p * 10) else undef), Vl 22 (if (decide (((p : Nat) : Int) < (min ((l.length : Nat) : Int) ((evs.length : Nat) : Int)))) = true then Ix (sb j) (so j + p * 10) else undef), Vl 23 (if (decide (((p : Nat) : Int) < (min ((l.length : Nat) : Int) ((evs.length : Nat) : Int)))) = true then .agg #[Iv ((evs.getD p default).origin), Iv ((evs.getD p default).seq)] else undef), Vl 24 (if (decide (((p : Nat) : Int) < (min ((l.length : Nat) : Int) ((evs.length : Nat) : Int)))) = true then .bool (decide ((l.getD p default).origin = (evs.getD p default).origin ∧ (l.getD p default).seq = (evs.getD p default).seq)) else undef), Vl 25 (.bool ((decide (((p : Nat) : Int) < (min ((l.length : Nat) : Int) ((evs.length : Nat) : Int)))) && (decide ((l.getD p default).origin = (evs.getD p default).origin ∧ (l.getD p default).seq = (evs.getD p default).seq))))]) [[], [], [1], [], [3], [3, 4], [3, 4, 5], [3, 4, 5, 6], [1, 2, 3, 4, 5, 6, 7], (rg 9), (rg 10), (rg 11), (rg 11), (rg 13), (rg 14), (rg 15), (rg 11), [0, 1, 2, 3, 4, 5, 6, 7, 8, 9, 10, 16], [0, 1, 2, 3, 4, 5, 6, 7, 8, 9, 10, 16, 17], [0, 1, 2, 3, 4, 5, 6, 7, 8, 9, 10, 16, 17, 18], (rg 11), [0, 1, 2, 3, 4, 5, 6, 7, 8, 9, 10, 16, 17, 18, 19, 20], [0, 1, 2, 3, 4, 5, 6, 7, 8, 9, 10, 16, 17, 18, 19, 20, 21], [0, 1, 2, 3, 4, 5, 6, 7, 8, 9, 10, 16, 17, 18, 19, 20, 21, 22], (rg 24), (rg 25)] [] [(0, 0), (0, 0), (0, 0), (0, 0), (0, 0), (0, 0), (0, 0), (0, 0), (0, 0), (0, 0), (0, 0), (0, 0), (0, 0), (0, 0), (0, 0), (0, 0), (0, 0), (0, 0), (0, 0), (0, 0), (0, 0), (0, 0), (0, 0), (0, 0), (0, 0), (0, 0)] bK ⟨fun _ _ _ _ _ _ _ => obl rfl (mV (Iw p) dR), fun _ _ _ _ _ _ _ => obl rfl (mV vl dR), ob1 0 fun _ _ _ aZ => obl rfl (zB (n := l.length) kT (aZ 1 dc) (RdS.base hl ab).sl dR), fun _ _ _ _ _ _ _ => obl rfl (mV (Ix b 0) dR), fun _ _ _ _ _ _ ba => obl rfl (zm (b := b) (o := 0) (ba 3 dc) dR), fun _ _ _ _ _ _ bb => obl rfl (xR (bb 4 dc) dR), ob1 0 fun _ _ (bc : Sep _ _ _ _) bd => obl rfl (lD j nT (bd 5 dc) (zd (bc.b0) rfl) dR), ob1 0 fun _ _ _ be => obl rfl (zB (n := evs.length) kT (be 6 dc) A.sl dR), ob1 0 fun _ _ _ an => obl rfl (Qx (k := .i64) (a := ((l.length : Nat) : Int)) (b := ((evs.length : Nat) : Int)) (an 2 dc) (an 7 dc) dR), ob1 0 fun _ _ _ ao => obl rfl (zL (k := .i64) (a := ((p : Nat) : Int)) (b := min ((l.length : Nat) : Int) ((evs.length : Nat) : Int)) (ao 0 dc) (ao 8 dc) dR), fun _ _ _ _ _ _ bf => obl rfl (zt (v := .bool (decide (((p : Nat) : Int) < (min ((l.length : Nat) : Int) ((evs.length : Nat) : Int))))) (bf 9 dc) dR), ?_, ?_, ?_, ?_, ?_, ?_, ?_, ?_, ?_, ?_, ?_, ?_, ?_, ?_, fun _ _ _ _ _ _ ap => obl rfl (zD (b := decide (((p : Nat) : Int) < (min ((l.length : Nat) : Int) ((evs.length : Nat) : Int)))) (b' := decide ((l.getD p default).origin = (evs.getD p default).origin ∧ (l.getD p default).seq = (evs.getD p default).seq)) (ap 10 dc) (fun hbp => (Eq.trans (ap 24 dc) (if_pos hbp))) dR), trivial⟩ ?_
 refine fun _ _ _ _ _ _ bg => (zz rfl rfl (bg 10 dc) (fun M => ?_) (fun M => fun c f _ => ⟨trivial, f.trans (if_neg M).symm⟩))
 have hl357 := tD M
 exact mV vl (fun c f _ => ⟨rfl, f.trans (if_pos M).symm⟩)
 refine fun _ _ _ _ _ _ bh => (zz rfl rfl (bh 10 dc) (fun N => ?_) (fun N => fun c f _ => ⟨trivial, f.trans (if_neg N).symm⟩))
 have hl366 := tD N
 exact mV (Iw p) (fun c f _ => ⟨rfl, f.trans (if_pos N).symm⟩)
 refine ob1 0 fun _ _ _ ac => (zz rfl rfl (ac 10 dc) (fun u => ?_) (fun u => fun c f _ => ⟨trivial, f.trans (if_neg u).symm⟩))
 have hl378 := tD u
 have bi : p < l.length := bo
 exact ze (k := 10) (i := p) kT lT (Eq.trans (ac 11 dc) (if_pos u)) (RdS.base hl ab).sl (Eq.trans (ac 12 dc) (if_pos u)) bi (fun c f _ => ⟨rfl, f.trans (if_pos u).symm⟩)
 refine fun _ _ _ _ _ _ aq => (zz rfl rfl (aq 10 dc) (fun B => ?_) (fun B => fun c f _ => ⟨trivial, f.trans (if_neg B).symm⟩))
 have hl389 := tD B
 exact xe (Eq.trans (aq 13 dc) (if_pos B)) (fun c f _ => ⟨rfl, f.trans (if_pos B).symm⟩)
 refine ob1 0 fun _ _ (bj : Sep _ _ _ _) ar => (zz rfl rfl (ar 10 dc) (fun C => ?_) (fun C => fun c f _ => ⟨trivial, f.trans (if_neg C).symm⟩))
 have hl400 := tD C
 have au : p < l.length := bo
 obtain ⟨aM, al, hoke401⟩ := (RdS.base hl ab).evD au
 have hsm403 : ((l.getD p default).deps).length * 8 ≤ 140737488355328 := al.small
 have aN := bj.cells aM ((RdS.base hl ab).foot (ne_of_lt au))
 exact zg (k := 2) (cs := [Iv ((l.getD p default).origin), Iv ((l.getD p default).seq)]) kR lR rfl (Eq.trans (ar 14 dc) (if_pos C)) (CellsAt.sub aN 0 (cs2 := [Iv ((l.getD p default).origin), Iv ((l.getD p default).seq)]) rfl) (fun c f _ => ⟨rfl, f.trans (if_pos C).symm⟩)
 refine fun _ _ _ _ _ _ bk => (zz rfl rfl (bk 10 dc) (fun O => ?_) (fun O => fun c f _ => ⟨trivial, f.trans (if_neg O).symm⟩))
 have hl413 := tD O
 exact mV (Ix b 0) (fun c f _ => ⟨rfl, f.trans (if_pos O).symm⟩)
 refine fun _ _ _ _ _ _ av => (zz rfl rfl (av 10 dc) (fun D => ?_) (fun D => fun c f _ => ⟨trivial, f.trans (if_neg D).symm⟩))
 have hl423 := tD D
 exact zm (b := b) (o := 0) (Eq.trans (av 16 dc) (if_pos D)) (fun c f _ => ⟨rfl, f.trans (if_pos D).symm⟩)
 refine fun _ _ _ _ _ _ aw => (zz rfl rfl (aw 10 dc) (fun E => ?_) (fun E => fun c f _ => ⟨trivial, f.trans (if_neg E).symm⟩))
 have hl433 := tD E
 exact xR (Eq.trans (aw 17 dc) (if_pos E)) (fun c f _ => ⟨rfl, f.trans (if_pos E).symm⟩)
 refine ob1 0 fun _ _ (bl : Sep _ _ _ _) ax => (zz rfl rfl (ax 10 dc) (fun F => ?_) (fun F => fun c f _ => ⟨trivial, f.trans (if_neg F).symm⟩))
 have hl444 := tD F
 exact lD j nT (Eq.trans (ax 18 dc) (if_pos F)) (zd (bl.b0) rfl) (fun c f _ => ⟨rfl, f.trans (if_pos F).symm⟩)
 refine fun _ _ _ _ _ _ bm => (zz rfl rfl (bm 10 dc) (fun P => ?_) (fun P => fun c f _ => ⟨trivial, f.trans (if_neg P).symm⟩))
 have hl453 := tD P
 exact mV (Iw p) (fun c f _ => ⟨rfl, f.trans (if_pos P).symm⟩)
 refine ob1 0 fun _ _ _ ad => (zz rfl rfl (ad 10 dc) (fun x => ?_) (fun x => fun c f _ => ⟨trivial, f.trans (if_neg x).symm⟩))
 have hl465 := tD x
 have bn : p < evs.length := bo
 exact ze (k := 10) (i := p) kT lT (Eq.trans (ad 19 dc) (if_pos x)) A.sl (Eq.trans (ad 20 dc) (if_pos x)) bn (fun c f _ => ⟨rfl, f.trans (if_pos x).symm⟩)
 refine fun _ _ _ _ _ _ ay => (zz rfl rfl (ay 10 dc) (fun H => ?_) (fun H => fun c f _ => ⟨trivial, f.trans (if_neg H).symm⟩))
 have hl476 := tD H
 exact xe (Eq.trans (ay 21 dc) (if_pos H)) (fun c f _ => ⟨rfl, f.trans (if_pos H).symm⟩)
 refine ob1 0 fun _ _ (bp : Sep _ _ _ _) az => (zz rfl rfl (az 10 dc) (fun I => ?_) (fun I => fun c f _ => ⟨trivial, f.trans (if_neg I).symm⟩))
 have hl487 := tD I
 have aA : p < evs.length := bo
 obtain ⟨aO, am, hoke488⟩ := A.evD aA
 have hsm490 : ((evs.getD p default).deps).length * 8 ≤ 140737488355328 := am.small
 have aP := bp.cells aO (A.foot (ne_of_lt aA))
 exact zg (k := 2) (cs := [Iv ((evs.getD p default).origin), Iv ((evs.getD p default).seq)]) kR lR rfl (Eq.trans (az 22 dc) (if_pos I)) (CellsAt.sub aP 0 (cs2 := [Iv ((evs.getD p default).origin), Iv ((evs.getD p default).seq)]) rfl) (fun c f _ => ⟨rfl, f.trans (if_pos I).symm⟩)
 refine ob1 0 fun _ _ _ ae => (zz rfl rfl (ae 10 dc) (fun y => ?_) (fun y => fun c f _ => ⟨trivial, f.trans (if_neg y).symm⟩))
 have hl503 := tD y
 exact Zc (e := decide ((l.getD p default).origin = (evs.getD p default).origin ∧ (l.getD p default).seq = (evs.getD p default).seq)) (xs := #[Iv ((l.getD p default).origin), Iv ((l.getD p default).seq)]) (ys := #[Iv ((evs.getD p default).origin), Iv ((evs.getD p default).seq)]) Kf (Eq.trans (ae 15 dc) (if_pos y)) (Eq.trans (ae 23 dc) (if_pos y)) (fun c f _ => ⟨rfl, f.trans (if_pos y).symm⟩)
 intro vals aQ bq br
 have aB : Sep _ _ _ _ := bq
 have bL := br 25 dc
 refine zX (kv := [(0, Ix b 0), (1, vl), (4, Iv 0), (5, Iw p), (34, .bool ((decide (((p : Nat) : Int) < (min ((l.length : Nat) : Int) ((evs.length : Nat) : Int)))) && (decide ((l.getD p default).origin = (evs.getD p default).origin ∧ (l.getD p default).seq = (evs.getD p default).seq))))]) ⟨rfl, rfl, rfl, rfl, (by exact bL), trivial⟩ (fun ρw512 => (zb ?_))
 cases Q : (decide (((p : Nat) : Int) < (min ((l.length : Nat) : Int) ((evs.length : Nat) : Int)))) && (decide ((l.getD p default).origin = (evs.getD p default).origin ∧ (l.getD p default).seq = (evs.getD p default).seq))
 have S := Q
 try simp only [zi] at Q
 have aR : xN l evs = p := Vp hpl.1 hpl.2 hsm (fun h1 h2 h3 => by
  have T := S
  have h8 : decide ((p : Int) < min ((l.length : Nat) : Int) ((evs.length : Nat) : Int)) = true := by rw [decide_eq_true_eq]; omega
  rw [Bool.and_eq_false_iff] at T
  rcases T with T | T
  · rw [h8] at T; cases T
  · have h7 := fD T; exact h7 h3)
 refine zf rfl (ya (zS (za (za ?_))))
 have af := bJ _ _ aB
 refine R0 fun _ => st (mV (Iw p) (st (mV (Ix b 0) (st (zm (b := b) (o := 0) rfl (st (xR rfl (st (lD j nT rfl (zd (af.b1) rfl) (st (zB (n := evs.length) kT rfl aL.1 (st (zL (k := .i64) (a := ((p : Nat) : Int)) (b := ((evs.length : Nat) : Int)) rfl rfl (zb (WK (fun σ wq => ∃ (g : Nat) (ρ : Env), σ = yc ρ [(0, Ix b 0), (1, vl), (4, Iv 0)] ∧ (g = yd every l evs ∧ g ≤ l.length) ∧ Sep G W ((BaseO b d every (l.take g)) :: Rs) wq) ?_ ?_)))))))))))))))
 cases R : decide (((p : Nat) : Int) < ((evs.length : Nat) : Int))
 have R := fD R
 refine zf rfl (zp ?_)
 have ag : Sep G W ((BaseO b d every evs) :: Rs) aQ := BaseO.close (d := d) (every := every) (evs := evs) aK (af.s7_bcdaefg)
 have aT : evs = l.take p := by rw [← XT (q := p) hone hpl hsm (Nat.le_refl _)]; exact (List.take_of_length_le (by omega)).symm
 try simp +zetaDelta only at ag
 rw [aT] at ag
 exact ⟨rfl, p, _, yH ⟨(show _ = (Ix b 0 : Value) from rfl), (show _ = (vl : Value) from rfl), (show _ = (Iv 0 : Value) from rfl), trivial⟩, ⟨(KK aR om).symm, by omega⟩, ag⟩
 have R := tD R
 refine zh rfl ?_
 have bs : Sep G W ((BaseO b d every evs) :: Rs) aQ := BaseO.close (d := d) (every := every) (evs := evs) aK (af.s7_bcdaefg)
 have bM : p / every * every ≤ p := Nat.div_mul_le_self ..
 refine R0 fun _ => st (mV (Ix b 0) (st (mV (Iw p) ?_)))
 refine st (cL Tryz.call41 (zaY (n := p) yqi hKN bs (hd) (om)) ?_)
 rintro _ w524 ⟨rfl, ah⟩
 refine zb ?_
 have aT := XT (q := p / every * every) hone hpl hsm bM
 try simp +zetaDelta only at ah
 rw [aT] at ah
 exact ⟨rfl, p / every * every, _, yH ⟨(show _ = (Ix b 0 : Value) from rfl), (show _ = (vl : Value) from rfl), (show _ = (Iv 0 : Value) from rfl), trivial⟩, ⟨(Qn aR om).symm, by omega⟩, ah⟩
 rintro _ aU ⟨g, ρj1, rfl, bR, bt⟩
 refine za ?_
 have aV : (l.take g).length = g := by rw [List.length_take]; omega
 obtain ⟨aW, aC, aD, ai, Y, aE, Z, bu⟩ := BaseO.open bt
 have m : Sep G W ((Blk b #[aC, aD, Iw every, ai, Ix Y 0, aE, Z] 81) :: (RowE (α := Typ) own 84 aC d.types) :: (RowE (α := Prj) own 46 aD d.projs) :: (RowE (α := Ev) own 64 ai (l.take g)) :: (ViewO Y d (zn d (l.take g)) (zn d (l.take g))) :: (zW aE (prs d (l.take g))) :: (yE Z (yq d every (l.take g))) :: Rs) aU := bu
 have bv := m.r1
 have hr536s : _ * 24 ≤ _ := bv.2
 have bw := m.r2
 have hr537s : _ * 40 ≤ _ := bw.2
 have aF := m.r3
 have hr538s : _ * 96 ≤ _ := aF.2
 refine R0 fun _ => st (mV vl (st (mV (Ix b 0) (st (zm (b := b) (o := 0) rfl (st (xR rfl (st (lD ai nT rfl (zd (m.b0) rfl) (st (zB (n := (l.take g).length) kT rfl aF.1 ?_)))))))))))
 refine st (VZ (i := (l.take g).length) (k := 10) (n := l.length) kT lT rfl hl.sl rfl bo (st (aS (xk 10 vl ((l.take g).length) l.length) (zb (za (za ?_))))))
 have bx : Sep G W ((BaseO b d every (l.take g)) :: Rs) aU := BaseO.close (d := d) (every := every) (evs := (l.take g)) aW m
 have bN : (l.drop ((l.take g).length)).length = l.length - g := by rw [List.length_drop, aV]
 refine R0 fun _ => st (mV (xk 10 vl ((l.take g).length) l.length) ?_)
 have L := RdS.sub_lo (i := (l.take g).length) hl (by first | omega | (simp only [List.length_drop, List.length_take]; omega))
 have h540s : _ * 96 ≤ _ := L.small
 refine st (zB (n := (l.drop ((l.take g).length)).length) kT rfl L.sl (st (mV (Iv 0) (zb (zr (zZ (fun mq σ wq => ∃ (k : Nat) (ρ : Env), mq = (l.drop ((l.take g).length)).length - k ∧ σ = yc ρ [(0, Ix b 0), (6, (xk 10 vl ((l.take g).length) l.length)), (54, (xk 10 vl ((l.take g).length) l.length)), (55, Iw ((l.drop ((l.take g).length)).length)), (56, Iw k)] ∧ (k ≤ (l.drop ((l.take g).length)).length) ∧ Sep G W ((BaseO b d every (l.take (g + k))) :: Rs) wq) ⟨0, _, rfl, sSf, Nat.zero_le _, bx⟩ ?_))))))
 rintro m542 σ543 w541 ⟨k, ρl2, rfl, rfl, hkk, J⟩
 refine za (R0 fun _ => st (zL (k := .i64) (a := ((k : Nat) : Int)) (b := (((l.drop ((l.take g).length)).length : Nat) : Int)) rfl rfl (zb (za ?_))))
 cases K : decide (((k : Nat) : Int) < (((l.drop ((l.take g).length)).length : Nat) : Int))
 have hc545r := K
 have K := fD K
 refine zf rfl (ya (zS (za (R0 fun _ => st (mV (xk 10 vl ((l.take g).length) l.length) (st (zB (n := (l.drop ((l.take g).length)).length) kT rfl L.sl (st (aS (Iw ((l.drop ((l.take g).length)).length)) (zb (zo (zR Tryz.results13 (show _ = (Iw ((l.drop ((l.take g).length)).length) : Value) from rfl) ?_))))))))))))
 have bO : l.take (g + k) = l := List.take_of_length_le om
 try simp +zetaDelta only at J
 rw [bO] at J
 refine ⟨?_, J⟩
 rw [bN, bR.1]
 have K := tD K
 refine zh rfl (zp (za (zr (za (R0 fun _ => ?_)))))
 have bz : k < (l.drop ((l.take g).length)).length := bo
 refine st (ze (k := 10) (i := k) kT lT rfl L.sl rfl bz ?_)
 have aG : k < (l.drop ((l.take g).length)).length := bo
 obtain ⟨aX, z, aJ⟩ := L.evD aG
 have hsm549 : (((l.drop ((l.take g).length)).getD k default).deps).length * 8 ≤ 140737488355328 := z.small
 have aY := J.cells aX (L.foot (ne_of_lt aG))
 refine st (zg (k := 10) qT lT rfl rfl aY (st (zH rR ?_)))
 intro w553 b552 bA
 have aH := J.new bA
 refine stn (zF (v := .agg (((l.drop ((l.take g).length)).getD k default).cells (zG W (sb (xk 10 vl ((l.take g).length) l.length)) (so (xk 10 vl ((l.take g).length) l.length) + k * 10 + 3))).toArray) (c' := (((l.drop ((l.take g).length)).getD k default).cells (zG W (sb (xk 10 vl ((l.take g).length) l.length)) (so (xk 10 vl ((l.take g).length) l.length) + k * 10 + 3))).toArray) lT rfl rfl (aH.b0) (yg ⟨rfl, rfl, rfl, z.sl.one, rfl, rfl, rfl, rfl, rfl, rfl, trivial⟩) yqc rfl ?_)
 intro w555 bB
 have aI := aH.pt0 bB
 refine zb (zu (by kernel_rfl) (fun _ => (st (mV (Ix b 0) (st (zg (k := 10) qT lT rfl rfl (CellsAt.all (aI.b0)) (st (cL Tryz.call42 (zaB (e := ((l.drop ((l.take g).length)).getD k default)) z aJ hKN (aI.mv1) (hd) (hp) ((by rw [List.length_take]; omega))) ?_))))))))
 rintro _ w559 ⟨rfl, bC⟩
 refine zb (R0 fun _ => ?_)
 have bD : InR ((k + 1 : Nat) : Int) := bo
 refine st (zQ (r := ((k + 1 : Nat) : Int)) (k := .i64) (a := ((k : Nat) : Int)) (b := 1) rfl rfl (by rw [show (((k : Nat) : Int) + 1 : Int) = ((k + 1 : Nat) : Int) from bo]; exact zC bD) (st (mV (Iw (k + 1)) (zb ?_))))
 have aj := bC.s2_a
 have bS : l.take (g + (k + 1)) = ((l.take (g + k)) ++ [((l.drop ((l.take g).length)).getD k default)]) := XG aV om
 try simp +zetaDelta only at aj
 rw [← bS] at aj
 exact ⟨_, by omega, k + 1, _, rfl, sSf, by omega, aj⟩
 have S := Q
 try simp only [zi] at Q
 refine zh rfl (zp (zr (R0 fun _ => st (mV (Iw p) ?_))))
 have bE : InR ((p + 1 : Nat) : Int) := bo
 refine st (zQ (r := ((p + 1 : Nat) : Int)) (k := .i64) (a := ((p : Nat) : Int)) (b := 1) rfl rfl (by rw [show (((p : Nat) : Int) + 1 : Int) = ((p + 1 : Nat) : Int) from bo]; exact zC bE) (st (aS (Iw (p + 1)) (zb ?_))))
 exact ⟨_, by omega, p + 1, _, rfl, sSf, ⟨by omega, by omega⟩, (yP hsm (by have T := S; simp only [Bool.and_eq_true, decide_eq_true_eq] at T; exact T.2)), aB⟩

end Go.Proofs.YtojlbibionhdjaaGreatDoor
namespace Go.Proofs.YtojlbibionhdjaaGreatDoor
open Go.Proofs Go.Shelf

def VM : Go.Shelf.Ren := ⟨fun | 6 => 68 | 15 => 89 | 14 => 88 | 28 => 110 | 29 => 111 | 20 => 102 | 21 => 103 | 22 => 104 | 23 => 105 | 24 => 106 | 25 => 107 | 26 => 108 | 27 => 109 | 46 => 121 | 47 => 122 | 48 => 123 | 49 => 124 | 50 => 125 | 57 => 140 | n => n, fun | 22 => 41 | 24 => 44 | 25 => 128 | 3 => 3 | 39 => 110 | 0 => 0 | 53 => 170 | 55 => 172 | 4 => 4 | 46 => 164 | 45 => 163 | 50 => 146 | 5 => 5 | 9 => 9 | 66 => 186 | 70 => 190 | 76 => 197 | 77 => 198 | n => n, fun | n => n⟩
theorem Je : Go.Proofs.SlLaysF0.n6 Tryz.prog VM := {
  mixed := by kernel_rfl,
  f6 := ⟨Tryz.f68.name, by decide, Tryz.func68.trans (congrArg some (by kernel_rfl))⟩,
  f14 := ⟨Tryz.f88.name, by decide, Tryz.func88.trans (congrArg some (by kernel_rfl))⟩,
  f15 := Tryz.func89.trans (congrArg some (by kernel_rfl)),
  f20 := ⟨Tryz.f102.name, by decide, Tryz.func102.trans (congrArg some (by kernel_rfl))⟩,
  f21 := ⟨Tryz.f103.name, by decide, Tryz.func103.trans (congrArg some (by kernel_rfl))⟩,
  f22 := ⟨Tryz.f104.name, by decide, Tryz.func104.trans (congrArg some (by kernel_rfl))⟩,
  f23 := ⟨Tryz.f105.name, by decide, Tryz.func105.trans (congrArg some (by kernel_rfl))⟩,
  f24 := ⟨Tryz.f106.name, by decide, Tryz.func106.trans (congrArg some (by kernel_rfl))⟩,
  f25 := ⟨Tryz.f107.name, by decide, Tryz.func107.trans (congrArg some (by kernel_rfl))⟩,
  f26 := ⟨Tryz.f108.name, by decide, Tryz.func108.trans (congrArg some (by kernel_rfl))⟩,
  f27 := ⟨Tryz.f109.name, by decide, Tryz.func109.trans (congrArg some (by kernel_rfl))⟩,
  f28 := Tryz.func110.trans (congrArg some (by kernel_rfl)),
  f29 := Tryz.func111.trans (congrArg some (by kernel_rfl)),
  f46 := ⟨Tryz.f121.name, by decide, Tryz.func121.trans (congrArg some (by kernel_rfl))⟩,
  f47 := Tryz.func122.trans (congrArg some (by kernel_rfl)),
  f48 := Tryz.func123.trans (congrArg some (by kernel_rfl)),
  f49 := ⟨Tryz.f124.name, by decide, Tryz.func124.trans (congrArg some (by kernel_rfl))⟩,
  f50 := ⟨Tryz.f125.name, by decide, Tryz.func125.trans (congrArg some (by kernel_rfl))⟩,
  f57 := ⟨Tryz.f140.name, by decide, Tryz.func140.trans (congrArg some (by kernel_rfl))⟩,
  t0 := Tryz.underlying0,
  a0 := Tryz.isAgg0,
  z0 := Tryz.sizeOf0,
  v0 := Tryz.zeroValue0,
  t3 := Tryz.underlying3,
  a3 := mT,
  z3 := Tryz.sizeOf3,
  v3 := Tryz.zeroValue3,
  t4 := Tryz.underlying4,
  a4 := Tryz.isAgg4,
  z4 := Tryz.sizeOf4,
  v4 := Tryz.zeroValue4,
  t5 := Tryz.underlying5,
  a5 := Tryz.isAgg5,
  z5 := Tryz.sizeOf5,
  v5 := Tryz.zeroValue5,
  t9 := Tryz.underlying9,
  a9 := Tryz.isAgg9,
  z9 := Tryz.sizeOf9,
  v9 := Tryz.zeroValue9,
  t22 := wY,
  a22 := Tryz.isAgg41,
  z22 := Tryz.sizeOf41,
  v22 := Tryz.zeroValue41,
  t25 := Tryz.underlying128,
  a25 := Tryz.isAgg128,
  z25 := Tryz.sizeOf128,
  v25 := Tryz.zeroValue128,
  t39 := Tryz.underlying110,
  a39 := Tryz.isAgg110,
  z39 := Tryz.sizeOf110,
  v39 := Tryz.zeroValue110,
  t45 := Tryz.underlying163,
  a45 := Tryz.isAgg163,
  z45 := Tryz.sizeOf163,
  v45 := Tryz.zeroValue163,
  t46 := Tryz.underlying164,
  a46 := Tryz.isAgg164,
  z46 := Tryz.sizeOf164,
  v46 := Tryz.zeroValue164,
  t50 := Tryz.underlying146,
  a50 := Tryz.isAgg146,
  z50 := Tryz.sizeOf146,
  v50 := Tryz.zeroValue146,
  t53 := Tryz.underlying170,
  a53 := Tryz.isAgg170,
  z53 := Tryz.sizeOf170,
  v53 := Tryz.zeroValue170,
  t55 := Tryz.underlying172,
  a55 := Tryz.isAgg172,
  z55 := Tryz.sizeOf172,
  v55 := Tryz.zeroValue172,
  t66 := Tryz.underlying186,
  a66 := Tryz.isAgg186,
  z66 := Tryz.sizeOf186,
  v66 := Tryz.zeroValue186,
  t70 := Tryz.underlying190,
  a70 := Tryz.isAgg190,
  z70 := Tryz.sizeOf190,
  v70 := Tryz.zeroValue190,
  t76 := Tryz.underlying197,
  a76 := Tryz.isAgg197,
  z76 := Tryz.sizeOf197,
  v76 := Tryz.zeroValue197,
  t77 := Tryz.underlying198,
  a77 := Tryz.isAgg198,
  z77 := Tryz.sizeOf198,
  v77 := Tryz.zeroValue198
}
end Go.Proofs.YtojlbibionhdjaaGreatDoor
namespace Go.Proofs.YtojlbibionhdjaaGreatDoor
open Go.Proofs Go.RowKit Go.Sort Go.Shelf

theorem Kl {w w' : World} (h : Ext w w') : ∃ q os, w' = grow (w.drewN q) os := by
  obtain ⟨hs, ht, hd, ho, hp⟩ := w
  obtain ⟨hs', ht', hd', ho', hp'⟩ := w'
  refine ⟨hd' - hd, (hs'.toList.drop hs.size).toArray, ?_⟩
  have e1 : ho' = ho := h.os
  have e2 : ht' = ht := h.tape
  have e3 : hp' = hp := h.output
  have e4 : hd ≤ hd' := h.drawn
  have e5 : hs.size ≤ hs'.size := h.size
  have e6 : ∀ b, b < hs.size → hs'[b]? = hs[b]? := fun b hb => h.block b hb (fun h => h)
  have eh : hs' = hs ++ (hs'.toList.drop hs.size).toArray := by
    apply Array.ext_getElem?
    intro i
    rw [Array.getElem?_append]
    split
    · rename_i hi; exact e6 i hi
    · rename_i hi
      simp only [List.getElem?_toArray, List.getElem?_drop, Array.getElem?_toList]
      rw [show hs.size + (i - hs.size) = i by omega]
  have ed : hd' = hd + (hd' - hd) := by omega
  subst e1 e2 e3
  simp only [grow, World.drewN]
  rw [← eh, ← ed]

theorem Ku {P : Program} {α : Type} [Inhabited α] {g k : Nat} {cap : List Value} {enc : α → List Value} {cf : α → α → Int} {blk off size : Nat} {w : World}
    (h : ∀ W (x y : α), (∃ d : Array α, d.size = size ∧ ∃ m os, W = sortWorldK enc k w blk off m d os) → Ret P g ([.agg (enc x).toArray, .agg (enc y).toArray] ++ cap) W (fun r W' => r = .int .i64 (cf x y) ∧ Ext W W')) : CmpLays P g cap.toArray enc k cf blk off size w := by
  intro m os dk hs x y
  have := h _ x y ⟨dk, hs, m, os, rfl⟩
  unfold Ret at this
  have e : ([Value.agg (enc x).toArray, Value.agg (enc y).toArray] ++ cap).toArray = #[.agg (enc x).toArray, .agg (enc y).toArray] ++ cap.toArray := by simp
  rw [e] at this
  refine Calls.mono this ?_
  rintro e w' ⟨v, rfl, rfl, hx⟩
  exact ⟨rfl, Kl hx⟩

theorem YF {w : World} {b : Nat} {f : Array Value → Array Value} {c : Array Value} {T : TypeId} {fz : Nat × Nat} (h : w.heap[b]? = some (.cells c T fz)) : (mapBlock w b f).heap[b]? = some (.cells (f c) T fz) := by
  unfold mapBlock
  simp [Array.getElem?_modify, h, onCells]
theorem Zy {w : World} {b i : Nat} {f : Array Value → Array Value} (h : i ≠ b) : (mapBlock w b f).heap[i]? = w.heap[i]? := by
  unfold mapBlock
  simp [Array.getElem?_modify, Ne.symm h]
theorem xU {w : World} {b : Nat} {f : Array Value → Array Value} : (mapBlock w b f).heap.size = w.heap.size := by
  unfold mapBlock; simp

theorem Xg {α : Type} [Inhabited α] {enc : α → List Value} {k blk off m : Nat} {w : World} {d : Array α} {os : Array Obj} (hb : blk < w.heap.size) : Chg (fun i => i = blk) w (sortWorldK enc k w blk off m d os) := by
  unfold sortWorldK putRowK putRow
  have hs : w.heap.size ≤ (grow (mapBlock (Sort.ahead w m) blk (putCells id off (flatK enc k d))) os).heap.size := by
    show _ ≤ (_ ++ os).size
    rw [Array.size_append, xU]
    exact Nat.le_add_right _ _
  have hg : ∀ i, i < w.heap.size → (grow (mapBlock (Sort.ahead w m) blk (putCells id off (flatK enc k d))) os).heap[i]? = (mapBlock (Sort.ahead w m) blk (putCells id off (flatK enc k d))).heap[i]? := by
    intro i hi
    show (_ ++ os)[i]? = _
    rw [Array.getElem?_append, if_pos (by rw [xU]; exact hi)]
  refine ⟨rfl, rfl, rfl, hs, fun i hi hne => ?_, ?_, Nat.le_add_right _ _⟩
  · rw [hg i hi, Zy hne]; rfl
  · rintro i ⟨c, T, hc⟩
    have hi := (Array.getElem?_eq_some_iff.1 hc).1
    by_cases h : i = blk
    · subst h
      exact ⟨_, T, by rw [hg i hi]; exact YF (w := Sort.ahead w m) hc⟩
    · exact ⟨c, T, by rw [hg i hi, Zy h]; exact hc⟩
theorem Wy {α : Type} [Inhabited α] {enc : α → List Value} {k blk off m : Nat} {w : World} {d : Array α} {os : Array Obj} {c : Array Value} {T : TypeId} (hb : w.heap[blk]? = some (.cells c T)) :
    (sortWorldK enc k w blk off m d os).heap[blk]? = some (.cells (putCells id off (flatK enc k d) c) T) := by
  unfold sortWorldK putRowK putRow
  have hi := (Array.getElem?_eq_some_iff.1 hb).1
  show (_ ++ os)[blk]? = _
  rw [Array.getElem?_append, if_pos (by rw [xU]; exact hi)]
  exact YF (w := Sort.ahead w m) hb

theorem US {α : Type} [Rep α] {w : World} {F : Nat → Prop} {enc : α → List Value} : ∀ {L : List α}, (∀ x ∈ L, Rep.rd w F (enc x) x) → Els w F (L.map enc) L
  | [], _ => trivial
  | x :: L, h => ⟨h x (List.mem_cons_self ..), US fun y hy => h y (List.mem_cons_of_mem _ hy)⟩
theorem Uc {α : Type} [Rep α] [Inhabited α] {P : Program} {ρ : Ren} (L : SlLaysF0.n6 P ρ) (aE : ∀ w, (isAgg (ρ.t 24)).run P w = .ok true w) (zE : ∀ w, (sizeOf (ρ.t 24)).run P w = .ok (Rep.k α) w)
    {enc : α → List Value} (henc : ∀ w F cs (x : α), Rep.rd w F cs x → cs = enc x) (hlen : ∀ x, (enc x).length = Rep.k α) (hone : ∀ x, ∀ u ∈ enc x, u.oneCell' = true) {cf : α → α → Int} (hO : SWO (ltOf cf)) {g : Nat} {cap : List Value} (eg : ∀ args w, (callFunc g args).run P w = .ok (.enter g args) w)
    {T : TypeId} {lo : Nat} {w : World} {F : Nat → Prop} {v : Value} {l : List α} (ho : OwnS T lo w F v l)
    (hcmp : ∀ W (x y : α), Ret P g ([.agg (enc x).toArray, .agg (enc y).toArray] ++ cap) W (fun r W' => r = .int .i64 (cf x y) ∧ Ext W W'))
    (hre : ∀ w' (x : α) (F : Nat → Prop) cs, Rep.rd w F cs x → Rep.rd w' F cs x) (hbs : l.length < 4611686018427387904) :
    Ret P (ρ.f 6) ([v, .func (.func g) #[] cap.toArray]) w (fun r w' => r = .tuple #[] ∧ Chg (fun b => v.ownBlock = some b) w w' ∧ ∃ l', l'.Perm l ∧ l'.Pairwise (fun a b => ltOf cf b a = false) ∧ OwnS T lo w' F v l') := by
  by_cases hne : l = []
  · subst hne
    obtain ⟨a0, c0, rfl, _, _⟩ := ho.isSl
    have hc := AnyF.slices_SortFunc_none L a0 c0 (.func (.func g) #[] cap.toArray) w
    unfold Ret
    refine Calls.mono hc ?_
    rintro e w' ⟨he, rfl⟩
    exact ⟨.tuple #[], he, rfl, Chg.refl _ _, [], List.Perm.refl _, List.Pairwise.nil, ho⟩
  obtain ⟨css, hE, hown⟩ := ho.css
  rcases hown.2 with ⟨rfl, h0⟩ | ⟨gb, capn, cur, rfl, hg, hb, hn, hm, hs, ht⟩
  · exact absurd (List.length_eq_zero_iff.1 h0) hne
  have hblk := (Array.getElem?_eq_some_iff.1 hb).1
  have hcs : ∀ i (h : i < l.length), CellsAt w gb (i * Rep.k α) (enc l[i]) ∧ Rep.rd w F (enc l[i]) l[i] := by
    intro i hi
    obtain ⟨cs, hr, hc⟩ := hE.at_ i hi
    have e := henc w F cs _ hr
    subst e
    refine ⟨fun j hj => ?_, hr⟩
    have h3 := hc j hj
    rw [← ht, List.getElem?_take] at h3
    split at h3
    · exact xr hb (by simpa using h3)
    · cases h3
  have kpos : 0 < Rep.k α := Rep.kpos
  have hH : HoldsK enc (Rep.k α) w gb 0 l.toArray := by
    intro j hj
    have hj' : j < l.length * Rep.k α := by simpa using hj
    have hd : j / Rep.k α < l.length := (Nat.div_lt_iff_lt_mul kpos).2 hj'
    have hm' : j % Rep.k α < (enc l[j / Rep.k α]).length := by rw [hlen]; exact Nat.mod_lt _ kpos
    have h1 := (hcs (j / Rep.k α) hd).1 (j % Rep.k α) hm'
    refine ⟨?_, by simp [World.frozen?, hb]⟩
    rw [get_flatK _ _ _ _ (by simpa using hj'), Nat.zero_add]
    rw [show j / Rep.k α * Rep.k α + j % Rep.k α = j by rw [Nat.mul_comm]; exact Nat.div_add_mod j (Rep.k α)] at h1
    rw [h1]
    have e1 : l.toArray[j / Rep.k α]! = l[j / Rep.k α] := by rw [getElem!_pos l.toArray (j / Rep.k α) (by simpa using hd)]; simp
    have e2 : (enc l[j / Rep.k α])[j % Rep.k α]! = (enc l[j / Rep.k α])[j % Rep.k α] := getElem!_pos (enc l[j / Rep.k α]) (j % Rep.k α) hm'
    rw [e1, e2]; rfl
  have hc := AnyQ.slices_SortFunc L (Rep.k α) aE zE enc hlen hone cf hO g cap.toArray gb 0 capn l.toArray w eg (Ku fun W x y _ => hcmp W x y) hH hblk (by simpa using hbs)
  have ea : ([Value.slice (some ⟨gb, 0, none⟩) l.length capn, .func (.func g) #[] cap.toArray]).toArray = #[Value.slice (some ⟨gb, 0, none⟩) l.toArray.size capn, .func (.func g) #[] cap.toArray] := by simp
  unfold Ret
  rw [ea]
  refine Calls.mono hc ?_
  rintro e w' ⟨he, d', n, os, hp, hsd, hw⟩
  refine ⟨.tuple #[], he, rfl, ?_, d'.toList, ?_, ?_, ?_⟩
  · have hgo : (fun b => (Value.slice (some ⟨gb, 0, none⟩) l.length capn).ownBlock = some b) = fun b => b = gb := by funext b; simp [Value.ownBlock, eq_comm]
    rw [hgo, hw]; exact Xg hblk
  · have h2 := hp.2.2
    have hsz : d'.size = l.length := by simpa using hp.1
    simp at h2
    rwa [List.take_of_length_le (by simp [hsz])] at h2
  · rw [List.pairwise_iff_getElem]
    intro i j hi hj hij
    have hsz : d'.size = l.length := by simpa using hp.1
    have hi' : i < d'.size := by simpa using hi
    have hj' : j < d'.size := by simpa using hj
    have := hsd i j (Nat.zero_le _) hij (by simpa [hsz] using hj')
    rw [getElem!_pos d' j hj', getElem!_pos d' i hi'] at this
    simpa using this
  · have hsz : d'.size = l.length := by simpa using hp.1
    have hperm : d'.toList.Perm l := by
      have h2 := hp.2.2
      simp at h2
      rwa [List.take_of_length_le (by simp [hsz])] at h2
    have hrd : ∀ x ∈ d'.toList, Rep.rd w' F (enc x) x := by
      intro x hx
      obtain ⟨i, hi, rfl⟩ := List.getElem_of_mem (hperm.subset hx)
      exact hre w' _ F _ (hcs i hi).2
    have hE' : Els w' F (d'.toList.map enc) d'.toList := US hrd
    have hfl := hE'.flat
    have hlen' : d'.toList.length = l.length := by simpa using hsz
    have hcur : (putCells id 0 (flatK enc (Rep.k α) d') cur).size = cur.size := by simp [putCells]
    have hchg : Chg (fun i => i = gb) w w' := by rw [hw]; exact Xg hblk
    have hle : l.length * Rep.k α ≤ cur.size := by rw [hs]; exact Nat.mul_le_mul_right _ hn
    refine ⟨⟨_, hE', by rw [hfl], .inr ⟨gb, capn, _, by rw [hlen'], hg, by rw [hw]; exact Wy hb, by rw [hlen']; exact hn, hm, by rw [hcur]; exact hs, ?_⟩⟩, ho.apart, fun b hb' => ⟨Nat.lt_of_lt_of_le (ho.bound b hb').1 hchg.size, fun hl => hchg.soft b ((ho.bound b hb').2 hl)⟩, by rw [hlen']; exact ho.small⟩
    refine List.ext_getElem? fun j => ?_
    rw [hlen', List.getElem?_take]
    split
    · rename_i hj
      have hd : j / Rep.k α < d'.toList.length := by rw [hlen']; exact (Nat.div_lt_iff_lt_mul kpos).2 hj
      obtain ⟨cs, hr, hc⟩ := hE'.at_ (j / Rep.k α) hd
      have e := henc w' F cs _ hr
      subst e
      have hm' : j % Rep.k α < (enc (d'.toList[j / Rep.k α])).length := by rw [hlen]; exact Nat.mod_lt _ kpos
      have h1 := hc (j % Rep.k α) hm'
      rw [show j / Rep.k α * Rep.k α + j % Rep.k α = j by rw [Nat.mul_comm]; exact Nat.div_add_mod j (Rep.k α)] at h1
      rw [h1]
      have hjc : j < cur.size := by omega
      have hjk : j < d'.size * Rep.k α := by rw [hsz]; exact hj
      have hd2 : j / Rep.k α < d'.size := by simpa using hd
      rw [Array.getElem?_toList, Array.getElem?_eq_getElem (by rw [hcur]; exact hjc)]
      simp only [putCells, Array.getElem_mapIdx, Nat.zero_le, true_and, Nat.zero_add, size_flatK, hjk, if_true, Nat.sub_zero, id]
      have e1 : d'[j / Rep.k α]! = d'[j / Rep.k α] := getElem!_pos d' (j / Rep.k α) hd2
      have e0 : d'.toList[j / Rep.k α] = d'[j / Rep.k α] := by simp
      rw [e0] at hm'
      have e2 : (enc d'[j / Rep.k α])[j % Rep.k α]! = (enc d'[j / Rep.k α])[j % Rep.k α] := getElem!_pos (enc d'[j / Rep.k α]) (j % Rep.k α) hm'
      rw [get_flatK _ _ _ _ hjk, e1, e2]
      simp
    · rename_i hj
      rw [List.getElem?_eq_none (by rw [hfl, hlen']; omega)]
end Go.Proofs.YtojlbibionhdjaaGreatDoor
set_option maxRecDepth 8000
set_option maxHeartbeats 4000000
namespace Go.Proofs.YtojlbibionhdjaaGreatDoor
open Go.Proofs Go.RowKit

def ZY (a b : Row) : Int := if a.group < b.group then -1 else 1
theorem UE (a b : Row) : ltOf ZY a b = decide (a.group < b.group) := by
  unfold ltOf ZY
  by_cases h : a.group < b.group <;> simp [h]
theorem zaL : Go.Sort.SWO (ltOf ZY) where
  irrefl x := by rw [UE]; simp
  trans x y z h1 h2 := by rw [UE] at *; simp at *; omega
  ntrans x y z h1 h2 := by rw [UE] at *; simp at *; omega

theorem Ks {w : World} {x : Row} {y : Row} : Ret Tryz.prog 69 [.agg (x.cells).toArray, .agg (y.cells).toArray] w (fun r w' => r = .int .i64 (ZY x y) ∧ Ext w w') := by
  refine zl (args := [.agg (x.cells).toArray, .agg (y.cells).toArray]) Tryz.func69 rfl rfl ?_
  refine za ?_
  refine zu (by kernel_rfl) (fun _ => ?_)
  refine st (zT (v := .agg (x.cells).toArray) rfl (fun w1 b2 hn1 => ?_))
  have hb3 : w1.heap[b2]? = some (.cells (x.cells).toArray 44) := hn1.at_
  have hs4 := hn1.size; have hs4e := hn1.eq
  refine st (zT (v := .agg (y.cells).toArray) rfl (fun w2 b6 hn5 => ?_))
  have hb7 : w2.heap[b6]? = some (.cells (y.cells).toArray 44) := hn5.at_
  have hs8 := hn5.size; have hs8e := hn5.eq
  refine st (zv (v := .int .i64 (0)) rfl ?_)
  refine zb ?_
  refine za ?_
  refine za ?_
  refine zu (by kernel_rfl) (fun _ => ?_)
  refine st (Uy rfl ?_)
  have h9 := hn5.ext.keep hb3 (fun h => h)
  refine st (yf (v := .int .i64 (x.group)) mT rfl (zd h9 rfl) ?_)
  refine st (Uy rfl ?_)
  refine st (yf (v := .int .i64 (y.group)) mT rfl (zd hb7 rfl) ?_)
  refine st (zL (k := .i64) (a := x.group) (b := y.group) rfl rfl ?_)
  refine zb ?_
  cases hc10 : decide (x.group < y.group)
  · skip
    have hc10 := of_decide_eq_false hc10
    refine zf rfl ?_
    refine zp ?_
    refine za ?_
    refine zu (by kernel_rfl) (fun _ => ?_)
    refine st (zv (v := .int .i64 (1)) rfl ?_)
    refine zb ?_
    refine zo ?_
    refine zR kA (show _ = (.int .i64 (1) : Value) from rfl) ?_
    refine ⟨?_, (Chg.trans hn1.ext hn5.ext)⟩
    unfold ZY
    (repeat (first | rw [if_pos (by omega)] | rw [if_neg (by omega)]))
  · skip
    have hc10 := of_decide_eq_true hc10
    refine zh rfl ?_
    refine za ?_
    refine zu (by kernel_rfl) (fun _ => ?_)
    refine st (zv (v := .int .i64 (-1)) rfl ?_)
    refine zb ?_
    refine zo ?_
    refine zR kA (show _ = (.int .i64 (-1) : Value) from rfl) ?_
    refine ⟨?_, (Chg.trans hn1.ext hn5.ext)⟩
    unfold ZY
    (repeat (first | rw [if_pos (by omega)] | rw [if_neg (by omega)]))

theorem Jy (x : Row) : ∀ u ∈ x.cells, u.oneCell' = true := yg ⟨rfl, rfl, rfl, trivial⟩
theorem Ug {lo : Nat} {w : World} {v : Value} {l : List Row} (ho : OwnS 44 lo w (fun _ => False) v l) : Ret Tryz.prog 68 [v, .func (.func 69) #[] #[]] w (fun r w' => r = .tuple #[] ∧ Chg (fun b => v.ownBlock = some b) w w' ∧ ∃ l', List.Perm l' l ∧ l'.Pairwise (fun a b => ltOf ZY b a = false) ∧ OwnS 44 lo w' (fun _ => False) v l') := by
  have hs : _ * 24 ≤ _ := ho.small
  exact Uc (α := Row) Je lA mR (enc := fun q => q.cells) (fun _ _ _ _ h => h.1) (fun _ => rfl) Jy zaL (g := 69) (cap := []) Tryz.call69 ho (fun W x y => Ks) (fun _ _ _ _ h => h) (by omega)

theorem zaK {w : World} {a m : Nat} {p : Prj} (ha : w.heap[a]? = some (.cells #[.int .i64 (p.ptyp), .int .i64 (p.pfield), .int .i64 (p.pgroup), .int .i64 (p.pby), .int .i64 (p.pmake), .map (some m)] 122)) (op : p.Ok) {L : List (Int × Row)} (hm : MapR w (fun _ => False) m L) (ham : a ≠ m) (hgrp : ∀ q ∈ L, q.1 = q.2.group) (hLs : L.length ≤ 1000000) : Ret Tryz.prog 44 [.pointer (some ⟨a, 0, none⟩)] w (fun r w' => Ext w w' ∧ Fresh 44 w.heap.size w' r (XP (L.map (·.2)))) := by
  have hml := hm.lt
  have hal := xa ha
  refine zl (args := [.pointer (some ⟨a, 0, none⟩)]) Tryz.func44 rfl rfl ?_
  refine za ?_
  refine zu (by kernel_rfl) (fun _ => ?_)
  refine st (zv (v := (.slice none 0 0)) rfl ?_)
  refine zb ?_
  refine za ?_
  refine zu (by kernel_rfl) (fun _ => ?_)
  refine st (zv (v := (.slice none 0 0)) rfl ?_)
  refine zb ?_
  refine za ?_
  refine za ?_
  refine zu (by kernel_rfl) (fun _ => ?_)
  refine st (zt (v := .pointer (some ⟨a, 0, none⟩)) rfl ?_)
  refine st (zm (b := a) (o := 0) rfl ?_)
  refine st (Wv rfl ?_)
  refine st (yf (v := .map (some m)) Tryz.isAgg120 rfl (zd ha rfl) ?_)
  refine st (Ki (α := Row) Tryz.underlying120 rfl hm ?_)
  rintro w1 it1 hx2 he3 hl4 hit5
  have hx2s := hx2.size
  refine zb ?_
  refine zr ?_
  refine zZ (fun mq σ wq => ∃ (idx : List Nat) (vo : Value) (ρ : Env), mq = L.length - idx.length ∧ σ = yc ρ [(3, vo), (10, .pointer (some ⟨it1, 0, none⟩))] ∧ (Ext w wq) ∧ (IterR wq it1 m L (fun _ => False) idx) ∧ (OwnS 44 (it1 + 1) wq (fun _ => False) vo (pick L idx)) ∧ (it1 < wq.heap.size)) ⟨[], (.slice none 0 0), _, rfl, yH ⟨rfl, rfl, trivial⟩, hx2, hit5, OwnS.nil _ _ _ _ (fun _ h => h.elim), by omega⟩ ?_
  rintro m6 σ7 w2 ⟨idx, vo, ρ2, rfl, rfl, hxL, hitL, hoL, hszL⟩
  have hxLs := hxL.size
  have hpl : (pick L idx).length = idx.length := by simp [pick]
  refine za ?_
  refine zu (by kernel_rfl) (fun _ => ?_)
  refine st (Js rfl hitL (fun h => h) (by omega) ?_ ?_)
  · intro hperm8
    refine st (zw (vs := [.bool false]) (i := 0) (v := .bool false) rfl rfl ?_)
    refine zb ?_
    refine za ?_
    refine zf rfl ?_
    refine ya ?_
    refine zS ?_
    refine za ?_
    refine zu (by kernel_rfl) (fun _ => ?_)
    refine st (zt (v := vo) rfl ?_)
    refine st (zK (f := 68) (vals := [vo, .func (.func 69) #[] #[]]) (cap := []) rfl rfl Tryz.call68 (Ug hoL) ?_)
    rintro _ w3 ⟨rfl, hch15, l19, hp16, hs17, ho18⟩
    have hch15s := hch15.size
    refine zb ?_
    refine za ?_
    refine zu (by kernel_rfl) (fun _ => ?_)
    refine st (zt (v := vo) rfl ?_)
    refine st (zv (v := vo) rfl ?_)
    refine zb ?_
    refine zo ?_
    refine zR Tryz.results44 (show _ = (vo : Value) from rfl) ?_
    have hl := Vf hgrp hm.nodup (hp16.trans (UT hperm8)) (hs17.imp (fun {a b} h => by rw [UE] at h; simpa using h))
    subst hl
    exact ⟨(Chg.new hxL hch15 (fun i hi hO => by have := (hoL.lt i hO).1; omega)), (show Fresh 44 (it1 + 1) _ _ _ from ⟨_, ho18, fun _ h => h.elim⟩).low (by omega)⟩
  · rintro w4 j9 hj10 hj11 hj12 hit13 hch14 u v
    have hch14s := hch14.size
    refine st (zw (vs := [.bool true, u, v]) (i := 0) (v := .bool true) rfl rfl ?_)
    refine zb ?_
    refine za ?_
    refine zh rfl ?_
    refine zp ?_
    refine zr ?_
    refine za ?_
    refine zu (by kernel_rfl) (fun _ => ?_)
    refine st (QI rfl hit13 ?_)
    rintro hj20 _ ⟨rfl, ok21⟩ hr22
    refine st (zw (vs := [.int .i64 (L[j9].1), .agg ((L[j9].2).cells).toArray]) (i := 1) (v := .agg ((L[j9].2).cells).toArray) rfl rfl ?_)
    refine st (zH mA (fun w5 b24 hn23 => ?_))
    have hb25 : w5.heap[b24]? = some (.cells #[.int .i64 (0), .int .i64 (0), .int .i64 (0)] 44) := hn23.at_
    have hs26 := hn23.size; have hs26e := hn23.eq
    refine stn (zF (v := .agg ((L[j9].2).cells).toArray) (c' := ((L[j9].2).cells).toArray) mR rfl rfl hb25 (yg ⟨rfl, rfl, rfl, trivial⟩) (Nat.le_of_ble_eq_true rfl) rfl (fun w6 hp27 => ?_))
    have hs28 := hp27.size
    refine zb ?_
    refine zu (by kernel_rfl) (fun _ => ?_)
    refine st (zt (v := vo) rfl ?_)
    refine st (zg (k := 3) lA mR rfl rfl (CellsAt.all hp27.at_) ?_)
    refine st (zJ (k := 3) (parts' := [(0, .agg ((L[j9].2).cells).toArray)]) (c := ((L[j9].2).cells).toArray) wY mR mA (by decide) rfl (by kernel_rfl) (fun w7 b30 hn29 => ?_))
    have hb31 : w7.heap[b30]? = some (.cells ((L[j9].2).cells).toArray 44) := hn29.at_
    have hs32 := hn29.size; have hs32e := hn29.eq
    have h36 := (OwnS.ext (OwnS.chg (OwnS.ext (OwnS.chg hoL hch14 (fun b hb hO => by have h1 := hoL.lt b hb; have hO : b = it1 := hO; omega) (fun _ h => h.elim)) hn23.ext) hp27.chg (fun b hb hO => by have h1 := hoL.lt b hb; have hO : b = b24 := hO; omega) (fun _ h => h.elim)) hn29.ext)
    refine st (Ub (bytes := 24) (x1 := (L[j9].2)) (F' := (fun _ => False)) zau rfl h36 rfl hb31 (G := fun _ => False) (show Rep.rd _ _ _ _ from ⟨rfl, ok21⟩) (fun _ h => h) (fun _ _ h => h) h36.apart h36.bound (by omega) (by first | omega | (simp only [List.length_take, List.length_drop, List.length_nil, List.length_append, List.length_cons]; omega)) rfl (fun v33 w8 ho34 hch35 => ?_))
    have hla37 : (pick L idx ++ [(L[j9].2)]).length = (pick L idx).length + 1 := by simp only [List.length_append, List.length_cons, List.length_nil]
    have hs38 := hch35.size
    refine st (zv (v := v33) rfl ?_)
    refine zb ?_
    have h39 := (IterR.chg (IterR.ext (IterR.chg (IterR.ext hit13 hn23.ext) hp27.chg (fun e => by have e : it1 = b24 := e; omega) (fun e => by have e : m = b24 := e; omega) (fun _ h => h.elim)) hn29.ext) hch35 (fun hO => by have := (h36.lt _ hO).1; omega) (fun hO => by have := (h36.lt _ hO).1; omega) (fun _ h => h.elim))
    exact ⟨_, by simp only [List.length_append, List.length_cons, List.length_nil]; omega, idx ++ [j9], v33, _, rfl, yH ⟨rfl, rfl, trivial⟩, (Chg.new (Chg.trans (Chg.new (Chg.trans (Chg.new hxL hch14 (fun i hi hO => by have hO : i = it1 := hO; omega)) hn23.ext) hp27.chg (fun i hi hO => by subst hO; omega)) hn29.ext) hch35 (fun i hi hO => by have := (h36.lt i hO).1; omega)), h39, (by rw [KC (by assumption)]; exact ho34), by omega⟩

theorem Jg {G : Nat → Prop} {W w : World} {Rs : List HP} {a : Nat} {p : Prj} {L : List (Int × Row)} (hS0 : Sep G W ((ProjO a p L) :: Rs) w) (hgrp : ∀ q ∈ L, q.1 = q.2.group) (hLs : L.length ≤ 1000000) : Ret Tryz.prog 44 [.pointer (some ⟨a, 0, none⟩)] w (fun r w' => ∃ (v : Value), r = (v : Value) ∧ Sep G W ((ProjO a p L) :: (RowE (α := Row) own 44 v (XP (L.map (·.2)))) :: Rs) w') := by
  obtain ⟨f, hA, hl⟩ := hS0.get (i := 0) rfl
  obtain ⟨op, m, hb, hm, hne, hfa, hfm⟩ := ProjO.get hA
  refine Ret.mono (zaK hb op hm hne hgrp hLs) ?_
  rintro r w1 ⟨hx, hF⟩
  exact ⟨r, rfl, (hS0.push hx (RowE.ofFresh hF) (fun _ h => h)).sel 2 [1, 0] (Nat.le_add_left _ _) rfl rfl⟩

theorem ZipW.back2 {α β : Type} [Rep α] [Inhabited α] [Inhabited β] {A : α → β → HP} {sh : List α} {l : List β} {G : Nat → Prop} {W w : World} {As : List HP} {i : Nat} {c : β} (hn : sh.length = l.length) (hi : i < l.length) (hc : l.getD i default = c) (h : Sep G W (A (sh.getD i default) c :: Star ((Zip A sh l).set i Emp) :: As) w) : Sep G W (Star (Zip A sh l) :: As) w := by
  subst hc; exact ZipW.back hn hi h
def JX (d : Dcl) (l : List Ev) (p : Prj) : List Row := XP ((xL d p l).map (·.2))
def yK (d : Dcl) (l : List Ev) (i : Int) : List Row := if i < 0 ∨ ((d.projs.length : Nat) : Int) ≤ i then [] else JX d l (d.projs.getD i.toNat default)
theorem Yq {G : Nat → Prop} {W w : World} {Rs : List HP} {b : Nat} {d : Dcl} {every : Nat} {evs : List Ev} {ty : Int} (hty : InR ty) {no : Int} (hno : InR no) (hS0 : Sep G W ((BaseO b d every evs) :: Rs) w) : Ret Tryz.prog 25 [.pointer (some ⟨b, 0, none⟩), .int .i64 (ty), .int .i64 (no)] w (fun r w' => ∃ (v : Value), r = (.tuple #[.agg ((yp d (ty, no) (zn d evs)).cells v).toArray, .bool ((zj d (zn d evs) (ty, no)).isSome)] : Value) ∧ Sep G W ((BaseO b d every evs) :: (RowE (α := Cel) own 107 v (stL d (ty, no) (zn d evs))) :: Rs) w') := by
 refine zl (args := [Ix b 0, Iv ty, Iv no]) Tryz.func25 rfl rfl ?_
 obtain ⟨s, l, m, n, c, p, g, A⟩ := BaseO.open hS0
 have e : Sep G W ((Blk b #[l, m, Iw every, n, Ix c 0, p, g] 81) :: (RowE (α := Typ) own 84 l d.types) :: (RowE (α := Prj) own 46 m d.projs) :: (RowE (α := Ev) own 64 n evs) :: (ViewO c d (zn d evs) (zn d evs)) :: (zW p (prs d evs)) :: (yE g (yq d every evs)) :: Rs) w := A
 have B := e.r1
 have hr9s : _ * 24 ≤ _ := B.2
 have t := e.r2
 have hr10s : _ * 40 ≤ _ := t.2
 have u := e.r3
 have hr11s : _ * 96 ≤ _ := u.2
 refine za (R0 fun _ => st (zH oR ?_))
 intro w14 q x
 have h := e.new x
 refine st (aS (.bool false) (zb (za (R0 fun _ => st (mV (Ix b 0) (st (zm (b := b) (o := 0) rfl (st (xC rfl (st (Xx rfl (st (lD (Ix c 0) pT rfl (zd (h.b1) rfl) (st (mV (Iv ty) (st (mV (Iv no) (st (cL nR (WB (ty := ty) (no := no) hty hno (h.mv5)) ?_)))))))))))))))))))
 rintro _ w18 ⟨a, rfl, f⟩
 let D := (yp d (ty, no) (zn d evs)).cells a
 have j := f.r1
 have hr20s : _ * 32 ≤ _ := j.2
 refine st (zw (vs := [.agg D.toArray, .bool ((zj d (zn d evs) (ty, no)).isSome)]) (i := 0) (v := .agg D.toArray) rfl rfl (st (zw (vs := [.agg D.toArray, .bool ((zj d (zn d evs) (ty, no)).isSome)]) (i := 1) (v := .bool ((zj d (zn d evs) (ty, no)).isSome)) rfl rfl (stn (zF (v := .agg D.toArray) (c' := D.toArray) pR rfl rfl (f.b2) (yg ⟨rfl, j.1.one, trivial⟩) yqc rfl ?_)))))
 intro C y
 have k := f.pt2 y
 refine st (aS (.bool ((zj d (zn d evs) (ty, no)).isSome)) (zb (zo (Xu (b := q) Tryz.results25 Tryz.isAgg57 pR rfl rfl (CellsAt.all (k.b2)) (show _ = (.bool ((zj d (zn d evs) (ty, no)).isSome) : Value) from rfl) ?_))))
 have z : Sep G W ((BaseO b d every evs) :: (RowE (α := Cel) own 107 a (stL d (ty, no) (zn d evs))) :: (Blk q D.toArray 57) :: Rs) C := BaseO.close (d := d) (every := every) (evs := evs) s (k.s9_defgahibc)
 refine ⟨a, rfl, (z.s3_ab)⟩

theorem Za {G : Nat → Prop} {W w : World} {Rs : List HP} {b : Nat} {d : Dcl} {every : Nat} {evs : List Ev} (hS0 : Sep G W ((BaseO b d every evs) :: Rs) w) : Ret Tryz.prog 15 [.pointer (some ⟨b, 0, none⟩)] w (fun r w' => ∃ (v : Value), r = (v : Value) ∧ Sep G W ((BaseO b d every evs) :: (RowE (α := Ent) own 66 v (zn d evs)) :: Rs) w') := by
 refine zl (args := [Ix b 0]) Tryz.func15 rfl rfl ?_
 obtain ⟨l, h, i, j, c, k, e, s⟩ := BaseO.open hS0
 have a : Sep G W ((Blk b #[h, i, Iw every, j, Ix c 0, k, e] 81) :: (RowE (α := Typ) own 84 h d.types) :: (RowE (α := Prj) own 46 i d.projs) :: (RowE (α := Ev) own 64 j evs) :: (ViewO c d (zn d evs) (zn d evs)) :: (zW k (prs d evs)) :: (yE e (yq d every evs)) :: Rs) w := s
 have t := a.r1
 have hr9s : _ * 24 ≤ _ := t.2
 have m := a.r2
 have hr10s : _ * 40 ≤ _ := m.2
 have n := a.r3
 have hr11s : _ * 96 ≤ _ := n.2
 refine za (R0 fun _ => st (aS (Iz) (zb (za (R0 fun _ => st (mV (Ix b 0) (st (zm (b := b) (o := 0) rfl (st (xC rfl (st (Xx rfl (st (lD (Ix c 0) pT rfl (zd (a.b0) rfl) (st (cL Tryz.call43 (Qb  (a.mv4)) ?_))))))))))))))))
 rintro f u ⟨_, rfl, g⟩
 have p := g.r1
 have hr16s : _ * 120 ≤ _ := p.2
 refine st (aS f (zb (zo (zR Tryz.results15 (show _ = (f : Value) from rfl) ?_))))
 have q : Sep G W ((BaseO b d every evs) :: (RowE (α := Ent) own 66 f (zn d evs)) :: Rs) u := BaseO.close (d := d) (every := every) (evs := evs) l (g.s8_cdefaghb)
 refine ⟨f, rfl, q⟩

theorem YS {G : Nat → Prop} {W w : World} {Rs : List HP} {b : Nat} {d : Dcl} {every : Nat} {evs : List Ev} {q : Int} (hq : InR q) (hS0 : Sep G W ((BaseO b d every evs) :: Rs) w) (hfew : evs.length ≤ 1000) : Ret Tryz.prog 16 [.pointer (some ⟨b, 0, none⟩), .int .i64 (q)] w (fun r w' => ∃ (v : Value), r = (v : Value) ∧ Sep G W ((BaseO b d every evs) :: (RowE (α := Row) own 44 v (yK d evs q)) :: Rs) w') := by
 refine zl (args := [Ix b 0, Iv q]) Tryz.func16 rfl rfl ?_
 obtain ⟨E, l, m, p, f, h, g, ae⟩ := BaseO.open hS0
 let ah := ViewO f d (zn d evs) (zn d evs)
 let ag := Blk b #[l, m, Iw every, p, Ix f 0, h, g] 81
 have x : Sep G W (ag :: (RowE (α := Typ) own 84 l d.types) :: (RowE (α := Prj) own 46 m d.projs) :: (RowE (α := Ev) own 64 p evs) :: ah :: (zW h (prs d evs)) :: (yE g (yq d every evs)) :: Rs) w := ae
 have af := x.r1
 have hr9s : _ * 24 ≤ _ := af.2
 have P := x.r2
 have hr10s : _ * 40 ≤ _ := P.2
 have Q := x.r3
 have hr11s : _ * 96 ≤ _ := Q.2
 refine za (R0 fun _ => st (aS (Iz) (zb (za (za ?_)))))
 obtain ⟨e, s, R⟩ := ZipW.open (x.mv5)
 have t : Sep G W ((RowE (α := PtC) own 93 h e) :: (Star (Zip xq e (prs d evs))) :: ag :: (RowE (α := Typ) own 84 l d.types) :: (RowE (α := Prj) own 46 m d.projs) :: (RowE (α := Ev) own 64 p evs) :: ah :: (yE g (yq d every evs)) :: Rs) w := R
 have z := t.r0
 have hr16s : _ * 8 ≤ _ := z.2
 have hsl9 : e.length = d.projs.length := by rw [s, Zl]
 refine zI kr (st (mV (Iv q) (st (zL (k := .i64) (a := q) (b := 0) rfl rfl (st (mV (.bool (decide (q < 0))) (stc (V := Iv q) rfl rfl (fun S => ?_) ?_)))))))
 have hl18 := fD S
 exact mV (Iv q) ⟨rfl, rfl⟩
 refine stc (V := Ix b 0) rfl rfl (fun T => ?_) ?_
 have hl20 := fD T
 exact mV (Ix b 0) ⟨rfl, rfl⟩
 refine stc (V := Ix b 0) rfl rfl (fun F => ?_) ?_
 have hl22 := fD F
 exact zm (b := b) (o := 0) (if_pos F) ⟨rfl, rfl⟩
 refine stc (V := Ix b 4) rfl rfl (fun H => ?_) ?_
 have hl24 := fD H
 exact xC (if_pos H) ⟨rfl, rfl⟩
 refine stc (V := Ix b 5) rfl rfl (fun I => ?_) ?_
 have hl26 := fD I
 exact ZF (if_pos I) ⟨rfl, rfl⟩
 refine stc (V := h) rfl rfl (fun J => ?_) ?_
 have hl28 := fD J
 exact lD h rT (if_pos J) (zd (t.b2) rfl) ⟨rfl, rfl⟩
 refine stc (V := Iw e.length) rfl rfl (fun K => ?_) ?_
 have hl30 := fD K
 exact zB (n := e.length) uT (if_pos K) z.1 ⟨rfl, rfl⟩
 refine stc (V := .bool (decide (((e.length : Nat) : Int) ≤ q))) rfl rfl (fun A => ?_) ?_
 have hl32 := fD A
 exact Zm (k := .i64) (a := q) (b := ((e.length : Nat) : Int)) (if_pos A) (if_pos A) ⟨rfl, rfl⟩
 refine st (zy (b := decide (q < 0)) (b' := decide (((e.length : Nat) : Int) ≤ q)) rfl (fun hbp => (if_pos hbp)) (zb ?_))
 cases B : (decide (q < 0)) || (decide (((e.length : Nat) : Int) ≤ q))
 have hc33r := B
 try simp only [zi] at B
 refine zf rfl (zp (za ?_))
 have L : Sep G W ((ProjO ((e.getD q.toNat default).b) (((prs d evs).getD q.toNat default).1) (((prs d evs).getD q.toNat default).2)) :: (Star ((Zip xq e (prs d evs)).set q.toNat Emp)) :: (RowE (α := PtC) own 93 h e) :: (Blk b #[l, m, Iw every, p, Ix f 0, h, g] 81) :: (RowE (α := Typ) own 84 l d.types) :: (RowE (α := Prj) own 46 m d.projs) :: (RowE (α := Ev) own 64 p evs) :: (ViewO f d (zn d evs) (zn d evs)) :: (yE g (yq d every evs)) :: Rs) w := ZipW.take s (by rw [Zl]; omega) (t.mv1)
 have O : (prs d evs).getD q.toNat default = ((d.projs.getD q.toNat default), xL d (d.projs.getD q.toNat default) evs) := WA om
 rw [O] at L
 have C : Sep G W ((ProjO ((e.getD q.toNat default).b) (d.projs.getD q.toNat default) (xL d (d.projs.getD q.toNat default) evs)) :: (Star ((Zip xq e (prs d evs)).set q.toNat Emp)) :: (RowE (α := PtC) own 93 h e) :: ag :: (RowE (α := Typ) own 84 l d.types) :: (RowE (α := Prj) own 46 m d.projs) :: (RowE (α := Ev) own 64 p evs) :: ah :: (yE g (yq d every evs)) :: Rs) w := L
 refine R0 fun _ => st (mV (Ix b 0) (st (zm (b := b) (o := 0) rfl (st (xC rfl (st (ZF rfl (st (lD h rT rfl (zd (C.b3) rfl) (st (mV (Iv q) ?_)))))))))))
 have hi37 : q.toNat < e.length := bo
 refine st (zN (k := 1) (i := q) uT tR rfl z.1 rfl ⟨by omega, by omega⟩ ?_)
 have U : q.toNat < e.length := bo
 obtain ⟨_, _, y, rfl, hpke38⟩ := C.rowAtD (i := 2) (j := q.toNat) rfl U
 have y : CellsAt _ _ _ [Ix ((e.getD q.toNat default).b) 0] := y
 refine st (lD (Ix ((e.getD q.toNat default).b) 0) sY rfl (y.get (j := 0) rfl) (st (cL Tryz.call44 (Jg  C ((Yy d (d.projs.getD q.toNat default) evs).grp) ((by have h9 := (Yy d (d.projs.getD q.toNat default) evs).len; omega))) ?_)))
 rintro u M ⟨_, rfl, N⟩
 have X := N.r1
 have hr43s : _ * 24 ≤ _ := X.2
 refine st (aS u (zb (zo (zR nA (show _ = (u : Value) from rfl) ?_))))
 have Y : Sep G W ((Star (Zip xq e (prs d evs))) :: (RowE (α := Row) own 44 u (XP ((xL d (d.projs.getD q.toNat default) evs).map (·.2)))) :: (RowE (α := PtC) own 93 h e) :: (Blk b #[l, m, Iw every, p, Ix f 0, h, g] 81) :: (RowE (α := Typ) own 84 l d.types) :: (RowE (α := Prj) own 46 m d.projs) :: (RowE (α := Ev) own 64 p evs) :: (ViewO f d (zn d evs) (zn d evs)) :: (yE g (yq d every evs)) :: Rs) M := ZipW.back2 (c := (((d.projs.getD q.toNat default), xL d (d.projs.getD q.toNat default) evs) : PR)) s (by rw [Zl]; omega) O (N.s10_acbdefghij)
 have Z : Sep G W ((zW h (prs d evs)) :: (RowE (α := Row) own 44 u (XP ((xL d (d.projs.getD q.toNat default) evs).map (·.2)))) :: ag :: (RowE (α := Typ) own 84 l d.types) :: (RowE (α := Prj) own 46 m d.projs) :: (RowE (α := Ev) own 64 p evs) :: ah :: (yE g (yq d every evs)) :: Rs) M := ZipW.mk s (Y.mv2)
 have aa : Sep G W ((BaseO b d every evs) :: (RowE (α := Row) own 44 u (XP ((xL d (d.projs.getD q.toNat default) evs).map (·.2)))) :: Rs) M := BaseO.close (d := d) (every := every) (evs := evs) E (Z.s8_cdefgahb)
 have D : yK d evs q = JX d evs (d.projs.getD q.toNat default) := by unfold yK; rw [if_neg (by omega)]
 rw [D]
 refine ⟨u, rfl, aa⟩
 try simp only [zi] at B
 refine zh rfl (za (R0 fun _ => st (aS (Iz) (zb (zo (zR nA (show _ = ((Iz) : Value) from rfl) ?_))))))
 have ab : Sep G W ((zW h (prs d evs)) :: ag :: (RowE (α := Typ) own 84 l d.types) :: (RowE (α := Prj) own 46 m d.projs) :: (RowE (α := Ev) own 64 p evs) :: ah :: (yE g (yq d every evs)) :: Rs) w := ZipW.mk s t
 have ac : Sep G W ((BaseO b d every evs) :: Rs) w := BaseO.close (d := d) (every := every) (evs := evs) E (ab.s7_bcdefag)
 have ad : Sep _ _ ((RowE (α := Row) own 44 (Iz) ([] : List Row)) :: _) _ := ac.rowNil own 44
 have D : yK d evs q = [] := by unfold yK; rw [if_pos (by omega)]
 rw [D]
 refine ⟨(Iz), rfl, (ad.mv1)⟩

def Uniq (l : List Ev) : Prop := ∀ i j, i < l.length → j < l.length → xM (l.getD i default) (l.getD j default) → i = j
theorem Uniq.nil : Uniq [] := fun i j hi => absurd hi (Nat.not_lt_zero i)
theorem Uniq.snoc {l : List Ev} {x : Ev} (h : Uniq l) (hx : ∀ i, i < l.length → ¬ xM (l.getD i default) x) : Uniq (l ++ [x]) := by
  have g1 : ∀ i, i < l.length → (l ++ [x]).getD i default = l.getD i default := fun i hi => by rw [List.getD_eq_getElem?_getD, List.getD_eq_getElem?_getD, List.getElem?_append_left hi]
  have g2 : ∀ i, i < (l ++ [x]).length → ¬ i < l.length → i = l.length ∧ (l ++ [x]).getD i default = x := fun i hi hn => by
    rw [List.length_append, List.length_singleton] at hi
    obtain rfl : i = l.length := by omega
    exact ⟨rfl, by rw [List.getD_eq_getElem?_getD, List.getElem?_append_right (Nat.le_refl _), Nat.sub_self]; rfl⟩
  intro i j hi hj hs
  by_cases h1 : i < l.length
  · rw [g1 i h1] at hs
    by_cases h2 : j < l.length
    · rw [g1 j h2] at hs; exact h i j h1 h2 hs
    · rw [(g2 j hj h2).2] at hs; exact absurd hs (hx i h1)
  · rw [(g2 i hi h1).2] at hs
    by_cases h2 : j < l.length
    · rw [g1 j h2] at hs; exact absurd ⟨hs.1.symm, hs.2.symm⟩ (hx j h2)
    · rw [(g2 i hi h1).1, (g2 j hj h2).1]
theorem Uniq.one {l a b : List Ev} (h : Uniq l) (ha : ∀ x ∈ a, x ∈ l) (hb : ∀ x ∈ b, x ∈ l) : VK a b := fun x hx y hy hs => by
  obtain ⟨i, hi, rfl⟩ := List.getElem_of_mem (ha x hx)
  obtain ⟨j, hj, rfl⟩ := List.getElem_of_mem (hb y hy)
  have := h i j hi hj (by rw [zx _ hi, zx _ hj]; exact hs)
  subst this; rfl
theorem WX {l : List Ev} {i : Nat} (h : i < l.length) : l.getD i default ∈ l := by rw [zx _ h]; exact List.getElem_mem h
theorem Kj {l o : List Ev} {x : Ev} (h : ∀ y ∈ o, y ∈ l) (hx : x ∈ l) : ∀ y ∈ o ++ [x], y ∈ l := fun y hy => (List.mem_append.1 hy).elim (h y) (fun h1 => by rw [List.mem_singleton.1 h1]; exact hx)
theorem UH {l o : List Ev} {x : Ev} {i : Nat} (h : ∀ y ∈ o, y ∈ l) (hx : x ∈ l) : ∀ y ∈ o.set i x, y ∈ l := fun y hy => (List.mem_or_eq_of_mem_set hy).elim (h y) (fun e => e ▸ hx)
theorem Jx {G : Nat → Prop} {W w : World} {Rs : List HP} {n : Int} (hn : InR n) {vl : Value} {l : List Ev} (hl : RdS W G vl l) (hS0 : Sep G W Rs w) : Ret Tryz.prog 10 [.int .i64 (n), vl] w (fun r w' => ∃ (v : Value) (out : List Ev), r = (v : Value) ∧ (out.length ≤ 40) ∧ (Uniq out) ∧ Sep G W ((RowE (α := Ev) (shr G W) 64 v out) :: Rs) w') := by
 have hls : _ * 96 ≤ _ := hl.small
 refine zl (args := [Iv n, vl]) Tryz.func10 rfl rfl ?_
 refine za (R0 fun _ => st (aS (Iz) (zb (za (R0 fun _ => st (mV (Iv n) (st (mV vl (st (cL Tryz.call34 (KY (n := n) (l := l) (vl := vl) hn hl hS0) ?_))))))))))
 rintro o w5 ⟨_, f, rfl, h603, hft4, aC⟩
 have P := aC.r0
 have hr7s : _ * 96 ≤ _ := P.2
 refine st (aS o (zb (za (R0 fun _ => st (aS (Iz) (zb (za (za (R0 fun _ => st (aS (Iv 0) (zb (zr ?_))))))))))))
 have aO : Sep _ _ ((RowE (α := Ev) (shr G W) 64 (Iz) ([] : List Ev)) :: _) _ := aC.rowNil (shr G W) 64
 refine zZ (fun mq σ Y => ∃ (k : Nat) (vo : Value) (d : List Ev) (ρ : Env), mq = f.length - k ∧ σ = yc ρ [(1, o), (4, (Iz)), (5, vo), (6, Iw k)] ∧ (k ≤ f.length) ∧ (d.length ≤ 40) ∧ (Uniq d) ∧ Sep G W ((RowE (α := Ev) (shr G W) 64 vo d) :: (RowE (α := Ev) (shr G W) 64 o f) :: Rs) Y) ⟨0, (Iz), [], _, rfl, sSf, Nat.zero_le _, Nat.zero_le _, Uniq.nil, aO⟩ ?_
 rintro m10 σ11 w9 ⟨k, vo, d, ρl1, rfl, rfl, hkk, aD, M, N⟩
 have A := N.r0
 have hr13s : _ * 96 ≤ _ := A.2
 refine za (za (zI kr (st (mV (Iw k) (st (mV o (st (zB (n := f.length) kT rfl P.1 (st (zL (k := .i64) (a := ((k : Nat) : Int)) (b := ((f.length : Nat) : Int)) rfl rfl (st (mV (.bool (decide (((k : Nat) : Int) < ((f.length : Nat) : Int)))) (stc (V := vo) rfl rfl (fun aF => ?_) ?_)))))))))))))
 have hl15 := tD aF
 exact mV vo ⟨rfl, rfl⟩
 refine stc (V := Iw d.length) rfl rfl (fun Z => ?_) ?_
 have hl17 := tD Z
 exact zB (n := d.length) kT (if_pos Z) A.1 ⟨rfl, rfl⟩
 refine stc (V := .bool (decide (((d.length : Nat) : Int) < 40))) rfl rfl (fun aa => ?_) ?_
 have hl19 := tD aa
 exact zL (k := .i64) (a := ((d.length : Nat) : Int)) (b := 40) (if_pos aa) rfl ⟨rfl, rfl⟩
 refine st (zD (b := decide (((k : Nat) : Int) < ((f.length : Nat) : Int))) (b' := decide (((d.length : Nat) : Int) < 40)) rfl (fun hbp => (if_pos hbp)) (zb ?_))
 cases O : (decide (((k : Nat) : Int) < ((f.length : Nat) : Int))) && (decide (((d.length : Nat) : Int) < 40))
 have hc20r := O
 try simp only [zi] at O
 refine zf rfl (ya (zS (za (R0 fun _ => st (mV vo (st (aS vo (zb (zo (zR Tryz.results10 (show _ = (vo : Value) from rfl) ?_))))))))))
 refine ⟨vo, d, rfl, ?_, ?_, (N.s2_a)⟩
 exact aD
 exact M
 try simp only [zi] at O
 refine zh rfl (zp (za (zr (za (R0 fun _ => st (aS (.bool false) (zb (za (za (R0 fun _ => st (aS (Iv 0) (zb (zr (zZ (fun mq σ Y => ∃ (j : Nat) (m : Bool) (ρ : Env), mq = d.length - j ∧ σ = yc ρ [(1, o), (4, (Iz)), (5, vo), (6, Iw k), (7, .bool m), (8, Iw j)] ∧ (j ≤ d.length) ∧ (m = false → ∀ i, i < j → ¬ xM (d.getD i default) (f.getD k default)) ∧ Sep G W ((RowE (α := Ev) (shr G W) 64 vo d) :: (RowE (α := Ev) (shr G W) 64 o f) :: Rs) Y) ⟨0, false, _, rfl, sSf, Nat.zero_le _, (fun _ i hi => absurd hi (Nat.not_lt_zero i)), N⟩ ?_))))))))))))))
 rintro m23 σ24 w22 ⟨j, m, ρl2, rfl, rfl, hjj, ab, B⟩
 refine za (za (R0 fun _ => st (mV (Iw j) (st (mV vo (st (zB (n := d.length) kT rfl A.1 (st (zL (k := .i64) (a := ((j : Nat) : Int)) (b := ((d.length : Nat) : Int)) rfl rfl (zb ?_))))))))))
 cases z : decide (((j : Nat) : Int) < ((d.length : Nat) : Int))
 have hc26r := z
 have z := fD z
 refine zf rfl (ya (zS (za (R0 fun _ => st (mV (.bool m) (st (yF (a := m) rfl (zb ?_))))))))
 cases C : !m
 have hc27r := C
 try simp only [zi] at C
 refine zf rfl (zp (R0 fun _ => st (mV (Iw k) ?_)))
 have aG : InR ((k + 1 : Nat) : Int) := bo
 refine st (zQ (r := ((k + 1 : Nat) : Int)) (k := .i64) (a := ((k : Nat) : Int)) (b := 1) rfl rfl (by rw [show (((k : Nat) : Int) + 1 : Int) = ((k + 1 : Nat) : Int) from bo]; exact zC aG) (st (aS (Iw (k + 1)) (zb ?_))))
 exact ⟨_, by omega, k + 1, vo, d, _, rfl, sSf, by omega, aD, M, B⟩
 try simp only [zi] at C
 refine zh rfl (R0 fun _ => st (mV vo (st (mV o (st (mV (Iw k) ?_))))))
 have aH : k < f.length := bo
 refine st (ze (k := 10) (i := k) kT lT rfl P.1 rfl aH ?_)
 have aI : k < f.length := bo
 obtain ⟨_, _, ai, L, rfl, X, ac⟩ := B.rowAtD (i := 1) (j := k) rfl aI
 refine st (zg (k := 10) qT lT rfl rfl ai (st (zJ (k := 10) (parts' := [(0, .agg ((f.getD k default).cells L).toArray)]) (c := ((f.getD k default).cells L).toArray) kT lT rR dc rfl kr ?_)))
 intro w34 b33 aJ
 have ad := B.new aJ
 have aj := ad.b0
 refine st (yx (src := (shr G W)) (bytes := 96) (x1 := (f.getD k default)) ((ad.s3_bc).emp1) UV rfl rfl aj (fun _ _ _ => (show _ from ⟨_, rfl, X, ac⟩)) yqb rfl ?_)
 intro aE w36 ae
 have aK := ae.r0
 have hr42s : _ * 96 ≤ _ := aK.2
 refine st (aS aE (zb (R0 fun _ => st (mV (Iw k) ?_))))
 have aL : InR ((k + 1 : Nat) : Int) := bo
 refine st (zQ (r := ((k + 1 : Nat) : Int)) (k := .i64) (a := ((k : Nat) : Int)) (b := 1) rfl rfl (by rw [show (((k : Nat) : Int) + 1 : Int) = ((k + 1 : Nat) : Int) from bo]; exact zC aL) (st (aS (Iw (k + 1)) (zb ?_))))
 exact ⟨_, by omega, k + 1, aE, (d ++ [(f.getD k default)]), _, rfl, sSf, by omega, (by rw [List.length_append, List.length_singleton]; omega), (M.snoc (fun i hi => ab (by have h9 := C; simpa using h9) i (by omega))), ae⟩
 have z := tD z
 refine zh rfl (zp (za (zr ?_)))
 refine WD4 (WF [fun vals Y => Sep G W ((RowE (α := Ev) (shr G W) 64 vo d) :: (RowE (α := Ev) (shr G W) 64 o f) :: Rs) Y]) (AF [Vl 0 (.bool m), Vl 1 (.bool m), Vl 2 (if m = false then vo else undef), Vl 3 (if m = false then Iw j else undef), Vl 4 (if m = false then Ix (sb vo) (so vo + j * 10) else undef), Vl 5 (if m = false then Ix (sb vo) (so vo + j * 10) else undef), Vl 6 (if m = false then .agg #[Iv ((d.getD j default).origin), Iv ((d.getD j default).seq)] else undef), Vl 7 (if m = false then o else undef), Vl 8 (if m = false then Iw k else undef), Vl 9 (if m = false then Ix (sb o) (so o + k * 10) else undef), Vl 10 (if m = false then Ix (sb o) (so o + k * 10) else undef), Vl 11 (if m = false then .agg #[Iv ((f.getD k default).origin), Iv ((f.getD k default).seq)] else undef), Vl 12 (if m = false then .bool (decide ((d.getD j default).origin = (f.getD k default).origin ∧ (d.getD j default).seq = (f.getD k default).seq)) else undef), Vl 13 (.bool (m || (decide ((d.getD j default).origin = (f.getD k default).origin ∧ (d.getD j default).seq = (f.getD k default).seq)))), Vl 14 (.bool (m || (decide ((d.getD j default).origin = (f.getD k default).origin ∧ (d.getD j default).seq = (f.getD k default).seq))))]) [[], [0], [0, 1], [0, 1], (rg 4), (rg 5), (rg 6), [0, 1], [0, 1], [0, 1, 7, 8], [0, 1, 7, 8, 9], [0, 1, 7, 8, 9, 10], (rg 12), (rg 13), (rg 14)] [] [(0, 0), (0, 0), (0, 0), (0, 0), (0, 0), (0, 0), (0, 0), (0, 0), (0, 0), (0, 0), (0, 0), (0, 0), (0, 0), (0, 0), (0, 0)] B ⟨fun _ _ _ _ _ _ _ => obl rfl (mV (.bool m) dR), fun _ _ _ _ _ _ ak => obl rfl (zt (v := .bool m) (ak 0 dc) dR), ?_, ?_, ?_, ?_, ?_, ?_, ?_, ?_, ?_, ?_, ?_, fun _ _ _ _ _ _ Q => obl rfl (zy (b := m) (b' := decide ((d.getD j default).origin = (f.getD k default).origin ∧ (d.getD j default).seq = (f.getD k default).seq)) (Q 1 dc) (fun hbp => (Eq.trans (Q 12 dc) (if_pos hbp))) dR), fun _ _ _ _ _ _ al => obl rfl (zv (v := .bool (m || (decide ((d.getD j default).origin = (f.getD k default).origin ∧ (d.getD j default).seq = (f.getD k default).seq)))) (al 13 dc) dR), trivial⟩ ?_
 refine fun _ _ _ _ _ _ am => (zz rfl rfl (am 1 dc) (fun D => ?_) (fun D => fun g h _ => ⟨trivial, h.trans (if_neg D).symm⟩))
 exact mV vo (fun g h _ => ⟨rfl, h.trans (if_pos D).symm⟩)
 refine fun _ _ _ _ _ _ an => (zz rfl rfl (an 1 dc) (fun E => ?_) (fun E => fun g h _ => ⟨trivial, h.trans (if_neg E).symm⟩))
 exact mV (Iw j) (fun g h _ => ⟨rfl, h.trans (if_pos E).symm⟩)
 refine ob1 0 fun _ _ _ F => (zz rfl rfl (F 1 dc) (fun p => ?_) (fun p => fun g h _ => ⟨trivial, h.trans (if_neg p).symm⟩))
 have ao : j < d.length := bo
 exact ze (k := 10) (i := j) kT lT (Eq.trans (F 2 dc) (if_pos p)) A.1 (Eq.trans (F 3 dc) (if_pos p)) ao (fun g h _ => ⟨rfl, h.trans (if_pos p).symm⟩)
 refine fun _ _ _ _ _ _ R => (zz rfl rfl (R 1 dc) (fun t => ?_) (fun t => fun g h _ => ⟨trivial, h.trans (if_neg t).symm⟩))
 exact xe (Eq.trans (R 4 dc) (if_pos t)) (fun g h _ => ⟨rfl, h.trans (if_pos t).symm⟩)
 refine ob1 0 fun _ _ (ap : Sep _ _ _ _) S => (zz rfl rfl (S 1 dc) (fun u => ?_) (fun u => fun g h _ => ⟨trivial, h.trans (if_neg u).symm⟩))
 have aq : j < d.length := bo
 obtain ⟨_, _, ag, de257_0, rfl, hde257_0, hoke257⟩ := ap.rowAtD (i := 0) (j := j) rfl aq
 exact zg (k := 2) (cs := [Iv ((d.getD j default).origin), Iv ((d.getD j default).seq)]) kR lR rfl (Eq.trans (S 5 dc) (if_pos u)) (CellsAt.sub ag 0 (cs2 := [Iv ((d.getD j default).origin), Iv ((d.getD j default).seq)]) rfl) (fun g h _ => ⟨rfl, h.trans (if_pos u).symm⟩)
 refine fun _ _ _ _ _ _ ar => (zz rfl rfl (ar 1 dc) (fun H => ?_) (fun H => fun g h _ => ⟨trivial, h.trans (if_neg H).symm⟩))
 exact mV o (fun g h _ => ⟨rfl, h.trans (if_pos H).symm⟩)
 refine fun _ _ _ _ _ _ au => (zz rfl rfl (au 1 dc) (fun I => ?_) (fun I => fun g h _ => ⟨trivial, h.trans (if_neg I).symm⟩))
 exact mV (Iw k) (fun g h _ => ⟨rfl, h.trans (if_pos I).symm⟩)
 refine ob1 0 fun _ _ _ J => (zz rfl rfl (J 1 dc) (fun q => ?_) (fun q => fun g h _ => ⟨trivial, h.trans (if_neg q).symm⟩))
 have av : k < f.length := bo
 exact ze (k := 10) (i := k) kT lT (Eq.trans (J 7 dc) (if_pos q)) P.1 (Eq.trans (J 8 dc) (if_pos q)) av (fun g h _ => ⟨rfl, h.trans (if_pos q).symm⟩)
 refine fun _ _ _ _ _ _ T => (zz rfl rfl (T 1 dc) (fun x => ?_) (fun x => fun g h _ => ⟨trivial, h.trans (if_neg x).symm⟩))
 exact xe (Eq.trans (T 9 dc) (if_pos x)) (fun g h _ => ⟨rfl, h.trans (if_pos x).symm⟩)
 refine ob1 0 fun _ _ (aw : Sep _ _ _ _) U => (zz rfl rfl (U 1 dc) (fun y => ?_) (fun y => fun g h _ => ⟨trivial, h.trans (if_neg y).symm⟩))
 have ax : k < f.length := bo
 obtain ⟨_, _, ah, de311_0, rfl, hde311_0, hoke311⟩ := aw.rowAtD (i := 1) (j := k) rfl ax
 exact zg (k := 2) (cs := [Iv ((f.getD k default).origin), Iv ((f.getD k default).seq)]) kR lR rfl (Eq.trans (U 10 dc) (if_pos y)) (CellsAt.sub ah 0 (cs2 := [Iv ((f.getD k default).origin), Iv ((f.getD k default).seq)]) rfl) (fun g h _ => ⟨rfl, h.trans (if_pos y).symm⟩)
 refine ob1 0 fun _ _ _ K => (zz rfl rfl (K 1 dc) (fun s => ?_) (fun s => fun g h _ => ⟨trivial, h.trans (if_neg s).symm⟩))
 exact Zc (e := decide ((d.getD j default).origin = (f.getD k default).origin ∧ (d.getD j default).seq = (f.getD k default).seq)) (xs := #[Iv ((d.getD j default).origin), Iv ((d.getD j default).seq)]) (ys := #[Iv ((f.getD k default).origin), Iv ((f.getD k default).seq)]) Kf (Eq.trans (K 6 dc) (if_pos s)) (Eq.trans (K 11 dc) (if_pos s)) (fun g h _ => ⟨rfl, h.trans (if_pos s).symm⟩)
 intro vals w340 ay az
 have aA : Sep _ _ _ _ := ay
 have aM := az 14 dc
 refine zX (kv := [(1, o), (4, (Iz)), (5, vo), (6, Iw k), (7, .bool (m || (decide ((d.getD j default).origin = (f.getD k default).origin ∧ (d.getD j default).seq = (f.getD k default).seq)))), (8, Iw j), (23, Iw j), (24, vo), (25, Iw d.length), (26, .bool true)]) ⟨rfl, rfl, rfl, rfl, (by exact aM), rfl, rfl, rfl, rfl, rfl, trivial⟩ (fun ρw340 => (zb (R0 fun _ => st (mV (Iw j) ?_))))
 have aB : InR ((j + 1 : Nat) : Int) := bo
 refine st (zQ (r := ((j + 1 : Nat) : Int)) (k := .i64) (a := ((j : Nat) : Int)) (b := 1) rfl rfl (by rw [show (((j : Nat) : Int) + 1 : Int) = ((j + 1 : Nat) : Int) from bo]; exact zC aB) (st (aS (Iw (j + 1)) (zb ?_))))
 exact ⟨_, by omega, j + 1, (m || (decide ((d.getD j default).origin = (f.getD k default).origin ∧ (d.getD j default).seq = (f.getD k default).seq))), _, rfl, sSf, by omega, (fun h9 i hi => by simp only [Bool.or_eq_false_iff, decide_eq_false_iff_not] at h9; rcases Nat.lt_or_eq_of_le (Nat.le_of_lt_succ hi) with h1 | h1; exact ab h9.1 i h1; subst h1; exact h9.2), aA⟩

end Go.Proofs.YtojlbibionhdjaaGreatDoor
