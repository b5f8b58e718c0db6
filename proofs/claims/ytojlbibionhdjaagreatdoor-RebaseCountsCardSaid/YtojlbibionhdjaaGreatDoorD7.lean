import Derived.Test.YtojlbibionhdjaaGreatDoorD6
import Derived.Test.YtojlbibionhdjaaGreatDoorD4
import Derived.Test.YtojlbibionhdjaaGreatDoorD1
import Derived.Test.YtojlbibionhdjaaGreatDoorD2
set_option linter.unusedSimpArgs false
set_option linter.unusedVariables false
set_option linter.unusedSectionVars false
set_option linter.deprecated false
set_option maxRecDepth 8000
set_option maxHeartbeats 4000000
open Go.Proofs.Tryz renaming isAgg3 → kT, sizeOf64 → lT, sizeOf3 → mT, isAgg64 → nT, underlying26 → oT, results86 → pT, results60 → qT, sizeOf61 → rT, sizeOf66 → sT, call67 → tT, isAgg39 → uT, isAgg61 → vT, underlying39 → wT, sizeOf57 → kR, isAgg62 → lR, underlying62 → mR, underlying46 → nR, underlying64 → oR, results85 → pR, zeroValue57 → qR, isAgg25 → rR, sizeOf25 → sR, underlying44 → tR, sizeOf44 → uR, zeroValue66 → vR, isAgg57 → wR, zeroValue64 → kY, results8 → lY, underlying122 → mY, sizeOf46 → nY, underlying66 → oY, isAgg120 → pY, underlying120 → qY, underlying3 → rY, zeroValue44 → sY, isAgg44 → tY, results64 → uY
namespace Go.Proofs.YtojlbibionhdjaaGreatDoor
open Go.Proofs Go.RowKit
theorem yqg {p : Prop} (h : p := by simp [Instr.build, Instr.fill, go_sem, Ent.cells, Ev.cells, yg]) : p := h

def xI (d : Dcl) (k : Int × Int) (L : List Ent) : Sta := ⟨((ym k L : Nat) : Int), stL d k L⟩
theorem xA (d : Dcl) (l : List Ev) : (zu d l).length = l.length := by
  induction l using Zg with
  | h0 => rfl
  | h1 l e ih => rw [xm, List.length_append, List.length_append, ih]; rfl
theorem UW {d : Dcl} {l : List Ev} {k : Nat} (h : k < l.length) : zu d (l.take (k + 1)) = zu d (l.take k) ++ [yg d (zu d (l.take k)) (l.getD k default)] := by rw [List.take_getD (d := default) h, xm]
theorem JT {d : Dcl} {l : List Ev} {k : Nat} (h : l.length ≤ 1000000) : (zu d (l.take k)).length ≤ 1000000 := by rw [xA, List.length_take]; omega
set_option maxHeartbeats 8000000 in
theorem Kt {G : Nat → Prop} {W w : World} {Rs : List HP} {b : Nat} {d : Dcl} {L : List Ent} {e : Ev} {de0 : Value} (hde0 : RdS W G de0 e.deps) (oe : e.Ok) (hKN : RdS W G (.slice (some ⟨0, 0, none⟩) 6 6) kindsL) (hS0 : Sep G W ((ViewO b d L L) :: Rs) w) (hd : DclOk d) (hinv : Inv d L) (hml : L.length ≤ 1000000) : Ret Tryz.prog 63 [.pointer (some ⟨b, 0, none⟩), .agg (e.cells de0).toArray] w (fun r w' => ∃ (v : Value), r = (.agg ((yg d L e).cells v).toArray : Value) ∧ Sep G W ((ViewO b d (L ++ [yg d L e]) (L ++ [yg d L e])) :: (RowE (α := Int) own 3 v e.deps) :: Rs) w') := by
 have hde0s : _ * 8 ≤ _ := hde0.small
 have hKNs : _ * 8 ≤ _ := hKN.small
 refine zk (args := [Ix b 0, .agg (e.cells de0).toArray]) Tryz.func63 rfl rfl ?_
 refine za (R0 fun _ => st (zS (v := .agg (e.cells de0).toArray) rfl ?_))
 intro w3 b2 bz
 let bF := Blk b2 (e.cells de0).toArray 64
 refine st (zI vR ?_)
 intro w7 U bA
 let bo := Blk U #[Iv 0, Iv 0, Iv 0, (Iz), Iv 0, Iv 0, Iv 0, Iv 0, Iv 0, Iv 0, .bool false, Iv 0, Iv 0] 66
 have bb := (hS0.new bz).new bA
 refine zb (za (R0 fun _ => st (mV (Ix b 0) (st (zg (k := 10) nT lT rfl rfl (CellsAt.all (bb.b1)) (st (cL tT (YV (e := e) hde0 oe bb) ?_)))))))
 rintro _ w10 ⟨v9, rfl, ah⟩
 have bd := ah.r0
 have hr12s : _ * 8 ≤ _ := bd.2
 refine st (cL Tryz.call84 (D_try  oe hKN (ah.mv3) (hd) (hinv) (hml)) ?_)
 rintro _ w15 ⟨rfl, V, be⟩
 refine st (mV (.tuple #[.bool ((yi d L e).1), .agg #[Iv ((yi d L e).2.1), Iv ((yi d L e).2.2)]]) (st (zF (vs := [.bool ((yi d L e).1), .agg #[Iv ((yi d L e).2.1), Iv ((yi d L e).2.2)]]) (i := 0) (v := .bool ((yi d L e).1)) rfl rfl (st (zF (vs := [.bool ((yi d L e).1), .agg #[Iv ((yi d L e).2.1), Iv ((yi d L e).2.2)]]) (i := 1) (v := .agg #[Iv ((yi d L e).2.1), Iv ((yi d L e).2.2)]) rfl rfl (st (zI Tryz.zeroValue61 ?_)))))))
 intro w19 T bf
 let bB := Blk T #[Iv ((yi d L e).2.1), Iv ((yi d L e).2.2)] 61
 have ai := be.new bf
 refine st (aS (.bool ((yi d L e).1)) (stn (zA (v := .agg #[Iv ((yi d L e).2.1), Iv ((yi d L e).2.2)]) (c' := #[Iv ((yi d L e).2.1), Iv ((yi d L e).2.2)]) rT rfl rfl (ai.b0) (yf ⟨rfl, rfl, trivial⟩) yqc rfl ?_)))
 intro bC bg
 refine zb (za ?_)
 have hek : Ent.Ok (yg d L e) := ⟨oe, V.1, V.2⟩
 obtain ⟨q, s, t, A, B, bh⟩ := ViewO.open ((ai.pt0 bg).mv1)
 let bE := yH xy E2 B (yr (L ++ [yg d L e]))
 let bD := yH xB E1 A (zr d (L ++ [yg d L e]))
 have H : Sep G W ((BkV b q s t A B) :: (RwT q d.types) :: (RwP s d.projs) :: (RwN t L) :: bD :: bE :: bB :: bo :: bF :: Rs) bC := bh
 have bi := H.r1
 have hr31s : _ * 24 ≤ _ := bi.2
 have bj := H.r2
 have hr32s : _ * 40 ≤ _ := bj.2
 have bk := H.r3
 have hr33s : _ * 120 ≤ _ := bk.2
 refine WD4 ((fun TT F C D I => WF [fun vals z => Sep G W (F :: C :: D :: I :: TT) z, fun vals z => ∃ (g : Value), (vals 6 = (.agg (e.cells g).toArray : Value)) ∧ Sep G W ((RwI g e.deps) :: F :: C :: D :: I :: TT) z, fun vals z => ∃ (g : Value) (l : Nat), (vals 6 = (.agg (e.cells g).toArray : Value)) ∧ (vals 10 = ((Iy l 1 1) : Value)) ∧ Sep G W ((Blk l ((yg d L e).cells g).toArray 66) :: (RwI g e.deps) :: F :: C :: D :: I :: TT) z, fun vals z => ∃ (g : Value) (l : Nat) (j : Value), (vals 6 = (.agg (e.cells g).toArray : Value)) ∧ (vals 10 = ((Iy l 1 1) : Value)) ∧ (vals 11 = (j : Value)) ∧ Sep G W ((RwN j (L ++ [(yg d L e)])) :: F :: C :: D :: TT) z, fun vals z => ∃ (g : Value) (l : Nat) (j : Value), (vals 6 = (.agg (e.cells g).toArray : Value)) ∧ (vals 10 = ((Iy l 1 1) : Value)) ∧ (vals 11 = (j : Value)) ∧ Sep G W ((RwN j (L ++ [(yg d L e)])) :: (BkV b q s j A B) :: C :: D :: TT) z]) (bD :: bE :: bB :: bo :: bF :: Rs) (BkV b q s t A B) (RwT q d.types) (RwP s d.projs) (RwN t L)) (AF [Vl 0 (Ix b 0), Vl 1 (Ix b 0), Vl 2 (Ix b 0), Vl 3 (Ix b 2), Vl 4 (t), Vl 5 (.agg (e.cells de0).toArray), fun _ => True, Vl 7 (.bool ((yi d L e).1)), Vl 8 (.agg #[Iv ((yi d L e).2.1), Iv ((yi d L e).2.2)]), fun vals => ∀ (g : Value), vals 6 = (.agg (e.cells g).toArray : Value) → vals 9 = (.agg ((yg d L e).cells g).toArray : Value), fun _ => True, fun _ => True, Vl 12 (Ix b 0), Vl 13 (Ix b 2), fun _ => True]) [[], [], [1], [1, 2], [1, 2, 3], [], [5], [], [], [5, 6, 7, 8], [5, 6, 7, 8, 9], [1, 2, 3, 4, 5, 6, 7, 8, 9, 10], (rg 12), (rg 13), (rg 14)] [6, 10, 11, 14] [(0, 3), (0, 2), (0, 2), (0, 2), (0, 2), (0, 0), (0, 0), (0, 1), (0, 1), (1, 1), (1, 1), (2, 2), (3, 3), (3, 3), (3, 3)] H ⟨fun _ _ _ _ _ _ _ => obl rfl (mV (Ix b 0) dR), fun _ _ _ _ _ _ _ => obl rfl (mV (Ix b 0) dR), fun _ _ _ _ _ _ ao => obl rfl (zl (b := b) (o := 0) (ao 1 dc) dR), fun _ _ _ _ _ _ ap => obl rfl (WU (ap 2 dc) dR), ?_, ob1 0 fun _ _ (aq : Sep _ _ _ _) _ => obl rfl (zg (k := 10) nT lT rfl rfl (CellsAt.all (aq.b8)) dR), ?_, fun _ _ _ _ _ _ _ => obl rfl (mV (.bool ((yi d L e).1)) dR), ?_, ?_, ?_, ?_, fun _ _ _ _ _ _ ar => obl rfl (zl (b := b) (o := 0) (ar 0 dc) dR), fun _ _ _ _ _ _ au => obl rfl (WU (au 12 dc) dR), ?_, trivial⟩ ?_ (hlocA := xt ⟨dA, dA, dA, dA, dA, dA, dT, dA, dA, fun vals p u h => fun g E => (u 9 (.inl rfl)).trans (h g ((u 6 (.inr dc)).symm.trans E)), dT, dT, dA, dA, dT, trivial⟩)
 refine fun J _ _ bl bm K N => ?_
 have hkk : J = 0 ∨ J = 1 ∨ J = 2 := by have h1 : 0 ≤ J := bl; have h2 : J ≤ 2 := bm; omega
 rcases hkk with rfl | rfl | rfl
 have av : Sep _ _ _ _ := K
 exact obl rfl (lD t uT (N 3 dc) (zd (av.b0) rfl) dR)
 obtain ⟨g, m, aw⟩ := K
 exact obl rfl (lD t uT (N 3 dc) (zd (aw.b1) rfl) dR)
 obtain ⟨g, l, m, y, ax⟩ := K
 exact obl rfl (lD t uT (N 3 dc) (zd (ax.b2) rfl) dR)
 refine ob1 0 fun vals _ (bn : Sep _ _ _ _) bp => (obl rfl ((zL (f := 67) (vals := [.agg (e.cells de0).toArray]) (cap := []) rfl (yN ⟨(bp 5 dc), trivial⟩) tT (YV (e := e) hde0 oe bn) ?_)))
 rintro _ w84 ⟨g, rfl, aj⟩
 have bq := aj.r0
 have hr86s : _ * 8 ≤ _ := bq.2
 exact fun p u n => ⟨(Exists.intro g (And.intro u aj)), trivial⟩
 refine fun O _ _ br bs X _ => ?_
 have hkk : O = 0 ∨ O = 1 := by have h1 : 0 ≤ O := br; have h2 : O ≤ 1 := bs; omega
 rcases hkk with rfl | rfl
 have ay : Sep _ _ _ _ := X
 exact obl rfl (zg (k := 2) vT rT rfl rfl (CellsAt.all (ay.b6)) dR)
 obtain ⟨g, m, az⟩ := X
 exact obl rfl (zg (k := 2) vT rT rfl rfl (CellsAt.all (az.b7)) dR)
 refine ob1 1 fun _ _ aA Y => ?_
 obtain ⟨g, m, hS229⟩ := aA
 refine obl rfl (zQ (parts' := [(0, .agg (e.cells g).toArray), (1, .bool ((yi d L e).1)), (2, .agg #[Iv ((yi d L e).2.1), Iv ((yi d L e).2.2)])]) (v := .agg ((yg d L e).cells g).toArray) (xH ⟨rfl, m, rfl, (Y 7 (by decide)), rfl, (Y 8 (by decide)), trivial⟩) yqg (fun p u n => ⟨rfl, ?_⟩))
 intro v83q E
 rw [n 6 (by decide)] at E; cases m.symm.trans E
 exact u
 refine ob1 1 fun vals _ aB aC => ?_
 obtain ⟨g, m, aD⟩ := aB
 have bt : vals 9 = (.agg ((yg d L e).cells g).toArray : Value) := aC 9 dc g m
 refine obl rfl ((zD (k := 13) (parts' := [(0, .agg ((yg d L e).cells g).toArray)]) (c := ((yg d L e).cells g).toArray) wT sT vR dc (xH ⟨rfl, bt, trivial⟩) kr ?_))
 intro w120 l aE
 exact fun p u n => ⟨(Exists.intro g (Exists.intro l (And.intro ((n 6 dc).trans m) (And.intro u (aD.new aE))))), trivial⟩
 refine ob1 2 fun _ _ aF aG => ?_
 obtain ⟨g, l, m, y, Z⟩ := aF
 refine obl rfl ?_
 have ak := Z.b0
 refine (yv (src := own) (bytes := 120) (x1 := (yg d L e)) (Z.s11_fbcdeghijk) el39 (aG 4 (by decide)) y ak (fun _ _ hN => ⟨_, rfl, RowE.soft hN, hek⟩) yqb rfl ?_)
 intro j w131 aa
 have aH := aa.r0
 have hr136s : _ * 120 ≤ _ := aH.2
 exact fun p u n => ⟨(Exists.intro g (Exists.intro l (Exists.intro j (And.intro ((n 6 dc).trans m) (And.intro ((n 10 dc).trans y) (And.intro u aa)))))), trivial⟩
 refine ob1 3 fun _ _ aI aJ => ?_
 obtain ⟨g, l, j, m, y, P, Q⟩ := aI
 refine obl rfl ?_
 have ab := Q.r0
 have hr162s : _ * 120 ≤ _ := ab.2
 refine (yq (v := j) (c := [q, s, t, .map (some A), .map (some B)]) (c' := [q, s, j, .map (some A), .map (some B)]) Tryz.sizeOf39 (aJ 13 dc) P (Q.b1) ab.1.one rfl rfl ?_)
 intro w160 aK
 exact fun p u n => ⟨(Exists.intro g (Exists.intro l (Exists.intro j (And.intro ((n 6 dc).trans m) (And.intro ((n 10 dc).trans y) (And.intro ((n 11 dc).trans P) (Q.pt1 aK))))))), trivial⟩
 intro vals w246 aL hA248
 obtain ⟨g, l, j, m, y, P, aM⟩ := aL
 refine zW (kv := [(0, Ix b 0), (1, .agg (e.cells de0).toArray), (3, Ix b2 0), (4, Ix U 0), (8, Ix b 0), (9, .agg (e.cells de0).toArray), (10, .agg (e.cells v9).toArray), (11, .tuple #[.bool ((yi d L e).1), .agg #[Iv ((yi d L e).2.1), Iv ((yi d L e).2.2)]]), (7, .tuple #[.bool ((yi d L e).1), .agg #[Iv ((yi d L e).2.1), Iv ((yi d L e).2.2)]]), (12, .bool ((yi d L e).1)), (13, .agg #[Iv ((yi d L e).2.1), Iv ((yi d L e).2.2)]), (6, Ix T 0), (5, .bool ((yi d L e).1))]) sEv (fun ρw246 => (zb (za ?_)))
 refine WD4 ((fun TT F C D I al am an bc => WF [fun vals z => Sep G W (F :: C :: D :: I :: al :: am :: an :: bc :: TT) z, fun vals z => ∃ (a : Value), (vals 1 = (.agg (e.cells a).toArray : Value)) ∧ Sep G W ((RwI a e.deps) :: F :: C :: D :: I :: al :: am :: an :: bc :: TT) z, fun vals z => ∃ (a : Value), (vals 1 = (.agg (e.cells a).toArray : Value)) ∧ Sep G W ((RwI a e.deps) :: F :: C :: D :: I :: al :: am :: an :: (Blk U ((yg d L e).cells a).toArray 66) :: TT) z]) (bF :: Rs) (RwN j (L ++ [(yg d L e)])) (BkV b q s j A B) (RwT q d.types) (RwP s d.projs) bD bE bB bo) (AF [Vl 0 (.agg (e.cells de0).toArray), fun _ => True, Vl 2 (.bool ((yi d L e).1)), Vl 3 (.agg #[Iv ((yi d L e).2.1), Iv ((yi d L e).2.2)]), fun vals => ∀ (a : Value), vals 1 = (.agg (e.cells a).toArray : Value) → vals 4 = (.agg ((yg d L e).cells a).toArray : Value), fun _ => True]) [[], [0], [], [], (rg 4), (rg 5)] [1, 5] [(0, 0), (0, 0), (0, 1), (0, 1), (1, 1), (1, 1)] aM ⟨ob1 0 fun _ _ (aN : Sep _ _ _ _) _ => obl rfl (zg (k := 10) nT lT rfl rfl (CellsAt.all (aN.b8)) dR), ?_, fun _ _ _ _ _ _ _ => obl rfl (mV (.bool ((yi d L e).1)) dR), ?_, ?_, ?_, trivial⟩ ?_ (hlocA := xt ⟨dA, dT, dA, dA, fun vals p u h => fun a E => (u 4 (.inl rfl)).trans (h a ((u 1 (.inr dc)).symm.trans E)), dT, trivial⟩)
 refine ob1 0 fun vals _ (aO : Sep _ _ _ _) aP => (obl rfl ((zL (f := 67) (vals := [.agg (e.cells de0).toArray]) (cap := []) rfl (yN ⟨(aP 0 dc), trivial⟩) tT (YV (e := e) hde0 oe aO) ?_)))
 rintro _ w266 ⟨a, rfl, ac⟩
 have aQ := ac.r0
 have hr268s : _ * 8 ≤ _ := aQ.2
 exact fun p u n => ⟨(Exists.intro a (And.intro u ac)), trivial⟩
 refine fun R _ _ bu bv ad _ => ?_
 have hkk : R = 0 ∨ R = 1 := by have h1 : 0 ≤ R := bu; have h2 : R ≤ 1 := bv; omega
 rcases hkk with rfl | rfl
 have aR : Sep _ _ _ _ := ad
 exact obl rfl (zg (k := 2) vT rT rfl rfl (CellsAt.all (aR.b6)) dR)
 obtain ⟨a, x, aT⟩ := ad
 exact obl rfl (zg (k := 2) vT rT rfl rfl (CellsAt.all (aT.b7)) dR)
 refine ob1 1 fun _ _ aU ae => ?_
 obtain ⟨a, x, hS331⟩ := aU
 refine obl rfl (zQ (parts' := [(0, .agg (e.cells a).toArray), (1, .bool ((yi d L e).1)), (2, .agg #[Iv ((yi d L e).2.1), Iv ((yi d L e).2.2)])]) (v := .agg ((yg d L e).cells a).toArray) (xH ⟨rfl, x, rfl, (ae 2 (by decide)), rfl, (ae 3 (by decide)), trivial⟩) yqg (fun p u n => ⟨rfl, ?_⟩))
 intro v265q E
 rw [n 1 (by decide)] at E; cases x.symm.trans E
 exact u
 refine ob1 1 fun vals _ aV aW => ?_
 obtain ⟨a, x, S⟩ := aV
 have bw : vals 4 = (.agg ((yg d L e).cells a).toArray : Value) := aW 4 dc a x
 refine obl rfl ?_
 have af := S.r0
 have hr302s : _ * 8 ≤ _ := af.2
 refine (zA (v := .agg ((yg d L e).cells a).toArray) (c' := ((yg d L e).cells a).toArray) sT rfl bw (S.b8) (yf ⟨rfl, rfl, rfl, af.1.one, rfl, rfl, rfl, rfl, rfl, rfl, rfl, rfl, rfl, trivial⟩) yqc rfl ?_)
 intro w300 aX
 exact fun p u n => ⟨(Exists.intro a (And.intro ((n 1 dc).trans x) (S.pt8 aX))), trivial⟩
 intro vals bx aY hA336
 obtain ⟨a, x, ag⟩ := aY
 refine zW (kv := [(0, Ix b 0), (1, .agg (e.cells de0).toArray), (3, Ix b2 0), (4, Ix U 0), (8, Ix b 0), (9, .agg (e.cells de0).toArray), (10, .agg (e.cells v9).toArray), (11, .tuple #[.bool ((yi d L e).1), .agg #[Iv ((yi d L e).2.1), Iv ((yi d L e).2.2)]]), (7, .tuple #[.bool ((yi d L e).1), .agg #[Iv ((yi d L e).2.1), Iv ((yi d L e).2.2)]]), (12, .bool ((yi d L e).1)), (13, .agg #[Iv ((yi d L e).2.1), Iv ((yi d L e).2.2)]), (6, Ix T 0), (5, .bool ((yi d L e).1))]) sEv (fun ρw334 => (zb (zm (VO (b := U) Tryz.results63 Tryz.isAgg66 sT rfl rfl (CellsAt.all (ag.b8)) ?_))))
 have aZ : Sep _ _ ((ViewO b d (L ++ [yg d L e]) (L ++ [yg d L e])) :: _) _ := ViewO.close (d := d) (L := (L ++ [yg d L e])) (M := (L ++ [yg d L e])) (ag.s10_cdebfgahij)
 have ba : Sep G W ((ViewO b d (L ++ [yg d L e]) (L ++ [yg d L e])) :: (RwI a e.deps) :: Rs) bx := aZ.sel 5 [0, 1] (Nat.le_add_left _ _) rfl rfl
 refine ⟨a, rfl, ba⟩

theorem UB {G : Nat → Prop} {W w : World} {Rs : List HP} {b : Nat} {d : Dcl} {L : List Ent} {ty : Int} (hty : InR ty) {no : Int} (hno : InR no) (hS0 : Sep G W ((ViewO b d L L) :: Rs) w) : Ret Tryz.prog 52 [.pointer (some ⟨b, 0, none⟩), .int .i64 (ty), .int .i64 (no)] w (fun r w' => ∃ (v : Value), r = (.tuple #[.agg ((xI d (ty, no) L).cells v).toArray, .bool ((zr d L (ty, no)).isSome)] : Value) ∧ Sep G W ((ViewO b d L L) :: (RowE (α := Cel) own 107 v (stL d (ty, no) L)) :: Rs) w') := by
 refine zk (args := [Ix b 0, Iv ty, Iv no]) Tryz.func52 rfl rfl ?_
 refine za (R0 fun _ => st (zI qR ?_))
 intro U b2 V
 refine st (aS (.bool false) (zb (za (R0 fun _ => ?_))))
 obtain ⟨f, g, h, m, j, B⟩ := ViewO.open ((hS0.new V).mv1)
 let aa := Blk b #[f, g, h, .map (some m), .map (some j)] 119
 have c : Sep G W (aa :: (RowE (α := Typ) own 84 f d.types) :: (RowE (α := Prj) own 46 g d.projs) :: (RowE (α := Ent) own 66 h L) :: (yH xB E1 m (zr d L)) :: (yH xy E2 j (yr L)) :: (Blk b2 #[Iv 0, (Iz)] 57) :: Rs) U := B
 have C := c.r1
 have hr12s : _ * 24 ≤ _ := C.2
 have D := c.r2
 have hr13s : _ * 40 ≤ _ := D.2
 have E := c.r3
 have hr14s : _ * 120 ≤ _ := E.2
 obtain ⟨vs16, A, F⟩ := (c.mv4).mapoTake Vs (ty, no)
 obtain ⟨a, rfl, H⟩ := XU (F.mv1) A
 have e : Sep G W ((RowE (α := Cel) own 107 a (stL d (ty, no) L)) :: (xZ xB E1 Vs m (zr d L) (ty, no) (.agg #[Iw (ym (ty, no) L), a])) :: aa :: (RowE (α := Typ) own 84 f d.types) :: (RowE (α := Prj) own 46 g d.projs) :: (RowE (α := Ent) own 66 h L) :: (yH xy E2 j (yr L)) :: (Blk b2 #[Iv 0, (Iz)] 57) :: Rs) U := H
 have p := e.r0
 have hr22s : _ * 32 ≤ _ := p.2
 have hve9 := UH (ty, no) L
 refine st (mV (Ix b 0) (st (zl (b := b) (o := 0) rfl (st (WC rfl (st (lD (.map (some m)) Tryz.isAgg116 rfl (zd (e.b2) rfl) (st (mV (Iv ty) (st (mV (Iv no) (st (zQ (parts' := [(0, Iv ty), (1, Iv no)]) (v := .agg #[Iv ty, Iv no]) rfl yqf (st (Zu e (i := 1) rfl K2 Tryz.underlying116 qR rfl rfl (st (mV (.tuple #[.agg #[Iw (ym (ty, no) L), a], .bool (((zr d L) (ty, no)).isSome)]) (st (zF (vs := [.agg #[Iw (ym (ty, no) L), a], .bool (((zr d L) (ty, no)).isSome)]) (i := 0) (v := .agg #[Iw (ym (ty, no) L), a]) rfl rfl ?_)))))))))))))))))))
 refine st (zF (vs := [.agg #[Iw (ym (ty, no) L), a], .bool (((zr d L) (ty, no)).isSome)]) (i := 1) (v := .bool (((zr d L) (ty, no)).isSome)) rfl rfl (st (zI qR ?_)))
 intro w25 X I
 have q := e.new I
 refine stn (zA (v := .agg #[Iw (ym (ty, no) L), a]) (c' := #[Iw (ym (ty, no) L), a]) kR rfl rfl (q.b0) (yf ⟨rfl, p.1.one, trivial⟩) yqc rfl ?_)
 intro w27 J
 have K : Sta.Ok (⟨((ym (ty, no) L : Nat) : Int), stL d (ty, no) L⟩ : Sta) := ⟨(show InR (((ym (ty, no) L : Nat) : Int)) from om)⟩
 have s := q.pt0 J
 refine st (aS (.bool (((zr d L) (ty, no)).isSome)) (zb (za (R0 fun _ => st (zg (k := 2) wR kR rfl rfl (CellsAt.all (s.b0)) ?_)))))
 obtain ⟨G32, N, hB35, O, P⟩ := (s.mv1).lend
 have n := RowE.rd N
 have hrd38s : _ * 32 ≤ _ := n.small
 refine st (cL Tryz.call79 (KT (x := (⟨((ym (ty, no) L : Nat) : Int), stL d (ty, no) L⟩ : Sta)) n K O) ?_)
 rintro _ w40 ⟨l, rfl, t⟩
 let Z := ((⟨((ym (ty, no) L : Nat) : Int), stL d (ty, no) L⟩ : Sta).cells l)
 have u := t.r0
 have hr42s : _ * 32 ≤ _ := u.2
 have y := P _ _ t
 refine st (mV (.bool (((zr d L) (ty, no)).isSome)) (stn (zA (v := .agg Z.toArray) (c' := Z.toArray) kR rfl rfl (y.b9) (yf ⟨rfl, u.1.one, trivial⟩) yqc rfl ?_)))
 intro Y Q
 have z := y.pt9 Q
 refine st (aS (.bool (((zr d L) (ty, no)).isSome)) (zb (zm (XX (b := b2) Tryz.results52 wR kR rfl rfl (CellsAt.all (z.b9)) (show _ = (.bool (((zr d L) (ty, no)).isSome) : Value) from rfl) ?_))))
 have R : Sep _ _ ((Yy E1 (.agg #[Iw (ym (ty, no) L), a]) ((zr d L) (ty, no))) :: _) _ := Ug z
 have S : Sep G W ((yH xB E1 m (zr d L)) :: (RowE (α := Cel) own 107 l ((⟨((ym (ty, no) L : Nat) : Int), stL d (ty, no) L⟩ : Sta).cls)) :: (Blk X ((⟨((ym (ty, no) L : Nat) : Int), stL d (ty, no) L⟩ : Sta).cells a).toArray 57) :: aa :: (RowE (α := Typ) own 84 f d.types) :: (RowE (α := Prj) own 46 g d.projs) :: (RowE (α := Ent) own 66 h L) :: (yH xy E2 j (yr L)) :: (Blk b2 Z.toArray 57) :: Rs) Y := (R.mv3).mapoPut
 have T : Sep _ _ ((ViewO b d L L) :: _) _ := ViewO.close (d := d) (L := L) (M := L) (S.s9_defgahbci)
 refine ⟨l, rfl, (T.s4_ab)⟩

theorem QA {G : Nat → Prop} {W w : World} {Rs : List HP} {b : Nat} {d : Dcl} {L : List Ent} (hS0 : Sep G W ((ViewO b d L L) :: Rs) w) : Ret Tryz.prog 43 [.pointer (some ⟨b, 0, none⟩)] w (fun r w' => ∃ (v : Value), r = (v : Value) ∧ Sep G W ((ViewO b d L L) :: (RowE (α := Ent) own 66 v L) :: Rs) w') := by
 refine zk (args := [Ix b 0]) Tryz.func43 rfl rfl ?_
 refine za (R0 fun _ => st (aS (Iz) (zb (za ?_))))
 obtain ⟨g, h, m, D, E, ac⟩ := ViewO.open hS0
 have q : Sep G W ((Blk b #[g, h, m, .map (some D), .map (some E)] 119) :: (RowE (α := Typ) own 84 g d.types) :: (RowE (α := Prj) own 46 h d.projs) :: (RowE (α := Ent) own 66 m L) :: (yH xB E1 D (zr d L)) :: (yH xy E2 E (yr L)) :: Rs) w := ac
 have ad := q.r1
 have hr7s : _ * 24 ≤ _ := ad.2
 have ae := q.r2
 have hr8s : _ * 40 ≤ _ := ae.2
 have af := q.r3
 have hr9s : _ * 120 ≤ _ := af.2
 obtain ⟨F, R, hB14, H, S⟩ := (q.mv3).lend
 have B := RowE.rd R
 have hrd17s : _ * 120 ≤ _ := B.small
 refine R0 fun _ => st (mV (Ix b 0) (st (zl (b := b) (o := 0) rfl (st (WU rfl (st (lD m uT rfl (zd (H.b0) rfl) (st (cL Tryz.call66 (VQ (l := L) (vl := m) B H) ?_)))))))))
 rintro c w19 ⟨_, rfl, I⟩
 have J := I.r0
 have hr21s : _ * 120 ≤ _ := J.2
 refine st (aS c (zb (za (za (R0 fun _ => st (mV c (st (zG (n := L.length) wT rfl J.1 (st (mV (Iv 0) (zb (zp ?_))))))))))))
 have T := I.toMix
 refine zZ (fun mq σ wq => ∃ (k : Nat) (ρ : Env), mq = L.length - k ∧ σ = ya ρ [(0, Ix b 0), (2, (Iz)), (3, c), (11, Iw L.length), (12, Iw k)] ∧ (k ≤ L.length) ∧ Sep F w ((RowE (α := Bool × Ent) (mix (α := Ent) F w) 66 c (xG k L)) :: (Blk b #[g, h, m, .map (some D), .map (some E)] 119) :: (RowE (α := Typ) own 84 g d.types) :: (RowE (α := Prj) own 46 h d.projs) :: (yH xB E1 D (zr d L)) :: (yH xy E2 E (yr L)) :: Rs) wq) ⟨0, _, rfl, sSf, Nat.zero_le _, T⟩ ?_
 rintro m24 σ25 ag ⟨k, ρl1, rfl, rfl, hkk, s⟩
 have z := s.r0
 rw [xd] at z
 refine za (R0 fun _ => st (zJ (k := .i64) (a := ((k : Nat) : Int)) (b := ((L.length : Nat) : Int)) rfl rfl (zb (za ?_))))
 cases t : decide (((k : Nat) : Int) < ((L.length : Nat) : Int))
 have t := fD t
 have K : Sep F w ((RowE (α := Ent) own 66 c L) :: (Blk b #[g, h, m, .map (some D), .map (some E)] 119) :: (RowE (α := Typ) own 84 g d.types) :: (RowE (α := Prj) own 46 h d.projs) :: (yH xB E1 D (zr d L)) :: (yH xy E2 E (yr L)) :: Rs) ag := s.ofMix om
 have U := K.r0
 have hr30s : _ * 120 ≤ _ := U.2
 refine zf rfl (zY (zR (za (R0 fun _ => st (mV c (st (aS c (zb (zm (zT Tryz.results43 (show _ = (c : Value) from rfl) ?_))))))))))
 have V := S _ _ K
 have X : Sep _ _ ((ViewO b d L L) :: _) _ := ViewO.close (d := d) (L := L) (M := L) (V.s7_cdeafgb)
 refine ⟨c, rfl, X⟩
 have t := tD t
 refine zi rfl (zn (za (zp (za (R0 fun _ => st (mV (Iw k) (st (aS (Iw k) (zb (R0 fun _ => st (mV c (st (mV (Iw k) (st (mV c (st (mV (Iw k) ?_)))))))))))))))))
 have Y : k < L.length := bo
 refine st (ze (k := 13) (i := k) wT sT rfl z.1 rfl Y (st (VN rfl ?_)))
 have N : k < L.length := bo
 obtain ⟨_, C, x, rfl, p, y⟩ := s.mixAt (i := 0) (j := k) rfl (Nat.le_refl _) N
 rw [← zw default N] at C p y
 refine st (zg (k := 10) (cs := [Iv ((L.getD k default).ev.origin), Iv ((L.getD k default).ev.seq), Iv ((L.getD k default).ev.lam), x, Iv ((L.getD k default).ev.typ), Iv ((L.getD k default).ev.agg), Iv ((L.getD k default).ev.field), Iv ((L.getD k default).ev.op), Iv ((L.getD k default).ev.arg), Iv ((L.getD k default).ev.key)]) nT lT rfl rfl (CellsAt.sub C 0 (cs2 := [Iv ((L.getD k default).ev.origin), Iv ((L.getD k default).ev.seq), Iv ((L.getD k default).ev.lam), x, Iv ((L.getD k default).ev.typ), Iv ((L.getD k default).ev.agg), Iv ((L.getD k default).ev.field), Iv ((L.getD k default).ev.op), Iv ((L.getD k default).ev.arg), Iv ((L.getD k default).ev.key)]) rfl) (st (cL tT (YV (e := ((L.getD k default).ev)) p y.ev s) ?_)))
 rintro _ w38 ⟨Q, rfl, O⟩
 have P := O.r0
 have hr40s : _ * 8 ≤ _ := P.2
 have Z : k < L.length := bo
 refine st (ze (k := 13) (i := k) wT sT rfl z.1 rfl Z (st (VN rfl ?_)))
 have A : k < L.length := bo
 refine stn (ZG (α := Ent) (j := k) (o := 0) (u := .agg (((L.getD k default).ev).cells Q).toArray) (us := ((L.getD k default).ev).cells Q) (O.mv1) lT A rfl rfl rfl (Nat.le_of_ble_eq_true rfl) (yf ⟨rfl, rfl, rfl, P.1.one, rfl, rfl, rfl, rfl, rfl, rfl, trivial⟩) (fun w f cs0 hr hN => (by obtain ⟨d, rfl, hd, hok⟩ := hr; rw [zw default A]; exact ⟨_, rfl, (by rw [← zw default A]; exact RowE.soft hN), hok⟩)) ?_)
 intro w42 aa
 refine zb (R0 fun _ => ?_)
 have ab : InR ((k + 1 : Nat) : Int) := bo
 refine st (zO (r := ((k + 1 : Nat) : Int)) (k := .i64) (a := ((k : Nat) : Int)) (b := 1) rfl rfl (by rw [show (((k : Nat) : Int) + 1 : Int) = ((k + 1 : Nat) : Int) from bo]; exact zy ab) (st (mV (Iw (k + 1)) (zb ?_))))
 exact ⟨_, by omega, k + 1, _, rfl, sSf, by omega, aa⟩

theorem zaa {G : Nat → Prop} {W w : World} {Rs : List HP} {d : Dcl} {dd0 : Value} (hdd0 : RdS W G dd0 d.types) {dd1 : Value} (hdd1 : RdS W G dd1 d.projs) (od : d.Ok) {vl : Value} {l : List Ev} (hl : RdS W G vl l) (hKN : RdS W G (.slice (some ⟨0, 0, none⟩) 6 6) kindsL) (hS0 : Sep G W Rs w) (hd : DclOk d) (hfew : l.length ≤ 1000000) : Ret Tryz.prog 82 [.agg (d.cells dd0 dd1).toArray, vl] w (fun r w' => ∃ (b : Nat), r = (.pointer (some ⟨b, 0, none⟩) : Value) ∧ Sep G W ((ViewO b d (zu d l) (zu d l)) :: Rs) w') := by
 have hdd0s : _ * 24 ≤ _ := hdd0.small
 have hdd1s : _ * 40 ≤ _ := hdd1.small
 have hls : _ * 96 ≤ _ := hl.small
 have hKNs : _ * 8 ≤ _ := hKN.small
 refine zk (args := [.agg (d.cells dd0 dd1).toArray, vl]) Tryz.func82 rfl rfl ?_
 refine za (R0 fun _ => st (zS (v := .agg (d.cells dd0 dd1).toArray) rfl ?_))
 intro w3 b2 F
 have y := hS0.new F
 refine st (aS (.pointer none) (zb (za (R0 fun _ => st (zg (k := 2) rR sR rfl rfl (CellsAt.all (y.b0)) (st (cL Tryz.call38 (KC (d := d) hdd0 hdd1 od y) ?_)))))))
 rintro _ w6 ⟨g, rfl, H⟩
 refine st (aS (Ix g 0) (zb (za (za (R0 fun _ => st (mV vl (st (zG (n := l.length) oT rfl hl.sl (st (mV (Iv 0) (zb (zp (zZ (fun mq σ I => ∃ (k : Nat) (ρ : Env), mq = l.length - k ∧ σ = ya ρ [(2, Ix b2 0), (5, Ix g 0), (10, vl), (11, Iw l.length), (12, Iw k)] ∧ (k ≤ l.length) ∧ Sep G W ((ViewO g d (zu d (l.take k)) (zu d (l.take k))) :: (Blk b2 (d.cells dd0 dd1).toArray 25) :: Rs) I) ⟨0, _, rfl, sSf, Nat.zero_le _, H⟩ ?_)))))))))))))
 rintro m9 σ10 w8 ⟨k, ρl1, rfl, rfl, hkk, h⟩
 refine za (R0 fun _ => st (zJ (k := .i64) (a := ((k : Nat) : Int)) (b := ((l.length : Nat) : Int)) rfl rfl (zb (za ?_))))
 cases f : decide (((k : Nat) : Int) < ((l.length : Nat) : Int))
 have f := fD f
 refine zf rfl (zY (zR (za (R0 fun _ => st (mV (Ix g 0) (st (aS (Ix g 0) (zb (zm (zT Tryz.results82 (show _ = (Ix g 0 : Value) from rfl) ?_))))))))))
 have j := h.s2_a
 have hkn : k = l.length := by omega
 rw [hkn, List.take_length] at j
 refine ⟨g, rfl, j⟩
 have f := tD f
 refine zi rfl (zn (za (zp (za (R0 fun _ => ?_)))))
 have z : k < l.length := bo
 refine st (ze (k := 10) (i := k) oT lT rfl hl.sl rfl z ?_)
 have m : k < l.length := bo
 obtain ⟨u, c, o⟩ := hl.evD m
 have hsm17 : ((l.getD k default).deps).length * 8 ≤ 140737488355328 := c.small
 have x := h.cells u (hl.foot (ne_of_lt m))
 refine st (zg (k := 10) nT lT rfl rfl x (st (zI kY ?_)))
 intro w21 b20 A
 have p := h.new A
 refine stn (zA (v := .agg ((l.getD k default).cells (zC W (sb vl) (so vl + k * 10 + 3))).toArray) (c' := ((l.getD k default).cells (zC W (sb vl) (so vl + k * 10 + 3))).toArray) lT rfl rfl (p.b0) (yf ⟨rfl, rfl, rfl, c.sl.one, rfl, rfl, rfl, rfl, rfl, rfl, trivial⟩) yqc rfl ?_)
 intro w23 B
 have q := p.pt0 B
 refine zb (R0 fun _ => st (mV (Ix g 0) (st (zg (k := 10) nT lT rfl rfl (CellsAt.all (q.b0)) (st (cL Tryz.call63 (Kt (e := (l.getD k default)) c o hKN (q.mv1) (hd) ((Inv.run hd _)) ((JT hfew))) ?_))))))
 rintro _ w28 ⟨v27, rfl, s⟩
 have C := s.r1
 have hr30s : _ * 8 ≤ _ := C.2
 refine zb (R0 fun _ => ?_)
 have D : InR ((k + 1 : Nat) : Int) := bo
 refine st (zO (r := ((k + 1 : Nat) : Int)) (k := .i64) (a := ((k : Nat) : Int)) (b := 1) rfl rfl (by rw [show (((k : Nat) : Int) + 1 : Int) = ((k + 1 : Nat) : Int) from bo]; exact zy D) (st (mV (Iw (k + 1)) (zb ?_))))
 have t := s.s4_ad
 have E : (zu d (l.take (k + 1))) = ((zu d (l.take k)) ++ [yg d (zu d (l.take k)) (l.getD k default)]) := (UW om)
 rw [← E] at t
 exact ⟨_, by omega, k + 1, _, rfl, sSf, by omega, t⟩

def UJ (e : Ev) (n : Int) : Prop := (0 ≤ e.origin ∧ e.origin < n ∧ (e.deps.length : Int) = n ∧ 1 ≤ e.seq) ∧ ∀ i, i < e.deps.length → 0 ≤ e.deps.getD i 0
theorem QP {α : Type} [Inhabited α] {P : α → Prop} {l : List α} {x : α} (h : ∀ i, i < l.length → P (l.getD i default)) (hx : P x) : ∀ i, i < (l ++ [x]).length → P ((l ++ [x]).getD i default) := by
  intro i hi
  rcases Nat.lt_or_ge i l.length with h1 | h1
  · have e : (l ++ [x]).getD i default = l.getD i default := by rw [List.getD_eq_getElem?_getD, List.getD_eq_getElem?_getD, List.getElem?_append_left h1]
    rw [e]; exact h i h1
  · have e : i = l.length := by rw [List.length_append, List.length_singleton] at hi; omega
    subst e
    rw [List.getD_eq_getElem?_getD, List.getElem?_append_right (Nat.le_refl _), Nat.sub_self]; exact hx
theorem JX {G : Nat → Prop} {W w : World} {Rs : List HP} {d : Dcl} {dd0 : Value} (hdd0 : RdS W G dd0 d.types) {dd1 : Value} (hdd1 : RdS W G dd1 d.projs) (od : d.Ok) (hS0 : Sep G W Rs w) : Ret Tryz.prog 8 [.agg (d.cells dd0 dd1).toArray] w (fun r w' => ∃ (b : Bool), r = (.bool b : Value) ∧ (b = true → DclOk d ∧ YD d) ∧ Sep G W Rs w') := by
 have hdd0s : _ * 24 ≤ _ := hdd0.small
 have hdd1s : _ * 40 ≤ _ := hdd1.small
 refine zk (args := [.agg (d.cells dd0 dd1).toArray]) Tryz.func8 rfl rfl ?_
 refine za (R0 fun _ => st (zS (v := .agg (d.cells dd0 dd1).toArray) rfl ?_))
 intro w3 b2 m
 have h := hS0.new m
 refine st (aS (.bool false) (zb (za (zH kr (st (zg (k := 2) rR sR rfl rfl (CellsAt.all (h.b0)) (st (cL Tryz.call32 (zaf (d := d) hdd0 hdd1 od h) ?_))))))))
 rintro _ w6 ⟨i, rfl, f⟩
 refine st (yK (a := i) rfl (st (mV (.bool (!i)) (stc (V := .agg (d.cells dd0 dd1).toArray) rfl rfl (fun n => ?_) ?_))))
 have o := n
 try simp only [zh] at o
 exact zg (k := 2) rR sR rfl rfl (CellsAt.all (f.b0)) ⟨rfl, rfl⟩
 cases e : !i
 have hg10r := e
 try simp only [zh] at e
 refine stx rfl rfl (stx rfl rfl (st (yd (v := .bool false) rfl rfl (st (aS (.bool false) (zb (zm (zT lY (show _ = (.bool false : Value) from rfl) ?_))))))))
 refine ⟨false, rfl, ?_, (f.s1_)⟩
 intro j
 cases j
 try simp only [zh] at e
 refine sty rfl rfl (cL Tryz.call33 (JF (d := d) hdd0 hdd1 od f) ?_)
 rintro _ w15 ⟨c, rfl, hin13, g, l⟩
 refine sty rfl rfl (zX (k := .i64) (a := c) (b := 0) rfl rfl (st (yn (v := .bool (decide (c = 0))) rfl rfl (st (aS (.bool (decide (c = 0))) (zb (zm (zT lY (show _ = (.bool (decide (c = 0)) : Value) from rfl) ?_))))))))
 refine ⟨decide (c = 0), rfl, ?_, (l.s1_)⟩
 intro j
 exact g (by simpa using j)

theorem KW {G : Nat → Prop} {W w : World} {Rs : List HP} {e : Ev} {de0 : Value} (hde0 : RdS W G de0 e.deps) (oe : e.Ok) {n : Int} (hn : InR n) (hS0 : Sep G W Rs w) : Ret Tryz.prog 60 [.agg (e.cells de0).toArray, .int .i64 (n)] w (fun r w' => ∃ (c : Int), r = (.int .i64 (c) : Value) ∧ (InR c) ∧ (c = 0 → UJ e n) ∧ Sep G W Rs w') := by
 have hde0s : _ * 8 ≤ _ := hde0.small
 refine zk (args := [.agg (e.cells de0).toArray, Iv n]) Tryz.func60 rfl rfl ?_
 refine za (R0 fun _ => st (zS (v := .agg (e.cells de0).toArray) rfl ?_))
 intro w3 b2 bi
 have f := hS0.new bi
 refine st (aS (Iv 0) (zb (za (za (zH kr (st (xu rfl (st (WD rfl (st (lD (Iv (e.origin)) kT rfl (zd (f.b0) rfl) (st (zJ (k := .i64) (a := e.origin) (b := 0) rfl rfl (st (mV (.bool (decide (e.origin < 0))) (stc (V := Ix b2 0) rfl rfl (fun bj => ?_) ?_))))))))))))))))
 have hl6 := fD bj
 exact xu rfl ⟨rfl, rfl⟩
 refine stc (V := Ix b2 0) rfl rfl (fun aE => ?_) ?_
 have hl8 := fD aE
 exact WD (if_pos aE) ⟨rfl, rfl⟩
 refine stc (V := Iv (e.origin)) rfl rfl (fun aF => ?_) ?_
 have hl10 := fD aF
 exact lD (Iv (e.origin)) kT (if_pos aF) (zd (f.b0) rfl) ⟨rfl, rfl⟩
 refine stc (V := Iv n) rfl rfl (fun aG => ?_) ?_
 have hl12 := fD aG
 exact mV (Iv n) ⟨rfl, rfl⟩
 refine stc (V := .bool (decide (n ≤ e.origin))) rfl rfl (fun p => ?_) ?_
 have hl14 := fD p
 exact xS (k := .i64) (a := e.origin) (b := n) (if_pos p) (if_pos p) ⟨rfl, rfl⟩
 refine st (zx (b := decide (e.origin < 0)) (b' := decide (n ≤ e.origin)) rfl (fun hbp => (if_pos hbp)) (st (mV (.bool ((decide (e.origin < 0)) || (decide (n ≤ e.origin)))) (stc (V := Ix b2 0) rfl rfl (fun aH => ?_) ?_))))
 have aI := aH
 try simp only [zh] at aI
 exact xu rfl ⟨rfl, rfl⟩
 refine stc (V := Ix b2 1) rfl rfl (fun K => ?_) ?_
 have aJ := K
 try simp only [zh] at aJ
 exact Ur (if_pos K) ⟨rfl, rfl⟩
 refine stc (V := Iv (e.seq)) rfl rfl (fun L => ?_) ?_
 have aK := L
 try simp only [zh] at aK
 exact lD (Iv (e.seq)) kT (if_pos L) (zd (f.b0) rfl) ⟨rfl, rfl⟩
 refine stc (V := .bool (decide (e.seq < 1))) rfl rfl (fun M => ?_) ?_
 have aL := M
 try simp only [zh] at aL
 exact zJ (k := .i64) (a := e.seq) (b := 1) (if_pos M) rfl ⟨rfl, rfl⟩
 refine st (zx (b := (decide (e.origin < 0)) || (decide (n ≤ e.origin))) (b' := decide (e.seq < 1)) rfl (fun hbp => (if_pos hbp)) (st (mV (.bool (((decide (e.origin < 0)) || (decide (n ≤ e.origin))) || (decide (e.seq < 1)))) (stc (V := Ix b2 2) rfl rfl (fun aM => ?_) ?_))))
 have aN := aM
 try simp only [zh] at aN
 exact zaH rfl ⟨rfl, rfl⟩
 refine stc (V := Iv (e.lam)) rfl rfl (fun N => ?_) ?_
 have aO := N
 try simp only [zh] at aO
 exact lD (Iv (e.lam)) kT (if_pos N) (zd (f.b0) rfl) ⟨rfl, rfl⟩
 refine stc (V := .bool (decide (e.lam < 1))) rfl rfl (fun O => ?_) ?_
 have aP := O
 try simp only [zh] at aP
 exact zJ (k := .i64) (a := e.lam) (b := 1) (if_pos O) rfl ⟨rfl, rfl⟩
 refine st (zx (b := ((decide (e.origin < 0)) || (decide (n ≤ e.origin))) || (decide (e.seq < 1))) (b' := decide (e.lam < 1)) rfl (fun hbp => (if_pos hbp)) (st (mV (.bool ((((decide (e.origin < 0)) || (decide (n ≤ e.origin))) || (decide (e.seq < 1))) || (decide (e.lam < 1)))) (stc (V := Ix b2 5) rfl rfl (fun aQ => ?_) ?_))))
 have aR := aQ
 try simp only [zh] at aR
 exact WO rfl ⟨rfl, rfl⟩
 refine stc (V := Iv (e.agg)) rfl rfl (fun P => ?_) ?_
 have aT := P
 try simp only [zh] at aT
 exact lD (Iv (e.agg)) kT (if_pos P) (zd (f.b0) rfl) ⟨rfl, rfl⟩
 refine stc (V := .bool (decide (e.agg < 0))) rfl rfl (fun Q => ?_) ?_
 have aU := Q
 try simp only [zh] at aU
 exact zJ (k := .i64) (a := e.agg) (b := 0) (if_pos Q) rfl ⟨rfl, rfl⟩
 refine st (zx (b := (((decide (e.origin < 0)) || (decide (n ≤ e.origin))) || (decide (e.seq < 1))) || (decide (e.lam < 1))) (b' := decide (e.agg < 0)) rfl (fun hbp => (if_pos hbp)) (st (mV (.bool (((((decide (e.origin < 0)) || (decide (n ≤ e.origin))) || (decide (e.seq < 1))) || (decide (e.lam < 1))) || (decide (e.agg < 0)))) (stc (V := Ix b2 9) rfl rfl (fun aV => ?_) ?_))))
 have aW := aV
 try simp only [zh] at aW
 exact zar rfl ⟨rfl, rfl⟩
 refine stc (V := Iv (e.key)) rfl rfl (fun R => ?_) ?_
 have aX := R
 try simp only [zh] at aX
 exact lD (Iv (e.key)) kT (if_pos R) (zd (f.b0) rfl) ⟨rfl, rfl⟩
 refine stc (V := .bool (decide (e.key < 0))) rfl rfl (fun S => ?_) ?_
 have aY := S
 try simp only [zh] at aY
 exact zJ (k := .i64) (a := e.key) (b := 0) (if_pos S) rfl ⟨rfl, rfl⟩
 refine st (zx (b := ((((decide (e.origin < 0)) || (decide (n ≤ e.origin))) || (decide (e.seq < 1))) || (decide (e.lam < 1))) || (decide (e.agg < 0))) (b' := decide (e.key < 0)) rfl (fun hbp => (if_pos hbp)) (st (mV (.bool ((((((decide (e.origin < 0)) || (decide (n ≤ e.origin))) || (decide (e.seq < 1))) || (decide (e.lam < 1))) || (decide (e.agg < 0))) || (decide (e.key < 0)))) (stc (V := Ix b2 3) rfl rfl (fun aZ => ?_) ?_))))
 have ba := aZ
 try simp only [zh] at ba
 exact Ze rfl ⟨rfl, rfl⟩
 refine stc (V := de0) rfl rfl (fun T => ?_) ?_
 have bb := T
 try simp only [zh] at bb
 exact lD de0 lR (if_pos T) (zd (f.b0) rfl) ⟨rfl, rfl⟩
 refine stc (V := Iw e.deps.length) rfl rfl (fun U => ?_) ?_
 have bc := U
 try simp only [zh] at bc
 exact zG (n := e.deps.length) mR (if_pos U) hde0.sl ⟨rfl, rfl⟩
 refine stc (V := Iv n) rfl rfl (fun bd => ?_) ?_
 have be := bd
 try simp only [zh] at be
 exact mV (Iv n) ⟨rfl, rfl⟩
 refine stc (V := .bool (!decide (((e.deps.length : Nat) : Int) = n))) rfl rfl (fun q => ?_) ?_
 have bf := q
 try simp only [zh] at bf
 exact yw (k := .i64) (a := ((e.deps.length : Nat) : Int)) (b := n) (if_pos q) (if_pos q) ⟨rfl, rfl⟩
 refine st (zx (b := (((((decide (e.origin < 0)) || (decide (n ≤ e.origin))) || (decide (e.seq < 1))) || (decide (e.lam < 1))) || (decide (e.agg < 0))) || (decide (e.key < 0))) (b' := !decide (((e.deps.length : Nat) : Int) = n)) rfl (fun hbp => (if_pos hbp)) (zb ?_))
 cases X : ((((((decide (e.origin < 0)) || (decide (n ≤ e.origin))) || (decide (e.seq < 1))) || (decide (e.lam < 1))) || (decide (e.agg < 0))) || (decide (e.key < 0))) || (!decide (((e.deps.length : Nat) : Int) = n))
 try simp only [zh] at X
 refine zf rfl (zn (za (za (R0 fun _ => st (aS (Iv 0) (zb (zp (zZ (fun mq σ wq => ∃ (k : Nat) (ρ : Env), mq = e.deps.length - k ∧ σ = ya ρ [(1, Iv n), (2, Ix b2 0), (5, Iw k)] ∧ (k ≤ e.deps.length) ∧ (∀ i, i < k → 0 ≤ e.deps.getD i 0) ∧ Sep G W ((Blk b2 (e.cells de0).toArray 64) :: Rs) wq) ⟨0, _, rfl, sSf, Nat.zero_le _, (fun i h => absurd h (Nat.not_lt_zero i)), f⟩ ?_))))))))
 rintro m53 σ54 w52 ⟨k, ρl1, rfl, rfl, hkk, hm, m⟩
 refine za (za (R0 fun _ => st (mV (Iw k) (st (mV (Iv n) (st (zJ (k := .i64) (a := ((k : Nat) : Int)) (b := n) rfl rfl (zb ?_))))))))
 cases o : decide (((k : Nat) : Int) < n)
 have o := fD o
 refine zf rfl (zY (zR (za (za ?_))))
 refine WD4 (WF [fun vals wq => Sep G W ((Blk b2 (e.cells de0).toArray 64) :: Rs) wq]) (AF [Vl 0 (Ix b2 3), Vl 1 (de0), Vl 2 (Ix b2 0), Vl 3 (Ix b2 0), Vl 4 (Iv (e.origin)), Vl 5 (Ix (sb de0) (so de0 + e.origin.toNat * 1)), Vl 6 (Iv ((e.deps.getD e.origin.toNat 0))), Vl 7 (Ix b2 0), Vl 8 (Ix b2 1), Vl 9 (Iv (e.seq)), Vl 10 (Iv (e.seq - 1)), Vl 11 (.bool (!decide ((e.deps.getD e.origin.toNat 0) = (e.seq - 1))))]) [[], [0], [], [2], [2, 3], (rg 5), (rg 6), [], [7], [7, 8], [7, 8, 9], (rg 11)] [] [(0, 0), (0, 0), (0, 0), (0, 0), (0, 0), (0, 0), (0, 0), (0, 0), (0, 0), (0, 0), (0, 0), (0, 0)] m ⟨fun _ _ _ _ _ _ _ => obl rfl (Ze rfl dR), ob1 0 fun _ _ (ac : Sep _ _ _ _) ad => obl rfl (lD de0 lR (ad 0 dc) (zd (ac.b0) rfl) dR), fun _ _ _ _ _ _ _ => obl rfl (xu rfl dR), fun _ _ _ _ _ _ ae => obl rfl (WD (ae 2 dc) dR), ob1 0 fun _ _ (af : Sep _ _ _ _) ag => obl rfl (lD (Iv (e.origin)) kT (ag 3 dc) (zd (af.b0) rfl) dR), ?_, ?_, fun _ _ _ _ _ _ _ => obl rfl (xu rfl dR), fun _ _ _ _ _ _ ah => obl rfl (Ur (ah 7 dc) dR), ob1 0 fun _ _ (ai : Sep _ _ _ _) aj => obl rfl (lD (Iv (e.seq)) kT (aj 8 dc) (zd (ai.b0) rfl) dR), ?_, ob1 0 fun _ _ _ s => obl rfl (yw (k := .i64) (a := (e.deps.getD e.origin.toNat 0)) (b := e.seq - 1) (s 6 dc) (s 10 dc) dR), trivial⟩ ?_
 refine ob1 0 fun _ _ _ t => (obl rfl ?_)
 have hi196 : e.origin.toNat < e.deps.length := bo
 exact zN (k := 1) (i := e.origin) mR mT (t 1 dc) hde0.sl (t 4 dc) ⟨by omega, by omega⟩ dR
 refine ob1 0 fun _ _ (ak : Sep _ _ _ _) al => (obl rfl ?_)
 have u : e.origin.toNat < e.deps.length := bo
 obtain ⟨Y, hxe205⟩ := hde0.intD u
 have Z := ak.cells Y (hde0.foot (ne_of_lt u))
 exact lD (Iv ((e.deps.getD e.origin.toNat 0))) kT (al 5 dc) (Z.get (j := 0) rfl) dR
 refine ob1 0 fun _ _ _ am => (obl rfl ?_)
 have an : InR (e.seq - 1) := (by have J := oe.seq; omega)
 exact ZU (r := e.seq - 1) (k := .i64) (a := e.seq) (b := 1) (am 9 (by decide)) rfl (by rw [show (e.seq - 1 : Int) = e.seq - 1 from rfl]; exact zy an) dR
 intro vals w247 ao ap
 have d : Sep _ _ _ _ := ao
 have bh := ap 11 dc
 refine zW (kv := [(1, Iv n), (2, Ix b2 0), (5, Iw k), (45, Iw k), (46, Iv n), (47, .bool false), (67, .bool (!decide ((e.deps.getD e.origin.toNat 0) = (e.seq - 1))))]) ⟨rfl, rfl, rfl, rfl, rfl, rfl, (by exact bh), trivial⟩ (fun ρw247 => (zb ?_))
 cases g : !decide ((e.deps.getD e.origin.toNat 0) = (e.seq - 1))
 have g := yZ g
 refine zf rfl (zn (za (za (zH kr (st (Ye rfl (st (lD (Iv (e.op)) kT rfl (zd (d.b0) rfl) (st (zJ (k := .i64) (a := e.op) (b := 1) rfl rfl (st (mV (.bool (decide (e.op < 1))) (stc (V := Ix b2 7) rfl rfl (fun aq => ?_) ?_)))))))))))))
 have hl254 := fD aq
 exact Ye rfl ⟨rfl, rfl⟩
 refine stc (V := Iv (e.op)) rfl rfl (fun x => ?_) ?_
 have hl256 := fD x
 exact lD (Iv (e.op)) kT (if_pos x) (zd (d.b0) rfl) ⟨rfl, rfl⟩
 refine stc (V := .bool (decide (5 < e.op))) rfl rfl (fun y => ?_) ?_
 have hl258 := fD y
 exact yS (k := .i64) (a := e.op) (b := 5) (if_pos y) rfl ⟨rfl, rfl⟩
 refine st (zx (b := decide (e.op < 1)) (b' := decide (5 < e.op)) rfl (fun hbp => (if_pos hbp)) (zb ?_))
 cases z : (decide (e.op < 1)) || (decide (5 < e.op))
 try simp only [zh] at z
 refine zf rfl (zn (za (za (zH kr (st (ZY rfl (st (lD (Iv (e.typ)) kT rfl (zd (d.b0) rfl) (st (zJ (k := .i64) (a := e.typ) (b := 0) rfl rfl (st (mV (.bool (decide (e.typ < 0))) (stc (V := Ix b2 4) rfl rfl (fun ar => ?_) ?_)))))))))))))
 have hl261 := fD ar
 exact ZY rfl ⟨rfl, rfl⟩
 refine stc (V := Iv (e.typ)) rfl rfl (fun A => ?_) ?_
 have hl263 := fD A
 exact lD (Iv (e.typ)) kT (if_pos A) (zd (d.b0) rfl) ⟨rfl, rfl⟩
 refine stc (V := .bool (decide (7 < e.typ))) rfl rfl (fun B => ?_) ?_
 have hl265 := fD B
 exact yS (k := .i64) (a := e.typ) (b := 7) (if_pos B) rfl ⟨rfl, rfl⟩
 refine st (zx (b := decide (e.typ < 0)) (b' := decide (7 < e.typ)) rfl (fun hbp => (if_pos hbp)) (st (mV (.bool ((decide (e.typ < 0)) || (decide (7 < e.typ)))) (stc (V := Ix b2 6) rfl rfl (fun au => ?_) ?_))))
 have av := au
 try simp only [zh] at av
 exact Zr rfl ⟨rfl, rfl⟩
 refine stc (V := Iv (e.field)) rfl rfl (fun C => ?_) ?_
 have aw := C
 try simp only [zh] at aw
 exact lD (Iv (e.field)) kT (if_pos C) (zd (d.b0) rfl) ⟨rfl, rfl⟩
 refine stc (V := .bool (decide (e.field < 0))) rfl rfl (fun D => ?_) ?_
 have ax := D
 try simp only [zh] at ax
 exact zJ (k := .i64) (a := e.field) (b := 0) (if_pos D) rfl ⟨rfl, rfl⟩
 refine st (zx (b := (decide (e.typ < 0)) || (decide (7 < e.typ))) (b' := decide (e.field < 0)) rfl (fun hbp => (if_pos hbp)) (st (mV (.bool (((decide (e.typ < 0)) || (decide (7 < e.typ))) || (decide (e.field < 0)))) (stc (V := Ix b2 6) rfl rfl (fun ay => ?_) ?_))))
 have az := ay
 try simp only [zh] at az
 exact Zr rfl ⟨rfl, rfl⟩
 refine stc (V := Iv (e.field)) rfl rfl (fun E => ?_) ?_
 have aA := E
 try simp only [zh] at aA
 exact lD (Iv (e.field)) kT (if_pos E) (zd (d.b0) rfl) ⟨rfl, rfl⟩
 refine stc (V := .bool (decide (7 < e.field))) rfl rfl (fun F => ?_) ?_
 have aB := F
 try simp only [zh] at aB
 exact yS (k := .i64) (a := e.field) (b := 7) (if_pos F) rfl ⟨rfl, rfl⟩
 refine st (zx (b := ((decide (e.typ < 0)) || (decide (7 < e.typ))) || (decide (e.field < 0))) (b' := decide (7 < e.field)) rfl (fun hbp => (if_pos hbp)) (zb ?_))
 cases H : (((decide (e.typ < 0)) || (decide (7 < e.typ))) || (decide (e.field < 0))) || (decide (7 < e.field))
 try simp only [zh] at H
 refine zf rfl (zn (za (R0 fun _ => st (aS (Iv 0) (zb (zm (zT qT (show _ = (Iv 0 : Value) from rfl) ?_)))))))
 refine ⟨0, rfl, ?_, ?_, (d.s1_)⟩
 decide
 intro J
 exact ⟨⟨by omega, by omega, by omega, by omega⟩, fun i hi => hm i om⟩
 try simp only [zh] at H
 refine zi rfl (za (R0 fun _ => st (aS (Iv 8) (zb (zm (zT qT (show _ = (Iv 8 : Value) from rfl) ?_))))))
 refine ⟨8, rfl, ?_, ?_, (d.s1_)⟩
 decide
 intro J
 omega
 try simp only [zh] at z
 refine zi rfl (za (R0 fun _ => st (aS (Iv 2) (zb (zm (zT qT (show _ = (Iv 2 : Value) from rfl) ?_))))))
 refine ⟨2, rfl, ?_, ?_, (d.s1_)⟩
 decide
 intro J
 omega
 have g := zV g
 refine zi rfl (za (R0 fun _ => st (aS (Iv 9) (zb (zm (zT qT (show _ = (Iv 9 : Value) from rfl) ?_))))))
 refine ⟨9, rfl, ?_, ?_, (d.s1_)⟩
 decide
 intro J
 omega
 have o := tD o
 refine zi rfl (zn (za (zp (za (R0 fun _ => st (Ze rfl (st (lD de0 lR rfl (zd (m.b0) rfl) (st (mV (Iw k) ?_))))))))))
 have aC : k < e.deps.length := bo
 refine st (ze (k := 1) (i := k) mR mT rfl hde0.sl rfl aC ?_)
 have I : k < e.deps.length := bo
 obtain ⟨aa, hxe284⟩ := hde0.intD I
 have ab := m.cells aa (hde0.foot (ne_of_lt I))
 refine st (lD (Iv ((e.deps.getD k 0))) kT rfl (ab.get (j := 0) rfl) (st (zJ (k := .i64) (a := (e.deps.getD k 0)) (b := 0) rfl rfl (zb ?_))))
 cases l : decide ((e.deps.getD k 0) < 0)
 have l := fD l
 refine zf rfl (zn (R0 fun _ => st (mV (Iw k) ?_)))
 have aD : InR ((k + 1 : Nat) : Int) := bo
 refine st (zO (r := ((k + 1 : Nat) : Int)) (k := .i64) (a := ((k : Nat) : Int)) (b := 1) rfl rfl (by rw [show (((k : Nat) : Int) + 1 : Int) = ((k + 1 : Nat) : Int) from bo]; exact zy aD) (st (aS (Iw (k + 1)) (zb ?_))))
 exact ⟨_, by omega, k + 1, _, rfl, sSf, by omega, (xe hm om), m⟩
 have l := tD l
 refine zi rfl (za (R0 fun _ => st (aS (Iv 1) (zb (zm (zT qT (show _ = (Iv 1 : Value) from rfl) ?_))))))
 refine ⟨1, rfl, ?_, ?_, (m.s1_)⟩
 decide
 intro J
 omega
 try simp only [zh] at X
 refine zi rfl (za (R0 fun _ => st (aS (Iv 1) (zb (zm (zT qT (show _ = (Iv 1 : Value) from rfl) ?_))))))
 refine ⟨1, rfl, ?_, ?_, (f.s1_)⟩
 decide
 intro J
 omega

theorem QE {G : Nat → Prop} {W w : World} {Rs : List HP} {n : Int} (hn : InR n) {vl : Value} {l : List Ev} (hl : RdS W G vl l) (hS0 : Sep G W Rs w) : Ret Tryz.prog 34 [.int .i64 (n), vl] w (fun r w' => ∃ (v : Value) (l2 : List Ev), r = (v : Value) ∧ (l2.length ≤ 60) ∧ (∀ i, i < l2.length → UJ (l2.getD i default) n) ∧ Sep G W ((RowE (α := Ev) (shr G W) 64 v l2) :: Rs) w') := by
 have hls : _ * 96 ≤ _ := hl.small
 refine zk (args := [Iv n, vl]) Tryz.func34 rfl rfl ?_
 refine za (R0 fun _ => st (aS (Iz) (zb (za (R0 fun _ => st (aS (Iz) (zb (za (za (R0 fun _ => st (aS (Iv 0) (zb (zp ?_)))))))))))))
 have aa : Sep G W ((RowE (α := Ev) (shr G W) 64 (Iz) ([] : List Ev)) :: Rs) w := hS0.rowNil (shr G W) 64
 refine zZ (fun mq σ wq => ∃ (k : Nat) (vo : Value) (l2 : List Ev) (ρ : Env), mq = l.length - k ∧ σ = ya ρ [(0, Iv n), (1, vl), (5, vo), (6, Iw k)] ∧ (k ≤ l.length) ∧ (l2.length ≤ 60) ∧ (∀ i, i < l2.length → UJ (l2.getD i default) n) ∧ Sep G W ((RowE (α := Ev) (shr G W) 64 vo l2) :: Rs) wq) ⟨0, (Iz), [], _, rfl, sSf, Nat.zero_le _, Nat.zero_le _, (fun i h => absurd h (Nat.not_lt_zero i)), aa⟩ ?_
 rintro m3 σ4 w2 ⟨k, vo, l2, ρl1, rfl, rfl, hkk, u, hft, g⟩
 let ac := zC W (sb vl) (so vl + k * 10 + 3)
 have J := g.r0
 have hr6s : _ * 96 ≤ _ := J.2
 refine za (za (zH kr (st (mV (Iw k) (st (mV vl (st (zG (n := l.length) oT rfl hl.sl (st (zJ (k := .i64) (a := ((k : Nat) : Int)) (b := ((l.length : Nat) : Int)) rfl rfl (st (mV (.bool (decide (((k : Nat) : Int) < ((l.length : Nat) : Int)))) (stc (V := vo) rfl rfl (fun ab => ?_) ?_)))))))))))))
 have hl8 := tD ab
 exact mV vo ⟨rfl, rfl⟩
 refine stc (V := Iw l2.length) rfl rfl (fun K => ?_) ?_
 have hl10 := tD K
 exact zG (n := l2.length) oT (if_pos K) J.1 ⟨rfl, rfl⟩
 refine stc (V := .bool (decide (((l2.length : Nat) : Int) < 60))) rfl rfl (fun x => ?_) ?_
 have hl12 := tD x
 exact zJ (k := .i64) (a := ((l2.length : Nat) : Int)) (b := 60) (if_pos x) rfl ⟨rfl, rfl⟩
 refine st (zB (b := decide (((k : Nat) : Int) < ((l.length : Nat) : Int))) (b' := decide (((l2.length : Nat) : Int) < 60)) rfl (fun hbp => (if_pos hbp)) (zb ?_))
 cases y : (decide (((k : Nat) : Int) < ((l.length : Nat) : Int))) && (decide (((l2.length : Nat) : Int) < 60))
 try simp only [zh] at y
 refine zf rfl (zY (zR (za (R0 fun _ => st (mV vo (st (aS vo (zb (zm (zT Tryz.results34 (show _ = (vo : Value) from rfl) ?_))))))))))
 refine ⟨vo, l2, rfl, ?_, ?_, g⟩
 exact u
 exact hft
 try simp only [zh] at y
 refine zi rfl (zn (za (zp (za (zH kr (st (mV vl (st (mV (Iw k) ?_)))))))))
 have M : k < l.length := bo
 refine st (ze (k := 10) (i := k) oT lT rfl hl.sl rfl M (st (Ze rfl ?_)))
 have m : k < l.length := bo
 obtain ⟨o, d, q⟩ := hl.evD m
 have hsm17 : ((l.getD k default).deps).length * 8 ≤ 140737488355328 := d.small
 have D := g.cells o (hl.foot (ne_of_lt m))
 refine st (lD ac lR rfl (D.get (j := 3) rfl) (st (zG (n := ((l.getD k default).deps).length) mR rfl d.sl (st (mV (Iv n) (st (zX (k := .i64) (a := ((((l.getD k default).deps).length : Nat) : Int)) (b := n) rfl rfl (st (mV (.bool (decide (((((l.getD k default).deps).length : Nat) : Int) = n))) (stc (V := vl) rfl rfl (fun N => ?_) ?_))))))))))
 have hl20 := tD N
 exact mV vl ⟨rfl, rfl⟩
 refine stc (V := Iw k) rfl rfl (fun O => ?_) ?_
 have hl22 := tD O
 exact mV (Iw k) ⟨rfl, rfl⟩
 refine stc (V := Ix (sb vl) (so vl + k * 10)) rfl rfl (fun s => ?_) ?_
 have hl24 := tD s
 have Q : k < l.length := bo
 exact ze (k := 10) (i := k) oT lT (if_pos s) hl.sl (if_pos s) Q ⟨rfl, rfl⟩
 refine stc (V := .agg ((l.getD k default).cells ac).toArray) rfl rfl (fun z => ?_) ?_
 have hl27 := tD z
 have E := g.cells o (hl.foot (ne_of_lt m))
 exact zg (k := 10) nT lT rfl (if_pos z) E ⟨rfl, rfl⟩
 refine stc (V := Iv n) rfl rfl (fun R => ?_) ?_
 have hl31 := tD R
 exact mV (Iv n) ⟨rfl, rfl⟩
 cases f : decide (((((l.getD k default).deps).length : Nat) : Int) = n)
 have hg32r := f
 have f := fD f
 refine stx rfl rfl (stx rfl rfl (st (yd (v := .bool false) rfl rfl (zb (zf rfl (zn (R0 fun _ => st (mV (Iw k) ?_))))))))
 have S : InR ((k + 1 : Nat) : Int) := bo
 refine st (zO (r := ((k + 1 : Nat) : Int)) (k := .i64) (a := ((k : Nat) : Int)) (b := 1) rfl rfl (by rw [show (((k : Nat) : Int) + 1 : Int) = ((k + 1 : Nat) : Int) from bo]; exact zy S) (st (aS (Iw (k + 1)) (zb ?_))))
 exact ⟨_, by omega, k + 1, vo, l2, _, rfl, sSf, by omega, u, hft, g⟩
 have f := tD f
 refine sty rfl rfl (cL Tryz.call60 (KW (e := (l.getD k default)) (n := n) d q hn g) ?_)
 rintro _ w37 ⟨A, rfl, hc935, F, t⟩
 refine sty rfl rfl (zX (k := .i64) (a := A) (b := 0) rfl rfl (st (yn (v := .bool (decide (A = 0))) rfl rfl (zb ?_))))
 cases p : decide (A = 0)
 have p := fD p
 refine zf rfl (zn (R0 fun _ => st (mV (Iw k) ?_)))
 have T : InR ((k + 1 : Nat) : Int) := bo
 refine st (zO (r := ((k + 1 : Nat) : Int)) (k := .i64) (a := ((k : Nat) : Int)) (b := 1) rfl rfl (by rw [show (((k : Nat) : Int) + 1 : Int) = ((k + 1 : Nat) : Int) from bo]; exact zy T) (st (aS (Iw (k + 1)) (zb ?_))))
 exact ⟨_, by omega, k + 1, vo, l2, _, rfl, sSf, by omega, u, hft, t⟩
 have p := tD p
 refine zi rfl (R0 fun _ => st (mV vo (st (mV vl (st (mV (Iw k) ?_))))))
 have U : k < l.length := bo
 refine st (ze (k := 10) (i := k) oT lT rfl hl.sl rfl U ?_)
 have H := t.cells o (hl.foot (ne_of_lt m))
 refine st (zg (k := 10) nT lT rfl rfl H (st (zD (k := 10) (parts' := [(0, .agg ((l.getD k default).cells ac).toArray)]) (c := ((l.getD k default).cells ac).toArray) oT lT kY dc rfl kr ?_)))
 intro w46 b45 X
 have B := t.new X
 have I := B.b0
 refine st (yv (src := (shr G W)) (bytes := 96) (x1 := (l.getD k default)) ((B.s2_b).emp1) Ql rfl rfl I (fun _ _ _ => (show _ from ⟨_, rfl, d, q⟩)) yqb rfl ?_)
 intro L w48 C
 have Y := C.r0
 have hr54s : _ * 96 ≤ _ := Y.2
 refine st (aS L (zb (R0 fun _ => st (mV (Iw k) ?_))))
 have Z : InR ((k + 1 : Nat) : Int) := bo
 refine st (zO (r := ((k + 1 : Nat) : Int)) (k := .i64) (a := ((k : Nat) : Int)) (b := 1) rfl rfl (by rw [show (((k : Nat) : Int) + 1 : Int) = ((k + 1 : Nat) : Int) from bo]; exact zy Z) (st (aS (Iw (k + 1)) (zb ?_))))
 exact ⟨_, by omega, k + 1, L, (l2 ++ [(l.getD k default)]), _, rfl, sSf, by omega, (by rw [List.length_append, List.length_singleton]; omega), (QP (P := fun e => UJ e n) hft (F (by omega))), C⟩

theorem zay : Elem Tryz.prog 41 44 3 24 := ⟨Tryz.underlying41, _, _, rfl, rfl, rfl, rfl, rfl⟩
def zo (p : Prj) (e : Ev) (reg : Int) : Option Int := if p.pgroup = 1 then some e.agg else if p.pgroup = 2 then some e.arg else if p.pgroup = 3 then some reg else none
theorem YU {p : Prj} {e : Ev} {reg : Int} (oe : e.Ok) (hr : InR reg) : InR ((zo p e reg).getD 0) := by
  unfold zo
  split
  · exact oe.agg
  · split
    · exact oe.arg
    · split
      · exact hr
      · decide
def yT (p : Prj) (r : Row) (arg : Int) : Int := if p.pmake = 1 then r.count else if p.pmake = 2 then IntKind.i64.wrap (r.value + arg) else if p.pmake = 5 ∨ (r.count = 1 ∧ (p.pmake = 3 ∨ p.pmake = 4)) then arg else if p.pmake = 3 then min r.value arg else if p.pmake = 4 then max r.value arg else 0
def Zl (p : Prj) (L : List (Int × Row)) (e : Ent) (reg : Int) : List (Int × Row) := match zo p e.ev reg with
  | none => L
  | some g => if e.void = true ∨ e.ev.typ ≠ p.ptyp ∨ e.ev.field ≠ p.pfield then L else
      yU L g ⟨g, yT p ⟨g, ((zK L g).getD ⟨0, 0, 0⟩).value, ((zK L g).getD ⟨0, 0, 0⟩).count + 1⟩ e.ev.arg, ((zK L g).getD ⟨0, 0, 0⟩).count + 1⟩

theorem xz {d : Option Tmp} {ty : TypeId} {pos : String} {af : Array Edge} {g : Option (Nat × Bool)} {σ : Env} {w : World} {K : Value → World → Prop} {x : Operand} {b o : Nat} (hx : ev σ x = .pointer (some ⟨b, o, none⟩)) (h : K (.pointer (some ⟨b, o + 0, none⟩)) w) : opV Tryz.prog ⟨d, .fieldAddr 122 x 0, ty, pos, af, g⟩ σ w K := zj mY rfl rfl (fun w => ⟨4, nY w⟩) hx h
theorem zaO {d : Option Tmp} {ty : TypeId} {pos : String} {af : Array Edge} {g : Option (Nat × Bool)} {σ : Env} {w : World} {K : Value → World → Prop} {x : Operand} {b o : Nat} (hx : ev σ x = .pointer (some ⟨b, o, none⟩)) (h : K (.pointer (some ⟨b, o + 2, none⟩)) w) : opV Tryz.prog ⟨d, .fieldAddr 46 x 2, ty, pos, af, g⟩ σ w K := zj nR rfl rfl (fun w => ⟨0, mT w⟩) hx h
theorem QJ {d : Option Tmp} {ty : TypeId} {pos : String} {af : Array Edge} {g : Option (Nat × Bool)} {σ : Env} {w : World} {K : Value → World → Prop} {x : Operand} {b o : Nat} (hx : ev σ x = .pointer (some ⟨b, o, none⟩)) (h : K (.pointer (some ⟨b, o + 8, none⟩)) w) : opV Tryz.prog ⟨d, .fieldAddr 64 x 7, ty, pos, af, g⟩ σ w K := zj oR rfl rfl (fun w => ⟨0, mT w⟩) hx h
theorem zaR {d : Option Tmp} {ty : TypeId} {pos : String} {af : Array Edge} {g : Option (Nat × Bool)} {σ : Env} {w : World} {K : Value → World → Prop} {x : Operand} {b o : Nat} (hx : ev σ x = .pointer (some ⟨b, o, none⟩)) (h : K (.pointer (some ⟨b, o + 5, none⟩)) w) : opV Tryz.prog ⟨d, .fieldAddr 64 x 4, ty, pos, af, g⟩ σ w K := zj oR rfl rfl (fun w => ⟨0, mT w⟩) hx h
theorem JC {w : World} {a m : Nat} {p : Prj} (ha : w.heap[a]? = some (.cells #[.int .i64 (p.ptyp), .int .i64 (p.pfield), .int .i64 (p.pgroup), .int .i64 (p.pby), .int .i64 (p.pmake), .map (some m)] 122)) (op : p.Ok) {Fe : Nat → Prop} {e : Ev} {de0 : Value} (he0 : RdS w Fe de0 e.deps) (oe : e.Ok) {reg : Int} (hreg : InR reg) : Ret Tryz.prog 85 [.pointer (some ⟨a, 0, none⟩), .agg (e.cells de0).toArray, .int .i64 (reg)] w (fun r w' => r = .tuple #[.int .i64 ((zo p e reg).getD 0), .bool (zo p e reg).isSome] ∧ Ext w w') := by
  have he0s : _ * 8 ≤ _ := he0.small
  refine zk (args := [.pointer (some ⟨a, 0, none⟩), .agg (e.cells de0).toArray, .int .i64 (reg)]) Tryz.func85 rfl rfl ?_
  refine za ?_
  refine zt (by kernel_rfl) (fun _ => ?_)
  refine st (zS (v := .agg (e.cells de0).toArray) rfl (fun w1 b2 hn1 => ?_))
  have hb3 : w1.heap[b2]? = some (.cells (e.cells de0).toArray 64) := hn1.at_
  have hs4 := hn1.size; have hs4e := hn1.eq
  refine st (zv (v := .int .i64 (0)) rfl ?_)
  refine st (zv (v := .bool false) rfl ?_)
  refine zb ?_
  refine za ?_
  refine za ?_
  refine zt (by kernel_rfl) (fun _ => ?_)
  refine st (zq (v := .pointer (some ⟨a, 0, none⟩)) rfl ?_)
  refine st (zl (b := a) (o := 0) rfl ?_)
  refine st (xz rfl ?_)
  refine st (zaO rfl ?_)
  have h5 := hn1.ext.keep ha (fun h => h)
  refine st (ye (v := .int .i64 (p.pgroup)) kT rfl (zd h5 rfl) ?_)
  refine zb ?_
  refine zp ?_
  refine za ?_
  refine zt (by kernel_rfl) (fun _ => ?_)
  refine st (zX (k := .i64) (a := p.pgroup) (b := 1) rfl rfl ?_)
  refine st (zv (v := .bool (decide (p.pgroup = 1))) rfl ?_)
  refine zb ?_
  cases hc6 : decide (p.pgroup = 1)
  · skip
    have hc6 := of_decide_eq_false hc6
    refine zf rfl ?_
    refine za ?_
    refine zt (by kernel_rfl) (fun _ => ?_)
    refine st (zX (k := .i64) (a := p.pgroup) (b := 2) rfl rfl ?_)
    refine st (zv (v := .bool (decide (p.pgroup = 2))) rfl ?_)
    refine zb ?_
    cases hc7 : decide (p.pgroup = 2)
    · skip
      have hc7 := of_decide_eq_false hc7
      refine zf rfl ?_
      refine za ?_
      refine zt (by kernel_rfl) (fun _ => ?_)
      refine st (zX (k := .i64) (a := p.pgroup) (b := 3) rfl rfl ?_)
      refine st (zv (v := .bool (decide (p.pgroup = 3))) rfl ?_)
      refine zb ?_
      cases hc8 : decide (p.pgroup = 3)
      · skip
        have hc8 := of_decide_eq_false hc8
        refine zf rfl ?_
        refine zn ?_
        refine za ?_
        refine zt (by kernel_rfl) (fun _ => ?_)
        refine st (zv (v := .int .i64 (0)) rfl ?_)
        refine st (zv (v := .bool false) rfl ?_)
        refine zb ?_
        refine zm ?_
        refine VS pR (show _ = (.int .i64 (0) : Value) from rfl) (show _ = (.bool false : Value) from rfl) ?_
        refine ⟨?_, hn1.ext⟩
        unfold zo
        (repeat (first | rw [if_pos (by omega)] | rw [if_neg (by omega)]))
        rfl
      · skip
        have hc8 := of_decide_eq_true hc8
        refine zi rfl ?_
        refine za ?_
        refine zt (by kernel_rfl) (fun _ => ?_)
        refine st (zq (v := .int .i64 (reg)) rfl ?_)
        refine st (zv (v := .int .i64 (reg)) rfl ?_)
        refine st (zv (v := .bool true) rfl ?_)
        refine zb ?_
        refine zm ?_
        refine VS pR (show _ = (.int .i64 (reg) : Value) from rfl) (show _ = (.bool true : Value) from rfl) ?_
        refine ⟨?_, hn1.ext⟩
        unfold zo
        (repeat (first | rw [if_pos (by omega)] | rw [if_neg (by omega)]))
        rfl
    · skip
      have hc7 := of_decide_eq_true hc7
      refine zi rfl ?_
      refine za ?_
      refine zt (by kernel_rfl) (fun _ => ?_)
      refine st (QJ rfl ?_)
      refine st (ye (v := .int .i64 (e.arg)) kT rfl (zd hb3 rfl) ?_)
      refine st (zv (v := .int .i64 (e.arg)) rfl ?_)
      refine st (zv (v := .bool true) rfl ?_)
      refine zb ?_
      refine zm ?_
      refine VS pR (show _ = (.int .i64 (e.arg) : Value) from rfl) (show _ = (.bool true : Value) from rfl) ?_
      refine ⟨?_, hn1.ext⟩
      unfold zo
      (repeat (first | rw [if_pos (by omega)] | rw [if_neg (by omega)]))
      rfl
  · skip
    have hc6 := of_decide_eq_true hc6
    refine zi rfl ?_
    refine za ?_
    refine zt (by kernel_rfl) (fun _ => ?_)
    refine st (zaR rfl ?_)
    refine st (ye (v := .int .i64 (e.agg)) kT rfl (zd hb3 rfl) ?_)
    refine st (zv (v := .int .i64 (e.agg)) rfl ?_)
    refine st (zv (v := .bool true) rfl ?_)
    refine zb ?_
    refine zm ?_
    refine VS pR (show _ = (.int .i64 (e.agg) : Value) from rfl) (show _ = (.bool true : Value) from rfl) ?_
    refine ⟨?_, hn1.ext⟩
    unfold zo
    (repeat (first | rw [if_pos (by omega)] | rw [if_neg (by omega)]))
    rfl

theorem Wp {d : Option Tmp} {ty : TypeId} {pos : String} {af : Array Edge} {g : Option (Nat × Bool)} {σ : Env} {w : World} {K : Value → World → Prop} {x : Operand} {b o : Nat} (hx : ev σ x = .pointer (some ⟨b, o, none⟩)) (h : K (.pointer (some ⟨b, o + 2, none⟩)) w) : opV Tryz.prog ⟨d, .fieldAddr 44 x 2, ty, pos, af, g⟩ σ w K := zj tR rfl rfl (fun w => ⟨0, mT w⟩) hx h
theorem Yf {d : Option Tmp} {ty : TypeId} {pos : String} {af : Array Edge} {g : Option (Nat × Bool)} {σ : Env} {w : World} {K : Value → World → Prop} {x : Operand} {b o : Nat} (hx : ev σ x = .pointer (some ⟨b, o, none⟩)) (h : K (.pointer (some ⟨b, o + 4, none⟩)) w) : opV Tryz.prog ⟨d, .fieldAddr 46 x 4, ty, pos, af, g⟩ σ w K := zj nR rfl rfl (fun w => ⟨0, mT w⟩) hx h
theorem WM {d : Option Tmp} {ty : TypeId} {pos : String} {af : Array Edge} {g : Option (Nat × Bool)} {σ : Env} {w : World} {K : Value → World → Prop} {x : Operand} {b o : Nat} (hx : ev σ x = .pointer (some ⟨b, o, none⟩)) (h : K (.pointer (some ⟨b, o + 1, none⟩)) w) : opV Tryz.prog ⟨d, .fieldAddr 44 x 1, ty, pos, af, g⟩ σ w K := zj tR rfl rfl (fun w => ⟨0, mT w⟩) hx h
theorem zao {w : World} {a m : Nat} {p : Prj} (ha : w.heap[a]? = some (.cells #[.int .i64 (p.ptyp), .int .i64 (p.pfield), .int .i64 (p.pgroup), .int .i64 (p.pby), .int .i64 (p.pmake), .map (some m)] 122)) (op : p.Ok) {q : Row} (oq : q.Ok) {arg : Int} (harg : InR arg) : Ret Tryz.prog 86 [.pointer (some ⟨a, 0, none⟩), .agg (q.cells).toArray, .int .i64 (arg)] w (fun r w' => r = .int .i64 (yT p q arg) ∧ Ext w w') := by
  refine zk (args := [.pointer (some ⟨a, 0, none⟩), .agg (q.cells).toArray, .int .i64 (arg)]) Tryz.func86 rfl rfl ?_
  refine za ?_
  refine zt (by kernel_rfl) (fun _ => ?_)
  refine st (zS (v := .agg (q.cells).toArray) rfl (fun w1 b2 hn1 => ?_))
  have hb3 : w1.heap[b2]? = some (.cells (q.cells).toArray 44) := hn1.at_
  have hs4 := hn1.size; have hs4e := hn1.eq
  refine st (zv (v := .int .i64 (0)) rfl ?_)
  refine zb ?_
  refine za ?_
  refine zt (by kernel_rfl) (fun _ => ?_)
  refine st (Wp rfl ?_)
  refine st (ye (v := .int .i64 (q.count)) kT rfl (zd hb3 rfl) ?_)
  refine st (zX (k := .i64) (a := q.count) (b := 1) rfl rfl ?_)
  refine st (zv (v := .bool (decide (q.count = 1))) rfl ?_)
  refine zb ?_
  refine za ?_
  refine zp ?_
  refine za ?_
  refine zt (by kernel_rfl) (fun _ => ?_)
  refine st (zq (v := .pointer (some ⟨a, 0, none⟩)) rfl ?_)
  refine st (zl (b := a) (o := 0) rfl ?_)
  refine st (xz rfl ?_)
  refine st (Yf rfl ?_)
  have h5 := hn1.ext.keep ha (fun h => h)
  refine st (ye (v := .int .i64 (p.pmake)) kT rfl (zd h5 rfl) ?_)
  refine st (zX (k := .i64) (a := p.pmake) (b := 1) rfl rfl ?_)
  refine st (zv (v := .bool (decide (p.pmake = 1))) rfl ?_)
  refine zb ?_
  cases hc6 : decide (p.pmake = 1)
  · skip
    have hc6 := of_decide_eq_false hc6
    refine zf rfl ?_
    refine za ?_
    refine zt (by kernel_rfl) (fun _ => ?_)
    refine st (zq (v := .pointer (some ⟨a, 0, none⟩)) rfl ?_)
    refine st (zl (b := a) (o := 0) rfl ?_)
    refine st (xz rfl ?_)
    refine st (Yf rfl ?_)
    refine st (ye (v := .int .i64 (p.pmake)) kT rfl (zd h5 rfl) ?_)
    refine st (zX (k := .i64) (a := p.pmake) (b := 2) rfl rfl ?_)
    refine st (zv (v := .bool (decide (p.pmake = 2))) rfl ?_)
    refine zb ?_
    cases hc7 : decide (p.pmake = 2)
    · skip
      have hc7 := of_decide_eq_false hc7
      refine zf rfl ?_
      refine za ?_
      refine za ?_
      refine zt (by kernel_rfl) (fun _ => ?_)
      refine st (zq (v := .pointer (some ⟨a, 0, none⟩)) rfl ?_)
      refine st (zl (b := a) (o := 0) rfl ?_)
      refine st (xz rfl ?_)
      refine st (Yf rfl ?_)
      refine st (ye (v := .int .i64 (p.pmake)) kT rfl (zd h5 rfl) ?_)
      refine st (zX (k := .i64) (a := p.pmake) (b := 5) rfl rfl ?_)
      refine st (zv (v := .bool (decide (p.pmake = 5))) rfl ?_)
      refine zb ?_
      cases hc8 : decide (p.pmake = 5)
      · skip
        have hc8 := of_decide_eq_false hc8
        refine zf rfl ?_
        refine zH (by kernel_rfl) ?_
        refine st (zq (v := .bool (decide (q.count = 1))) rfl ?_)
        refine st (zq (v := .bool (decide (q.count = 1))) rfl ?_)
        refine stc (V := .pointer (some ⟨a, 0, none⟩)) rfl rfl (fun hb9 => ?_) ?_
        · have hl10 : (decide (q.count = 1)) = true := hb9
          have hl10 := of_decide_eq_true hl10
          exact zq (v := .pointer (some ⟨a, 0, none⟩)) rfl ⟨rfl, rfl⟩
        refine stc (V := .pointer (some ⟨a, 0, none⟩)) rfl rfl (fun hb11 => ?_) ?_
        · have hl12 : (decide (q.count = 1)) = true := hb11
          have hl12 := of_decide_eq_true hl12
          exact zl (b := a) (o := 0) (show _ = (.pointer (some ⟨a, 0, none⟩) : Value) from (if_pos hb11)) ⟨rfl, rfl⟩
        refine stc (V := .pointer (some ⟨a, 0, none⟩)) rfl rfl (fun hb13 => ?_) ?_
        · have hl14 : (decide (q.count = 1)) = true := hb13
          have hl14 := of_decide_eq_true hl14
          exact xz (show _ = (.pointer (some ⟨a, 0, none⟩) : Value) from (if_pos hb13)) ⟨rfl, rfl⟩
        refine stc (V := .pointer (some ⟨a, 4, none⟩)) rfl rfl (fun hb15 => ?_) ?_
        · have hl16 : (decide (q.count = 1)) = true := hb15
          have hl16 := of_decide_eq_true hl16
          exact Yf (show _ = (.pointer (some ⟨a, 0, none⟩) : Value) from (if_pos hb15)) ⟨rfl, rfl⟩
        refine stc (V := .int .i64 (p.pmake)) rfl rfl (fun hb17 => ?_) ?_
        · have hl18 : (decide (q.count = 1)) = true := hb17
          have hl18 := of_decide_eq_true hl18
          exact ye (v := .int .i64 (p.pmake)) kT (show _ = (.pointer (some ⟨a, 4, none⟩) : Value) from (if_pos hb17)) (zd h5 rfl) ⟨rfl, rfl⟩
        refine stc (V := .bool (decide (p.pmake = 3))) rfl rfl (fun hb19 => ?_) ?_
        · have hl20 : (decide (q.count = 1)) = true := hb19
          have hl20 := of_decide_eq_true hl20
          exact zX (k := .i64) (a := p.pmake) (b := 3) (show _ = (.int .i64 (p.pmake) : Value) from (if_pos hb19)) rfl ⟨rfl, rfl⟩
        refine stc (V := .bool (decide (p.pmake = 3))) rfl rfl (fun hb21 => ?_) ?_
        · have hl22 : (decide (q.count = 1)) = true := hb21
          have hl22 := of_decide_eq_true hl22
          exact zq (v := .bool (decide (p.pmake = 3))) (show _ = (.bool (decide (p.pmake = 3)) : Value) from (if_pos hb21)) ⟨rfl, rfl⟩
        refine yD (V := .pointer (some ⟨a, 0, none⟩)) rfl rfl (fun hb23 => ?_) ?_
        · have hl24 : (decide (q.count = 1)) = true := hb23.1
          have hl24 := of_decide_eq_true hl24
          have hl25 : (decide (p.pmake = 3)) = false := hb23.2
          have hl25 := of_decide_eq_false hl25
          exact zq (v := .pointer (some ⟨a, 0, none⟩)) rfl ⟨rfl, rfl⟩
        refine yD (V := .pointer (some ⟨a, 0, none⟩)) rfl rfl (fun hb26 => ?_) ?_
        · have hl27 : (decide (q.count = 1)) = true := hb26.1
          have hl27 := of_decide_eq_true hl27
          have hl28 : (decide (p.pmake = 3)) = false := hb26.2
          have hl28 := of_decide_eq_false hl28
          exact zl (b := a) (o := 0) (show _ = (.pointer (some ⟨a, 0, none⟩) : Value) from (if_pos ⟨hb26.1, hb26.2⟩)) ⟨rfl, rfl⟩
        refine yD (V := .pointer (some ⟨a, 0, none⟩)) rfl rfl (fun hb29 => ?_) ?_
        · have hl30 : (decide (q.count = 1)) = true := hb29.1
          have hl30 := of_decide_eq_true hl30
          have hl31 : (decide (p.pmake = 3)) = false := hb29.2
          have hl31 := of_decide_eq_false hl31
          exact xz (show _ = (.pointer (some ⟨a, 0, none⟩) : Value) from (if_pos ⟨hb29.1, hb29.2⟩)) ⟨rfl, rfl⟩
        refine yD (V := .pointer (some ⟨a, 4, none⟩)) rfl rfl (fun hb32 => ?_) ?_
        · have hl33 : (decide (q.count = 1)) = true := hb32.1
          have hl33 := of_decide_eq_true hl33
          have hl34 : (decide (p.pmake = 3)) = false := hb32.2
          have hl34 := of_decide_eq_false hl34
          exact Yf (show _ = (.pointer (some ⟨a, 0, none⟩) : Value) from (if_pos ⟨hb32.1, hb32.2⟩)) ⟨rfl, rfl⟩
        refine yD (V := .int .i64 (p.pmake)) rfl rfl (fun hb35 => ?_) ?_
        · have hl36 : (decide (q.count = 1)) = true := hb35.1
          have hl36 := of_decide_eq_true hl36
          have hl37 : (decide (p.pmake = 3)) = false := hb35.2
          have hl37 := of_decide_eq_false hl37
          exact ye (v := .int .i64 (p.pmake)) kT (show _ = (.pointer (some ⟨a, 4, none⟩) : Value) from (if_pos ⟨hb35.1, hb35.2⟩)) (zd h5 rfl) ⟨rfl, rfl⟩
        refine yD (V := .bool (decide (p.pmake = 4))) rfl rfl (fun hb38 => ?_) ?_
        · have hl39 : (decide (q.count = 1)) = true := hb38.1
          have hl39 := of_decide_eq_true hl39
          have hl40 : (decide (p.pmake = 3)) = false := hb38.2
          have hl40 := of_decide_eq_false hl40
          exact zX (k := .i64) (a := p.pmake) (b := 4) (show _ = (.int .i64 (p.pmake) : Value) from (if_pos ⟨hb38.1, hb38.2⟩)) rfl ⟨rfl, rfl⟩
        refine stc (V := .bool ((decide (p.pmake = 3)) || (decide (p.pmake = 4)))) rfl rfl (fun hb41 => ?_) ?_
        · have hl42 : (decide (q.count = 1)) = true := hb41
          have hl42 := of_decide_eq_true hl42
          exact zx (b := decide (p.pmake = 3)) (b' := decide (p.pmake = 4)) (show _ = (.bool (decide (p.pmake = 3)) : Value) from (if_pos hb41)) (fun hbp => (show _ = (.bool (decide (p.pmake = 4)) : Value) from (if_pos ⟨hb41, hbp⟩))) ⟨rfl, rfl⟩
        refine st (zB (b := decide (q.count = 1)) (b' := (decide (p.pmake = 3)) || (decide (p.pmake = 4))) rfl (fun hbp => (show _ = (.bool ((decide (p.pmake = 3)) || (decide (p.pmake = 4))) : Value) from (if_pos hbp))) ?_)
        refine st (zv (v := .bool ((decide (q.count = 1)) && ((decide (p.pmake = 3)) || (decide (p.pmake = 4))))) rfl ?_)
        refine zb ?_
        cases hc43 : (decide (q.count = 1)) && ((decide (p.pmake = 3)) || (decide (p.pmake = 4)))
        · skip
          simp only [Bool.and_eq_true, Bool.or_eq_true, Bool.and_eq_false_iff, Bool.or_eq_false_iff, decide_eq_true_eq, decide_eq_false_iff_not, Bool.not_eq_true', Bool.not_eq_false', Int.not_lt, Int.not_le] at hc43
          refine zf rfl ?_
          refine za ?_
          refine zt (by kernel_rfl) (fun _ => ?_)
          refine st (zq (v := .pointer (some ⟨a, 0, none⟩)) rfl ?_)
          refine st (zl (b := a) (o := 0) rfl ?_)
          refine st (xz rfl ?_)
          refine st (Yf rfl ?_)
          refine st (ye (v := .int .i64 (p.pmake)) kT rfl (zd h5 rfl) ?_)
          refine st (zX (k := .i64) (a := p.pmake) (b := 3) rfl rfl ?_)
          refine st (zv (v := .bool (decide (p.pmake = 3))) rfl ?_)
          refine zb ?_
          cases hc44 : decide (p.pmake = 3)
          · skip
            have hc44 := of_decide_eq_false hc44
            refine zf rfl ?_
            refine za ?_
            refine zt (by kernel_rfl) (fun _ => ?_)
            refine st (zq (v := .pointer (some ⟨a, 0, none⟩)) rfl ?_)
            refine st (zl (b := a) (o := 0) rfl ?_)
            refine st (xz rfl ?_)
            refine st (Yf rfl ?_)
            refine st (ye (v := .int .i64 (p.pmake)) kT rfl (zd h5 rfl) ?_)
            refine st (zX (k := .i64) (a := p.pmake) (b := 4) rfl rfl ?_)
            refine st (zv (v := .bool (decide (p.pmake = 4))) rfl ?_)
            refine zb ?_
            cases hc45 : decide (p.pmake = 4)
            · skip
              have hc45 := of_decide_eq_false hc45
              refine zf rfl ?_
              refine zn ?_
              refine za ?_
              refine zt (by kernel_rfl) (fun _ => ?_)
              refine st (zv (v := .int .i64 (0)) rfl ?_)
              refine zb ?_
              refine zm ?_
              refine zT pT (show _ = (.int .i64 (0) : Value) from rfl) ?_
              refine ⟨?_, hn1.ext⟩
              unfold yT
              (repeat (first | rw [if_pos (by omega)] | rw [if_neg (by omega)]))
            · skip
              have hc45 := of_decide_eq_true hc45
              refine zi rfl ?_
              refine za ?_
              refine zt (by kernel_rfl) (fun _ => ?_)
              refine st (WM rfl ?_)
              refine st (ye (v := .int .i64 (q.value)) kT rfl (zd hb3 rfl) ?_)
              refine st (zq (v := .int .i64 (arg)) rfl ?_)
              refine st (VU (k := .i64) (a := q.value) (b := arg) rfl rfl ?_)
              refine st (zv (v := .int .i64 (max q.value arg)) rfl ?_)
              refine zb ?_
              refine zm ?_
              refine zT pT (show _ = (.int .i64 (max q.value arg) : Value) from rfl) ?_
              refine ⟨?_, hn1.ext⟩
              unfold yT
              (repeat (first | rw [if_pos (by omega)] | rw [if_neg (by omega)]))
          · skip
            have hc44 := of_decide_eq_true hc44
            refine zi rfl ?_
            refine za ?_
            refine zt (by kernel_rfl) (fun _ => ?_)
            refine st (WM rfl ?_)
            refine st (ye (v := .int .i64 (q.value)) kT rfl (zd hb3 rfl) ?_)
            refine st (zq (v := .int .i64 (arg)) rfl ?_)
            refine st (Kg (k := .i64) (a := q.value) (b := arg) rfl rfl ?_)
            refine st (zv (v := .int .i64 (min q.value arg)) rfl ?_)
            refine zb ?_
            refine zm ?_
            refine zT pT (show _ = (.int .i64 (min q.value arg) : Value) from rfl) ?_
            refine ⟨?_, hn1.ext⟩
            unfold yT
            (repeat (first | rw [if_pos (by omega)] | rw [if_neg (by omega)]))
        · skip
          simp only [Bool.and_eq_true, Bool.or_eq_true, Bool.and_eq_false_iff, Bool.or_eq_false_iff, decide_eq_true_eq, decide_eq_false_iff_not, Bool.not_eq_true', Bool.not_eq_false', Int.not_lt, Int.not_le] at hc43
          refine zi rfl ?_
          refine za ?_
          refine zt (by kernel_rfl) (fun _ => ?_)
          refine st (zq (v := .int .i64 (arg)) rfl ?_)
          refine st (zv (v := .int .i64 (arg)) rfl ?_)
          refine zb ?_
          refine zm ?_
          refine zT pT (show _ = (.int .i64 (arg) : Value) from rfl) ?_
          refine ⟨?_, hn1.ext⟩
          unfold yT
          (repeat (first | rw [if_pos (by omega)] | rw [if_neg (by omega)]))
      · skip
        have hc8 := of_decide_eq_true hc8
        refine zi rfl ?_
        refine zn ?_
        refine zi rfl ?_
        refine za ?_
        refine zt (by kernel_rfl) (fun _ => ?_)
        refine st (zq (v := .int .i64 (arg)) rfl ?_)
        refine st (zv (v := .int .i64 (arg)) rfl ?_)
        refine zb ?_
        refine zm ?_
        refine zT pT (show _ = (.int .i64 (arg) : Value) from rfl) ?_
        refine ⟨?_, hn1.ext⟩
        unfold yT
        (repeat (first | rw [if_pos (by omega)] | rw [if_neg (by omega)]))
    · skip
      have hc7 := of_decide_eq_true hc7
      refine zi rfl ?_
      refine za ?_
      refine zt (by kernel_rfl) (fun _ => ?_)
      refine st (WM rfl ?_)
      refine st (ye (v := .int .i64 (q.value)) kT rfl (zd hb3 rfl) ?_)
      refine st (zq (v := .int .i64 (arg)) rfl ?_)
      refine st (zO (r := IntKind.i64.wrap (q.value + arg)) (k := .i64) (a := q.value) (b := arg) rfl rfl rfl ?_)
      refine st (zv (v := .int .i64 (IntKind.i64.wrap (q.value + arg))) rfl ?_)
      refine zb ?_
      refine zm ?_
      refine zT pT (show _ = (.int .i64 (IntKind.i64.wrap (q.value + arg)) : Value) from rfl) ?_
      refine ⟨?_, hn1.ext⟩
      unfold yT
      (repeat (first | rw [if_pos (by omega)] | rw [if_neg (by omega)]))
  · skip
    have hc6 := of_decide_eq_true hc6
    refine zi rfl ?_
    refine za ?_
    refine zt (by kernel_rfl) (fun _ => ?_)
    refine st (Wp rfl ?_)
    refine st (ye (v := .int .i64 (q.count)) kT rfl (zd hb3 rfl) ?_)
    refine st (zv (v := .int .i64 (q.count)) rfl ?_)
    refine zb ?_
    refine zm ?_
    refine zT pT (show _ = (.int .i64 (q.count) : Value) from rfl) ?_
    refine ⟨?_, hn1.ext⟩
    unfold yT
    (repeat (first | rw [if_pos (by omega)] | rw [if_neg (by omega)]))

theorem Ja {p : Prj} {r : Row} {arg : Int} (hv : InR r.value) (hc : InR r.count) (ha : InR arg) : InR (yT p r arg) := by
  unfold yT
  split
  · exact hc
  · split
    · exact Xu _
    · split
      · exact ha
      · split
        · omega
        · split
          · omega
          · decide
def pick (L : List (Int × Row)) (idx : List Nat) : List Row := idx.map fun j => (L.getD j (0, ⟨0, 0, 0⟩)).2
theorem KY {L : List (Int × Row)} {idx : List Nat} {j : Nat} (hj : j < L.length) : pick L (idx ++ [j]) = pick L idx ++ [L[j].2] := by
  unfold pick
  rw [List.map_append, List.map_cons, List.map_nil, zw _ hj]
theorem Qa {L : List (Int × Row)} {idx : List Nat} (h : List.Perm (idx.map fun j => L[j]?) (L.map some)) : (pick L idx).Perm (L.map (·.2)) := by
  have h2 := h.map (fun o : Option (Int × Row) => (o.getD (0, ⟨0, 0, 0⟩)).2)
  rw [List.map_map, List.map_map] at h2
  refine (List.Perm.of_eq ?_).trans (h2.trans (List.Perm.of_eq ?_))
  · unfold pick; refine List.map_congr_left fun j _ => ?_; simp [List.getD_eq_getElem?_getD]
  · refine List.map_congr_left fun p _ => ?_; simp

theorem C_New {w : World} {p : Prj} (op : p.Ok) : Ret Tryz.prog 39 [.agg (p.cells).toArray] w (fun r w' => ∃ a m, r = .pointer (some ⟨a, 0, none⟩) ∧ Ext w w' ∧ w.heap.size ≤ a ∧ w.heap.size ≤ m ∧ a ≠ m ∧ w'.heap[a]? = some (.cells #[.int .i64 (p.ptyp), .int .i64 (p.pfield), .int .i64 (p.pgroup), .int .i64 (p.pby), .int .i64 (p.pmake), .map (some m)] 122) ∧ MapR (α := Row) w' (fun _ => False) m []) := by
  refine zk (args := [.agg (p.cells).toArray]) Tryz.func39 rfl rfl ?_
  refine za ?_
  refine zt (by kernel_rfl) (fun _ => ?_)
  refine st (zS (v := .agg (p.cells).toArray) rfl (fun w1 b2 hn1 => ?_))
  have hb3 : w1.heap[b2]? = some (.cells (p.cells).toArray 46) := hn1.at_
  have hs4 := hn1.size; have hs4e := hn1.eq
  refine st (zv (v := .pointer none) rfl ?_)
  refine zb ?_
  refine za ?_
  refine zt (by kernel_rfl) (fun _ => ?_)
  refine st (zg (k := 5) Tryz.isAgg46 nY rfl rfl (CellsAt.all hb3) ?_)
  refine st (Zd (fun w2 hn5 => ?_))
  obtain ⟨m6, m6e⟩ : ∃ z, z = w1.heap.size := ⟨_, rfl⟩; rw [← m6e] at hn5 ⊢
  have hn5s := hn5.size
  have hn5m := New.mapR (α := Row) hn5 (fun _ => False)
  refine st (zQ (parts' := [(0, .agg (p.cells).toArray), (1, .map (some m6))]) (v := .agg #[.int .i64 (p.ptyp), .int .i64 (p.pfield), .int .i64 (p.pgroup), .int .i64 (p.pby), .int .i64 (p.pmake), .map (some m6)]) rfl (by simp [Instr.build, Instr.fill, Prj.cells, go_sem]) ?_)
  refine st (zS (v := .agg #[.int .i64 (p.ptyp), .int .i64 (p.pfield), .int .i64 (p.pgroup), .int .i64 (p.pby), .int .i64 (p.pmake), .map (some m6)]) rfl (fun w3 b8 hn7 => ?_))
  have hb9 : w3.heap[b8]? = some (.cells #[.int .i64 (p.ptyp), .int .i64 (p.pfield), .int .i64 (p.pgroup), .int .i64 (p.pby), .int .i64 (p.pmake), .map (some m6)] 122) := hn7.at_
  have hs10 := hn7.size; have hs10e := hn7.eq
  refine st (zv (v := .pointer (some ⟨b8, 0, none⟩)) rfl ?_)
  refine zb ?_
  refine zm ?_
  refine zT Tryz.results39 (show _ = (.pointer (some ⟨b8, 0, none⟩) : Value) from rfl) ?_
  have h11 := hn5m.ext hn7.ext
  refine ⟨_, _, rfl, (Chg.trans (Chg.trans hn1.ext hn5.ext) hn7.ext), by omega, by omega, by omega, hb9, h11⟩

theorem WB {d : Option Tmp} {ty : TypeId} {pos : String} {af : Array Edge} {g : Option (Nat × Bool)} {σ : Env} {w : World} {K : Value → World → Prop} {x : Operand} {b o : Nat} (hx : ev σ x = .pointer (some ⟨b, o, none⟩)) (h : K (.pointer (some ⟨b, o + 0, none⟩)) w) : opV Tryz.prog ⟨d, .fieldAddr 66 x 0, ty, pos, af, g⟩ σ w K := zj oY rfl rfl (fun w => ⟨9, lT w⟩) hx h
theorem zaT {d : Option Tmp} {ty : TypeId} {pos : String} {af : Array Edge} {g : Option (Nat × Bool)} {σ : Env} {w : World} {K : Value → World → Prop} {x : Operand} {b o : Nat} (hx : ev σ x = .pointer (some ⟨b, o, none⟩)) (h : K (.pointer (some ⟨b, o + 10, none⟩)) w) : opV Tryz.prog ⟨d, .fieldAddr 66 x 1, ty, pos, af, g⟩ σ w K := zj oY rfl rfl (fun w => ⟨0, Tryz.sizeOf4 w⟩) hx h
theorem zan {d : Option Tmp} {ty : TypeId} {pos : String} {af : Array Edge} {g : Option (Nat × Bool)} {σ : Env} {w : World} {K : Value → World → Prop} {x : Operand} {b o : Nat} (hx : ev σ x = .pointer (some ⟨b, o, none⟩)) (h : K (.pointer (some ⟨b, o + 4, none⟩)) w) : opV Tryz.prog ⟨d, .fieldAddr 64 x 3, ty, pos, af, g⟩ σ w K := zj oR rfl rfl (fun w => ⟨0, mT w⟩) hx h
theorem zaQ {d : Option Tmp} {ty : TypeId} {pos : String} {af : Array Edge} {g : Option (Nat × Bool)} {σ : Env} {w : World} {K : Value → World → Prop} {x : Operand} {b o : Nat} (hx : ev σ x = .pointer (some ⟨b, o, none⟩)) (h : K (.pointer (some ⟨b, o + 0, none⟩)) w) : opV Tryz.prog ⟨d, .fieldAddr 46 x 0, ty, pos, af, g⟩ σ w K := zj nR rfl rfl (fun w => ⟨0, mT w⟩) hx h
theorem zaZ {d : Option Tmp} {ty : TypeId} {pos : String} {af : Array Edge} {g : Option (Nat × Bool)} {σ : Env} {w : World} {K : Value → World → Prop} {x : Operand} {b o : Nat} (hx : ev σ x = .pointer (some ⟨b, o, none⟩)) (h : K (.pointer (some ⟨b, o + 6, none⟩)) w) : opV Tryz.prog ⟨d, .fieldAddr 64 x 5, ty, pos, af, g⟩ σ w K := zj oR rfl rfl (fun w => ⟨0, mT w⟩) hx h
theorem zat {d : Option Tmp} {ty : TypeId} {pos : String} {af : Array Edge} {g : Option (Nat × Bool)} {σ : Env} {w : World} {K : Value → World → Prop} {x : Operand} {b o : Nat} (hx : ev σ x = .pointer (some ⟨b, o, none⟩)) (h : K (.pointer (some ⟨b, o + 1, none⟩)) w) : opV Tryz.prog ⟨d, .fieldAddr 46 x 1, ty, pos, af, g⟩ σ w K := zj nR rfl rfl (fun w => ⟨0, mT w⟩) hx h
theorem Wz {d : Option Tmp} {ty : TypeId} {pos : String} {af : Array Edge} {g : Option (Nat × Bool)} {σ : Env} {w : World} {K : Value → World → Prop} {x : Operand} {b o : Nat} (hx : ev σ x = .pointer (some ⟨b, o, none⟩)) (h : K (.pointer (some ⟨b, o + 5, none⟩)) w) : opV Tryz.prog ⟨d, .fieldAddr 122 x 1, ty, pos, af, g⟩ σ w K := zj mY rfl rfl (fun w => ⟨0, Tryz.sizeOf120 w⟩) hx h
theorem VP {d : Option Tmp} {ty : TypeId} {pos : String} {af : Array Edge} {g : Option (Nat × Bool)} {σ : Env} {w : World} {K : Value → World → Prop} {x : Operand} {b o : Nat} (hx : ev σ x = .pointer (some ⟨b, o, none⟩)) (h : K (.pointer (some ⟨b, o + 0, none⟩)) w) : opV Tryz.prog ⟨d, .fieldAddr 44 x 0, ty, pos, af, g⟩ σ w K := zj tR rfl rfl (fun w => ⟨0, mT w⟩) hx h
theorem C_Add {w : World} {a m : Nat} {p : Prj} (ha : w.heap[a]? = some (.cells #[.int .i64 (p.ptyp), .int .i64 (p.pfield), .int .i64 (p.pgroup), .int .i64 (p.pby), .int .i64 (p.pmake), .map (some m)] 122)) (op : p.Ok) {L : List (Int × Row)} (hm : MapR w (fun _ => False) m L) (ham : a ≠ m) {Fe : Nat → Prop} {e : Ent} {de0 : Value} (he0 : RdS w Fe de0 e.ev.deps) (oe : e.Ok) {reg : Int} (hreg : InR reg) (hcnt : ∀ g, ((zK L g).getD (⟨0, 0, 0⟩ : Row)).count < 4611686018427387904) : Ret Tryz.prog 64 [.pointer (some ⟨a, 0, none⟩), .agg (e.cells de0).toArray, .int .i64 (reg)] w (fun r w' => r = .tuple #[] ∧ MapR w' (fun _ => False) m (Zl p L e reg) ∧ Chg (fun i => i = m) w w') := by
  have he0s : _ * 8 ≤ _ := he0.small
  have hml := hm.lt
  have hal := yV ha
  refine zk (args := [.pointer (some ⟨a, 0, none⟩), .agg (e.cells de0).toArray, .int .i64 (reg)]) Tryz.func64 rfl rfl ?_
  refine za ?_
  refine zt (by kernel_rfl) (fun _ => ?_)
  refine st (zS (v := .agg (e.cells de0).toArray) rfl (fun w1 b2 hn1 => ?_))
  have hb3 : w1.heap[b2]? = some (.cells (e.cells de0).toArray 66) := hn1.at_
  have hs4 := hn1.size; have hs4e := hn1.eq
  refine zb ?_
  refine za ?_
  refine zt (by kernel_rfl) (fun _ => ?_)
  refine st (zq (v := .pointer (some ⟨a, 0, none⟩)) rfl ?_)
  refine st (WB rfl ?_)
  refine st (zg (k := 10) (cs := [.int .i64 (e.ev.origin), .int .i64 (e.ev.seq), .int .i64 (e.ev.lam), de0, .int .i64 (e.ev.typ), .int .i64 (e.ev.agg), .int .i64 (e.ev.field), .int .i64 (e.ev.op), .int .i64 (e.ev.arg), .int .i64 (e.ev.key)]) nT lT rfl rfl (CellsAt.sub (CellsAt.all hb3) 0 (cs2 := [.int .i64 (e.ev.origin), .int .i64 (e.ev.seq), .int .i64 (e.ev.lam), de0, .int .i64 (e.ev.typ), .int .i64 (e.ev.agg), .int .i64 (e.ev.field), .int .i64 (e.ev.op), .int .i64 (e.ev.arg), .int .i64 (e.ev.key)]) rfl) ?_)
  refine st (zq (v := .int .i64 (reg)) rfl ?_)
  have h5 := hn1.ext.keep ha (fun h => h)
  have h6 := he0.ext hn1.ext
  refine st (zL (f := 85) (vals := [.pointer (some ⟨a, 0, none⟩), .agg ((e.ev).cells de0).toArray, .int .i64 (reg)]) (cap := []) rfl rfl Tryz.call85 (JC h5 op h6 oe.ev hreg) ?_)
  rintro _ w2 ⟨rfl, hx7⟩
  have hx7s := hx7.size
  refine st (zq (v := .tuple #[.int .i64 ((zo p (e.ev) reg).getD 0), .bool ((zo p (e.ev) reg).isSome)]) rfl ?_)
  refine st (zF (vs := [.int .i64 ((zo p (e.ev) reg).getD 0), .bool ((zo p (e.ev) reg).isSome)]) (i := 0) (v := .int .i64 ((zo p (e.ev) reg).getD 0)) rfl rfl ?_)
  refine st (zF (vs := [.int .i64 ((zo p (e.ev) reg).getD 0), .bool ((zo p (e.ev) reg).isSome)]) (i := 1) (v := .bool ((zo p (e.ev) reg).isSome)) rfl rfl ?_)
  refine st (zv (v := .int .i64 ((zo p (e.ev) reg).getD 0)) rfl ?_)
  refine st (zv (v := .bool ((zo p (e.ev) reg).isSome)) rfl ?_)
  refine zb ?_
  refine za ?_
  refine za ?_
  refine UM Ext (AL [fun v w => v = (.bool ((zo p (e.ev) reg).isSome) : Value), fun v w => v = (.bool (!((zo p (e.ev) reg).isSome)) : Value), fun v w => v = (.bool (!((zo p (e.ev) reg).isSome)) : Value), fun v w => v = (if (!((zo p (e.ev) reg).isSome)) = false then (.pointer (some ⟨b2, 10, none⟩) : Value) else undef), fun v w => v = (if (!((zo p (e.ev) reg).isSome)) = false then (.bool (e.void) : Value) else undef), fun v w => v = (.bool ((!((zo p (e.ev) reg).isSome)) || e.void) : Value), fun v w => v = (.bool ((!((zo p (e.ev) reg).isSome)) || e.void) : Value), fun v w => v = (if ((!((zo p (e.ev) reg).isSome)) || e.void) = false then (.pointer (some ⟨b2, 0, none⟩) : Value) else undef), fun v w => v = (if ((!((zo p (e.ev) reg).isSome)) || e.void) = false then (.pointer (some ⟨b2, 4, none⟩) : Value) else undef), fun v w => v = (if ((!((zo p (e.ev) reg).isSome)) || e.void) = false then (.int .i64 (e.ev.typ) : Value) else undef), fun v w => v = (if ((!((zo p (e.ev) reg).isSome)) || e.void) = false then (.pointer (some ⟨a, 0, none⟩) : Value) else undef), fun v w => v = (if ((!((zo p (e.ev) reg).isSome)) || e.void) = false then (.pointer (some ⟨a, 0, none⟩) : Value) else undef), fun v w => v = (if ((!((zo p (e.ev) reg).isSome)) || e.void) = false then (.pointer (some ⟨a, 0, none⟩) : Value) else undef), fun v w => v = (if ((!((zo p (e.ev) reg).isSome)) || e.void) = false then (.pointer (some ⟨a, 0, none⟩) : Value) else undef), fun v w => v = (if ((!((zo p (e.ev) reg).isSome)) || e.void) = false then (.int .i64 (p.ptyp) : Value) else undef), fun v w => v = (if ((!((zo p (e.ev) reg).isSome)) || e.void) = false then (.bool (!decide (e.ev.typ = p.ptyp)) : Value) else undef), fun v w => v = (.bool (((!((zo p (e.ev) reg).isSome)) || e.void) || (!decide (e.ev.typ = p.ptyp))) : Value), fun v w => v = (.bool (((!((zo p (e.ev) reg).isSome)) || e.void) || (!decide (e.ev.typ = p.ptyp))) : Value), fun v w => v = (if (((!((zo p (e.ev) reg).isSome)) || e.void) || (!decide (e.ev.typ = p.ptyp))) = false then (.pointer (some ⟨b2, 0, none⟩) : Value) else undef), fun v w => v = (if (((!((zo p (e.ev) reg).isSome)) || e.void) || (!decide (e.ev.typ = p.ptyp))) = false then (.pointer (some ⟨b2, 6, none⟩) : Value) else undef), fun v w => v = (if (((!((zo p (e.ev) reg).isSome)) || e.void) || (!decide (e.ev.typ = p.ptyp))) = false then (.int .i64 (e.ev.field) : Value) else undef), fun v w => v = (if (((!((zo p (e.ev) reg).isSome)) || e.void) || (!decide (e.ev.typ = p.ptyp))) = false then (.pointer (some ⟨a, 0, none⟩) : Value) else undef), fun v w => v = (if (((!((zo p (e.ev) reg).isSome)) || e.void) || (!decide (e.ev.typ = p.ptyp))) = false then (.pointer (some ⟨a, 0, none⟩) : Value) else undef), fun v w => v = (if (((!((zo p (e.ev) reg).isSome)) || e.void) || (!decide (e.ev.typ = p.ptyp))) = false then (.pointer (some ⟨a, 0, none⟩) : Value) else undef), fun v w => v = (if (((!((zo p (e.ev) reg).isSome)) || e.void) || (!decide (e.ev.typ = p.ptyp))) = false then (.pointer (some ⟨a, 1, none⟩) : Value) else undef), fun v w => v = (if (((!((zo p (e.ev) reg).isSome)) || e.void) || (!decide (e.ev.typ = p.ptyp))) = false then (.int .i64 (p.pfield) : Value) else undef), fun v w => v = (if (((!((zo p (e.ev) reg).isSome)) || e.void) || (!decide (e.ev.typ = p.ptyp))) = false then (.bool (!decide (e.ev.field = p.pfield)) : Value) else undef), fun v w => v = (.bool ((((!((zo p (e.ev) reg).isSome)) || e.void) || (!decide (e.ev.typ = p.ptyp))) || (!decide (e.ev.field = p.pfield))) : Value)]) [[], [0], [0, 1], [0, 1, 2], [0, 1, 2, 3], [0, 1, 2, 3, 4], [0, 1, 2, 3, 4, 5], [0, 1, 2, 3, 4, 5, 6], [0, 1, 2, 3, 4, 5, 6, 7], [0, 1, 2, 3, 4, 5, 6, 7, 8], [0, 1, 2, 3, 4, 5, 6], [0, 1, 2, 3, 4, 5, 6, 10], [0, 1, 2, 3, 4, 5, 6, 10, 11], [0, 1, 2, 3, 4, 5, 6, 10, 11, 12], [0, 1, 2, 3, 4, 5, 6, 10, 11, 12, 13], [0, 1, 2, 3, 4, 5, 6, 7, 8, 9, 10, 11, 12, 13, 14], [0, 1, 2, 3, 4, 5, 6, 7, 8, 9, 10, 11, 12, 13, 14, 15], [0, 1, 2, 3, 4, 5, 6, 7, 8, 9, 10, 11, 12, 13, 14, 15, 16], [0, 1, 2, 3, 4, 5, 6, 7, 8, 9, 10, 11, 12, 13, 14, 15, 16, 17], [0, 1, 2, 3, 4, 5, 6, 7, 8, 9, 10, 11, 12, 13, 14, 15, 16, 17, 18], [0, 1, 2, 3, 4, 5, 6, 7, 8, 9, 10, 11, 12, 13, 14, 15, 16, 17, 18, 19], [0, 1, 2, 3, 4, 5, 6, 7, 8, 9, 10, 11, 12, 13, 14, 15, 16, 17], [0, 1, 2, 3, 4, 5, 6, 7, 8, 9, 10, 11, 12, 13, 14, 15, 16, 17, 21], [0, 1, 2, 3, 4, 5, 6, 7, 8, 9, 10, 11, 12, 13, 14, 15, 16, 17, 21, 22], [0, 1, 2, 3, 4, 5, 6, 7, 8, 9, 10, 11, 12, 13, 14, 15, 16, 17, 21, 22, 23], [0, 1, 2, 3, 4, 5, 6, 7, 8, 9, 10, 11, 12, 13, 14, 15, 16, 17, 21, 22, 23, 24], [0, 1, 2, 3, 4, 5, 6, 7, 8, 9, 10, 11, 12, 13, 14, 15, 16, 17, 18, 19, 20, 21, 22, 23, 24, 25], [0, 1, 2, 3, 4, 5, 6, 7, 8, 9, 10, 11, 12, 13, 14, 15, 16, 17, 18, 19, 20, 21, 22, 23, 24, 25, 26]] 28 (by kernel_rfl) (by kernel_rfl) (by kernel_rfl) (fun w => Chg.refl _ w) (fun _ _ _ h1 h2 => h1.trans h2) (zad ⟨fun _ _ _ _ h => h, fun _ _ _ _ h => h, fun _ _ _ _ h => h, fun _ _ _ _ h => h, fun _ _ _ _ h => h, fun _ _ _ _ h => h, fun _ _ _ _ h => h, fun _ _ _ _ h => h, fun _ _ _ _ h => h, fun _ _ _ _ h => h, fun _ _ _ _ h => h, fun _ _ _ _ h => h, fun _ _ _ _ h => h, fun _ _ _ _ h => h, fun _ _ _ _ h => h, fun _ _ _ _ h => h, fun _ _ _ _ h => h, fun _ _ _ _ h => h, fun _ _ _ _ h => h, fun _ _ _ _ h => h, fun _ _ _ _ h => h, fun _ _ _ _ h => h, fun _ _ _ _ h => h, fun _ _ _ _ h => h, fun _ _ _ _ h => h, fun _ _ _ _ h => h, fun _ _ _ _ h => h, fun _ _ _ _ h => h, trivial⟩) ?_
  intro w3 qh1 qh2 qh3 qh4
  have hx8 := Yi qh1 qh2 qh3 qh4
  refine ⟨⟨?_, ?_, ?_, ?_, ?_, ?_, ?_, ?_, ?_, ?_, ?_, ?_, ?_, ?_, ?_, ?_, ?_, ?_, ?_, ?_, ?_, ?_, ?_, ?_, ?_, ?_, ?_, ?_, trivial⟩, ?_⟩
  · intro vals w4 hR9 hA
    have hs10 := hR9.size
    refine obl rfl ?_
    exact zq (v := .bool ((zo p (e.ev) reg).isSome)) rfl ⟨Chg.refl _ _, rfl⟩
  · intro vals w5 hR11 hA
    have hs12 := hR11.size
    have e0 : (vals 0) = (.bool ((zo p (e.ev) reg).isSome) : Value) := hA 0 (by decide)
    refine obl rfl ?_
    exact yK (a := (zo p (e.ev) reg).isSome) (show _ = (.bool ((zo p (e.ev) reg).isSome) : Value) from e0) ⟨Chg.refl _ _, rfl⟩
  · intro vals w6 hR13 hA
    have hs14 := hR13.size
    have e1 : (vals 1) = (.bool (!((zo p (e.ev) reg).isSome)) : Value) := hA 1 (by decide)
    refine obl rfl ?_
    exact zq (v := .bool (!((zo p (e.ev) reg).isSome))) (show _ = (.bool (!((zo p (e.ev) reg).isSome)) : Value) from e1) ⟨Chg.refl _ _, rfl⟩
  · intro vals w7 hR15 hA
    have hs16 := hR15.size
    have e2 : (vals 2) = (.bool (!((zo p (e.ev) reg).isSome)) : Value) := hA 2 (by decide)
    refine zz rfl rfl (show _ = (.bool (!((zo p (e.ev) reg).isSome)) : Value) from e2) (fun hb17 => ?_) (fun hb17 => (if_neg hb17).symm)
    have hl18 : (!((zo p (e.ev) reg).isSome)) = false := hb17
    simp only [Bool.and_eq_true, Bool.or_eq_true, Bool.and_eq_false_iff, Bool.or_eq_false_iff, decide_eq_true_eq, decide_eq_false_iff_not, Bool.not_eq_true', Bool.not_eq_false', Int.not_lt, Int.not_le] at hl18
    exact zaT rfl ⟨Chg.refl _ _, (if_pos hb17).symm⟩
  · intro vals w8 hR19 hA
    have hs20 := hR19.size
    have e2 : (vals 2) = (.bool (!((zo p (e.ev) reg).isSome)) : Value) := hA 2 (by decide)
    have e3 : (vals 3) = (if (!((zo p (e.ev) reg).isSome)) = false then (.pointer (some ⟨b2, 10, none⟩) : Value) else undef) := hA 3 (by decide)
    refine zz rfl rfl (show _ = (.bool (!((zo p (e.ev) reg).isSome)) : Value) from e2) (fun hb21 => ?_) (fun hb21 => (if_neg hb21).symm)
    have hl22 : (!((zo p (e.ev) reg).isSome)) = false := hb21
    simp only [Bool.and_eq_true, Bool.or_eq_true, Bool.and_eq_false_iff, Bool.or_eq_false_iff, decide_eq_true_eq, decide_eq_false_iff_not, Bool.not_eq_true', Bool.not_eq_false', Int.not_lt, Int.not_le] at hl22
    have h23 := (Chg.trans (Chg.trans hx7 hx8) hR19).keep hb3 (fun h => h)
    exact ye (v := .bool (e.void)) Tryz.isAgg4 (show _ = (.pointer (some ⟨b2, 10, none⟩) : Value) from (Eq.trans e3 (if_pos hb21))) (zd h23 rfl) ⟨Chg.refl _ _, (if_pos hb21).symm⟩
  · intro vals w9 hR24 hA
    have hs25 := hR24.size
    have e2 : (vals 2) = (.bool (!((zo p (e.ev) reg).isSome)) : Value) := hA 2 (by decide)
    have e4 : (vals 4) = (if (!((zo p (e.ev) reg).isSome)) = false then (.bool (e.void) : Value) else undef) := hA 4 (by decide)
    refine obl rfl ?_
    exact zx (b := !((zo p (e.ev) reg).isSome)) (b' := e.void) (show _ = (.bool (!((zo p (e.ev) reg).isSome)) : Value) from e2) (fun hbp => (show _ = (.bool (e.void) : Value) from (Eq.trans e4 (if_pos hbp)))) ⟨Chg.refl _ _, rfl⟩
  · intro vals w10 hR26 hA
    have hs27 := hR26.size
    have e5 : (vals 5) = (.bool ((!((zo p (e.ev) reg).isSome)) || e.void) : Value) := hA 5 (by decide)
    refine obl rfl ?_
    exact zq (v := .bool ((!((zo p (e.ev) reg).isSome)) || e.void)) (show _ = (.bool ((!((zo p (e.ev) reg).isSome)) || e.void) : Value) from e5) ⟨Chg.refl _ _, rfl⟩
  · intro vals w11 hR28 hA
    have hs29 := hR28.size
    have e6 : (vals 6) = (.bool ((!((zo p (e.ev) reg).isSome)) || e.void) : Value) := hA 6 (by decide)
    refine zz rfl rfl (show _ = (.bool ((!((zo p (e.ev) reg).isSome)) || e.void) : Value) from e6) (fun hb30 => ?_) (fun hb30 => (if_neg hb30).symm)
    have hl31 : ((!((zo p (e.ev) reg).isSome)) || e.void) = false := hb30
    simp only [Bool.and_eq_true, Bool.or_eq_true, Bool.and_eq_false_iff, Bool.or_eq_false_iff, decide_eq_true_eq, decide_eq_false_iff_not, Bool.not_eq_true', Bool.not_eq_false', Int.not_lt, Int.not_le] at hl31
    exact WB rfl ⟨Chg.refl _ _, (if_pos hb30).symm⟩
  · intro vals w12 hR32 hA
    have hs33 := hR32.size
    have e6 : (vals 6) = (.bool ((!((zo p (e.ev) reg).isSome)) || e.void) : Value) := hA 6 (by decide)
    have e7 : (vals 7) = (if ((!((zo p (e.ev) reg).isSome)) || e.void) = false then (.pointer (some ⟨b2, 0, none⟩) : Value) else undef) := hA 7 (by decide)
    refine zz rfl rfl (show _ = (.bool ((!((zo p (e.ev) reg).isSome)) || e.void) : Value) from e6) (fun hb34 => ?_) (fun hb34 => (if_neg hb34).symm)
    have hl35 : ((!((zo p (e.ev) reg).isSome)) || e.void) = false := hb34
    simp only [Bool.and_eq_true, Bool.or_eq_true, Bool.and_eq_false_iff, Bool.or_eq_false_iff, decide_eq_true_eq, decide_eq_false_iff_not, Bool.not_eq_true', Bool.not_eq_false', Int.not_lt, Int.not_le] at hl35
    exact zan (show _ = (.pointer (some ⟨b2, 0, none⟩) : Value) from (Eq.trans e7 (if_pos hb34))) ⟨Chg.refl _ _, (if_pos hb34).symm⟩
  · intro vals w13 hR36 hA
    have hs37 := hR36.size
    have e6 : (vals 6) = (.bool ((!((zo p (e.ev) reg).isSome)) || e.void) : Value) := hA 6 (by decide)
    have e8 : (vals 8) = (if ((!((zo p (e.ev) reg).isSome)) || e.void) = false then (.pointer (some ⟨b2, 4, none⟩) : Value) else undef) := hA 8 (by decide)
    refine zz rfl rfl (show _ = (.bool ((!((zo p (e.ev) reg).isSome)) || e.void) : Value) from e6) (fun hb38 => ?_) (fun hb38 => (if_neg hb38).symm)
    have hl39 : ((!((zo p (e.ev) reg).isSome)) || e.void) = false := hb38
    simp only [Bool.and_eq_true, Bool.or_eq_true, Bool.and_eq_false_iff, Bool.or_eq_false_iff, decide_eq_true_eq, decide_eq_false_iff_not, Bool.not_eq_true', Bool.not_eq_false', Int.not_lt, Int.not_le] at hl39
    have h40 := (Chg.trans (Chg.trans hx7 hx8) hR36).keep hb3 (fun h => h)
    exact ye (v := .int .i64 (e.ev.typ)) kT (show _ = (.pointer (some ⟨b2, 4, none⟩) : Value) from (Eq.trans e8 (if_pos hb38))) (zd h40 rfl) ⟨Chg.refl _ _, (if_pos hb38).symm⟩
  · intro vals w14 hR41 hA
    have hs42 := hR41.size
    have e6 : (vals 6) = (.bool ((!((zo p (e.ev) reg).isSome)) || e.void) : Value) := hA 6 (by decide)
    refine zz rfl rfl (show _ = (.bool ((!((zo p (e.ev) reg).isSome)) || e.void) : Value) from e6) (fun hb43 => ?_) (fun hb43 => (if_neg hb43).symm)
    have hl44 : ((!((zo p (e.ev) reg).isSome)) || e.void) = false := hb43
    simp only [Bool.and_eq_true, Bool.or_eq_true, Bool.and_eq_false_iff, Bool.or_eq_false_iff, decide_eq_true_eq, decide_eq_false_iff_not, Bool.not_eq_true', Bool.not_eq_false', Int.not_lt, Int.not_le] at hl44
    exact zq (v := .pointer (some ⟨a, 0, none⟩)) rfl ⟨Chg.refl _ _, (if_pos hb43).symm⟩
  · intro vals w15 hR45 hA
    have hs46 := hR45.size
    have e6 : (vals 6) = (.bool ((!((zo p (e.ev) reg).isSome)) || e.void) : Value) := hA 6 (by decide)
    have e10 : (vals 10) = (if ((!((zo p (e.ev) reg).isSome)) || e.void) = false then (.pointer (some ⟨a, 0, none⟩) : Value) else undef) := hA 10 (by decide)
    refine zz rfl rfl (show _ = (.bool ((!((zo p (e.ev) reg).isSome)) || e.void) : Value) from e6) (fun hb47 => ?_) (fun hb47 => (if_neg hb47).symm)
    have hl48 : ((!((zo p (e.ev) reg).isSome)) || e.void) = false := hb47
    simp only [Bool.and_eq_true, Bool.or_eq_true, Bool.and_eq_false_iff, Bool.or_eq_false_iff, decide_eq_true_eq, decide_eq_false_iff_not, Bool.not_eq_true', Bool.not_eq_false', Int.not_lt, Int.not_le] at hl48
    exact zl (b := a) (o := 0) (show _ = (.pointer (some ⟨a, 0, none⟩) : Value) from (Eq.trans e10 (if_pos hb47))) ⟨Chg.refl _ _, (if_pos hb47).symm⟩
  · intro vals w16 hR49 hA
    have hs50 := hR49.size
    have e6 : (vals 6) = (.bool ((!((zo p (e.ev) reg).isSome)) || e.void) : Value) := hA 6 (by decide)
    have e11 : (vals 11) = (if ((!((zo p (e.ev) reg).isSome)) || e.void) = false then (.pointer (some ⟨a, 0, none⟩) : Value) else undef) := hA 11 (by decide)
    refine zz rfl rfl (show _ = (.bool ((!((zo p (e.ev) reg).isSome)) || e.void) : Value) from e6) (fun hb51 => ?_) (fun hb51 => (if_neg hb51).symm)
    have hl52 : ((!((zo p (e.ev) reg).isSome)) || e.void) = false := hb51
    simp only [Bool.and_eq_true, Bool.or_eq_true, Bool.and_eq_false_iff, Bool.or_eq_false_iff, decide_eq_true_eq, decide_eq_false_iff_not, Bool.not_eq_true', Bool.not_eq_false', Int.not_lt, Int.not_le] at hl52
    exact xz (show _ = (.pointer (some ⟨a, 0, none⟩) : Value) from (Eq.trans e11 (if_pos hb51))) ⟨Chg.refl _ _, (if_pos hb51).symm⟩
  · intro vals w17 hR53 hA
    have hs54 := hR53.size
    have e6 : (vals 6) = (.bool ((!((zo p (e.ev) reg).isSome)) || e.void) : Value) := hA 6 (by decide)
    have e12 : (vals 12) = (if ((!((zo p (e.ev) reg).isSome)) || e.void) = false then (.pointer (some ⟨a, 0, none⟩) : Value) else undef) := hA 12 (by decide)
    refine zz rfl rfl (show _ = (.bool ((!((zo p (e.ev) reg).isSome)) || e.void) : Value) from e6) (fun hb55 => ?_) (fun hb55 => (if_neg hb55).symm)
    have hl56 : ((!((zo p (e.ev) reg).isSome)) || e.void) = false := hb55
    simp only [Bool.and_eq_true, Bool.or_eq_true, Bool.and_eq_false_iff, Bool.or_eq_false_iff, decide_eq_true_eq, decide_eq_false_iff_not, Bool.not_eq_true', Bool.not_eq_false', Int.not_lt, Int.not_le] at hl56
    exact zaQ (show _ = (.pointer (some ⟨a, 0, none⟩) : Value) from (Eq.trans e12 (if_pos hb55))) ⟨Chg.refl _ _, (if_pos hb55).symm⟩
  · intro vals w18 hR57 hA
    have hs58 := hR57.size
    have e6 : (vals 6) = (.bool ((!((zo p (e.ev) reg).isSome)) || e.void) : Value) := hA 6 (by decide)
    have e13 : (vals 13) = (if ((!((zo p (e.ev) reg).isSome)) || e.void) = false then (.pointer (some ⟨a, 0, none⟩) : Value) else undef) := hA 13 (by decide)
    refine zz rfl rfl (show _ = (.bool ((!((zo p (e.ev) reg).isSome)) || e.void) : Value) from e6) (fun hb59 => ?_) (fun hb59 => (if_neg hb59).symm)
    have hl60 : ((!((zo p (e.ev) reg).isSome)) || e.void) = false := hb59
    simp only [Bool.and_eq_true, Bool.or_eq_true, Bool.and_eq_false_iff, Bool.or_eq_false_iff, decide_eq_true_eq, decide_eq_false_iff_not, Bool.not_eq_true', Bool.not_eq_false', Int.not_lt, Int.not_le] at hl60
    have h61 := (Chg.trans (Chg.trans hx7 hx8) hR57).keep h5 (fun h => h)
    exact ye (v := .int .i64 (p.ptyp)) kT (show _ = (.pointer (some ⟨a, 0, none⟩) : Value) from (Eq.trans e13 (if_pos hb59))) (zd h61 rfl) ⟨Chg.refl _ _, (if_pos hb59).symm⟩
  · intro vals w19 hR62 hA
    have hs63 := hR62.size
    have e6 : (vals 6) = (.bool ((!((zo p (e.ev) reg).isSome)) || e.void) : Value) := hA 6 (by decide)
    have e9 : (vals 9) = (if ((!((zo p (e.ev) reg).isSome)) || e.void) = false then (.int .i64 (e.ev.typ) : Value) else undef) := hA 9 (by decide)
    have e14 : (vals 14) = (if ((!((zo p (e.ev) reg).isSome)) || e.void) = false then (.int .i64 (p.ptyp) : Value) else undef) := hA 14 (by decide)
    refine zz rfl rfl (show _ = (.bool ((!((zo p (e.ev) reg).isSome)) || e.void) : Value) from e6) (fun hb64 => ?_) (fun hb64 => (if_neg hb64).symm)
    have hl65 : ((!((zo p (e.ev) reg).isSome)) || e.void) = false := hb64
    simp only [Bool.and_eq_true, Bool.or_eq_true, Bool.and_eq_false_iff, Bool.or_eq_false_iff, decide_eq_true_eq, decide_eq_false_iff_not, Bool.not_eq_true', Bool.not_eq_false', Int.not_lt, Int.not_le] at hl65
    exact yw (k := .i64) (a := e.ev.typ) (b := p.ptyp) (show _ = (.int .i64 (e.ev.typ) : Value) from (Eq.trans e9 (if_pos hb64))) (show _ = (.int .i64 (p.ptyp) : Value) from (Eq.trans e14 (if_pos hb64))) ⟨Chg.refl _ _, (if_pos hb64).symm⟩
  · intro vals w20 hR66 hA
    have hs67 := hR66.size
    have e6 : (vals 6) = (.bool ((!((zo p (e.ev) reg).isSome)) || e.void) : Value) := hA 6 (by decide)
    have e15 : (vals 15) = (if ((!((zo p (e.ev) reg).isSome)) || e.void) = false then (.bool (!decide (e.ev.typ = p.ptyp)) : Value) else undef) := hA 15 (by decide)
    refine obl rfl ?_
    exact zx (b := (!((zo p (e.ev) reg).isSome)) || e.void) (b' := !decide (e.ev.typ = p.ptyp)) (show _ = (.bool ((!((zo p (e.ev) reg).isSome)) || e.void) : Value) from e6) (fun hbp => (show _ = (.bool (!decide (e.ev.typ = p.ptyp)) : Value) from (Eq.trans e15 (if_pos hbp)))) ⟨Chg.refl _ _, rfl⟩
  · intro vals w21 hR68 hA
    have hs69 := hR68.size
    have e16 : (vals 16) = (.bool (((!((zo p (e.ev) reg).isSome)) || e.void) || (!decide (e.ev.typ = p.ptyp))) : Value) := hA 16 (by decide)
    refine obl rfl ?_
    exact zq (v := .bool (((!((zo p (e.ev) reg).isSome)) || e.void) || (!decide (e.ev.typ = p.ptyp)))) (show _ = (.bool (((!((zo p (e.ev) reg).isSome)) || e.void) || (!decide (e.ev.typ = p.ptyp))) : Value) from e16) ⟨Chg.refl _ _, rfl⟩
  · intro vals w22 hR70 hA
    have hs71 := hR70.size
    have e17 : (vals 17) = (.bool (((!((zo p (e.ev) reg).isSome)) || e.void) || (!decide (e.ev.typ = p.ptyp))) : Value) := hA 17 (by decide)
    refine zz rfl rfl (show _ = (.bool (((!((zo p (e.ev) reg).isSome)) || e.void) || (!decide (e.ev.typ = p.ptyp))) : Value) from e17) (fun hb72 => ?_) (fun hb72 => (if_neg hb72).symm)
    have hl73 : (((!((zo p (e.ev) reg).isSome)) || e.void) || (!decide (e.ev.typ = p.ptyp))) = false := hb72
    simp only [Bool.and_eq_true, Bool.or_eq_true, Bool.and_eq_false_iff, Bool.or_eq_false_iff, decide_eq_true_eq, decide_eq_false_iff_not, Bool.not_eq_true', Bool.not_eq_false', Int.not_lt, Int.not_le] at hl73
    exact WB rfl ⟨Chg.refl _ _, (if_pos hb72).symm⟩
  · intro vals w23 hR74 hA
    have hs75 := hR74.size
    have e17 : (vals 17) = (.bool (((!((zo p (e.ev) reg).isSome)) || e.void) || (!decide (e.ev.typ = p.ptyp))) : Value) := hA 17 (by decide)
    have e18 : (vals 18) = (if (((!((zo p (e.ev) reg).isSome)) || e.void) || (!decide (e.ev.typ = p.ptyp))) = false then (.pointer (some ⟨b2, 0, none⟩) : Value) else undef) := hA 18 (by decide)
    refine zz rfl rfl (show _ = (.bool (((!((zo p (e.ev) reg).isSome)) || e.void) || (!decide (e.ev.typ = p.ptyp))) : Value) from e17) (fun hb76 => ?_) (fun hb76 => (if_neg hb76).symm)
    have hl77 : (((!((zo p (e.ev) reg).isSome)) || e.void) || (!decide (e.ev.typ = p.ptyp))) = false := hb76
    simp only [Bool.and_eq_true, Bool.or_eq_true, Bool.and_eq_false_iff, Bool.or_eq_false_iff, decide_eq_true_eq, decide_eq_false_iff_not, Bool.not_eq_true', Bool.not_eq_false', Int.not_lt, Int.not_le] at hl77
    exact zaZ (show _ = (.pointer (some ⟨b2, 0, none⟩) : Value) from (Eq.trans e18 (if_pos hb76))) ⟨Chg.refl _ _, (if_pos hb76).symm⟩
  · intro vals w24 hR78 hA
    have hs79 := hR78.size
    have e17 : (vals 17) = (.bool (((!((zo p (e.ev) reg).isSome)) || e.void) || (!decide (e.ev.typ = p.ptyp))) : Value) := hA 17 (by decide)
    have e19 : (vals 19) = (if (((!((zo p (e.ev) reg).isSome)) || e.void) || (!decide (e.ev.typ = p.ptyp))) = false then (.pointer (some ⟨b2, 6, none⟩) : Value) else undef) := hA 19 (by decide)
    refine zz rfl rfl (show _ = (.bool (((!((zo p (e.ev) reg).isSome)) || e.void) || (!decide (e.ev.typ = p.ptyp))) : Value) from e17) (fun hb80 => ?_) (fun hb80 => (if_neg hb80).symm)
    have hl81 : (((!((zo p (e.ev) reg).isSome)) || e.void) || (!decide (e.ev.typ = p.ptyp))) = false := hb80
    simp only [Bool.and_eq_true, Bool.or_eq_true, Bool.and_eq_false_iff, Bool.or_eq_false_iff, decide_eq_true_eq, decide_eq_false_iff_not, Bool.not_eq_true', Bool.not_eq_false', Int.not_lt, Int.not_le] at hl81
    have h82 := (Chg.trans (Chg.trans hx7 hx8) hR78).keep hb3 (fun h => h)
    exact ye (v := .int .i64 (e.ev.field)) kT (show _ = (.pointer (some ⟨b2, 6, none⟩) : Value) from (Eq.trans e19 (if_pos hb80))) (zd h82 rfl) ⟨Chg.refl _ _, (if_pos hb80).symm⟩
  · intro vals w25 hR83 hA
    have hs84 := hR83.size
    have e17 : (vals 17) = (.bool (((!((zo p (e.ev) reg).isSome)) || e.void) || (!decide (e.ev.typ = p.ptyp))) : Value) := hA 17 (by decide)
    refine zz rfl rfl (show _ = (.bool (((!((zo p (e.ev) reg).isSome)) || e.void) || (!decide (e.ev.typ = p.ptyp))) : Value) from e17) (fun hb85 => ?_) (fun hb85 => (if_neg hb85).symm)
    have hl86 : (((!((zo p (e.ev) reg).isSome)) || e.void) || (!decide (e.ev.typ = p.ptyp))) = false := hb85
    simp only [Bool.and_eq_true, Bool.or_eq_true, Bool.and_eq_false_iff, Bool.or_eq_false_iff, decide_eq_true_eq, decide_eq_false_iff_not, Bool.not_eq_true', Bool.not_eq_false', Int.not_lt, Int.not_le] at hl86
    exact zq (v := .pointer (some ⟨a, 0, none⟩)) rfl ⟨Chg.refl _ _, (if_pos hb85).symm⟩
  · intro vals w26 hR87 hA
    have hs88 := hR87.size
    have e17 : (vals 17) = (.bool (((!((zo p (e.ev) reg).isSome)) || e.void) || (!decide (e.ev.typ = p.ptyp))) : Value) := hA 17 (by decide)
    have e21 : (vals 21) = (if (((!((zo p (e.ev) reg).isSome)) || e.void) || (!decide (e.ev.typ = p.ptyp))) = false then (.pointer (some ⟨a, 0, none⟩) : Value) else undef) := hA 21 (by decide)
    refine zz rfl rfl (show _ = (.bool (((!((zo p (e.ev) reg).isSome)) || e.void) || (!decide (e.ev.typ = p.ptyp))) : Value) from e17) (fun hb89 => ?_) (fun hb89 => (if_neg hb89).symm)
    have hl90 : (((!((zo p (e.ev) reg).isSome)) || e.void) || (!decide (e.ev.typ = p.ptyp))) = false := hb89
    simp only [Bool.and_eq_true, Bool.or_eq_true, Bool.and_eq_false_iff, Bool.or_eq_false_iff, decide_eq_true_eq, decide_eq_false_iff_not, Bool.not_eq_true', Bool.not_eq_false', Int.not_lt, Int.not_le] at hl90
    exact zl (b := a) (o := 0) (show _ = (.pointer (some ⟨a, 0, none⟩) : Value) from (Eq.trans e21 (if_pos hb89))) ⟨Chg.refl _ _, (if_pos hb89).symm⟩
  · intro vals w27 hR91 hA
    have hs92 := hR91.size
    have e17 : (vals 17) = (.bool (((!((zo p (e.ev) reg).isSome)) || e.void) || (!decide (e.ev.typ = p.ptyp))) : Value) := hA 17 (by decide)
    have e22 : (vals 22) = (if (((!((zo p (e.ev) reg).isSome)) || e.void) || (!decide (e.ev.typ = p.ptyp))) = false then (.pointer (some ⟨a, 0, none⟩) : Value) else undef) := hA 22 (by decide)
    refine zz rfl rfl (show _ = (.bool (((!((zo p (e.ev) reg).isSome)) || e.void) || (!decide (e.ev.typ = p.ptyp))) : Value) from e17) (fun hb93 => ?_) (fun hb93 => (if_neg hb93).symm)
    have hl94 : (((!((zo p (e.ev) reg).isSome)) || e.void) || (!decide (e.ev.typ = p.ptyp))) = false := hb93
    simp only [Bool.and_eq_true, Bool.or_eq_true, Bool.and_eq_false_iff, Bool.or_eq_false_iff, decide_eq_true_eq, decide_eq_false_iff_not, Bool.not_eq_true', Bool.not_eq_false', Int.not_lt, Int.not_le] at hl94
    exact xz (show _ = (.pointer (some ⟨a, 0, none⟩) : Value) from (Eq.trans e22 (if_pos hb93))) ⟨Chg.refl _ _, (if_pos hb93).symm⟩
  · intro vals w28 hR95 hA
    have hs96 := hR95.size
    have e17 : (vals 17) = (.bool (((!((zo p (e.ev) reg).isSome)) || e.void) || (!decide (e.ev.typ = p.ptyp))) : Value) := hA 17 (by decide)
    have e23 : (vals 23) = (if (((!((zo p (e.ev) reg).isSome)) || e.void) || (!decide (e.ev.typ = p.ptyp))) = false then (.pointer (some ⟨a, 0, none⟩) : Value) else undef) := hA 23 (by decide)
    refine zz rfl rfl (show _ = (.bool (((!((zo p (e.ev) reg).isSome)) || e.void) || (!decide (e.ev.typ = p.ptyp))) : Value) from e17) (fun hb97 => ?_) (fun hb97 => (if_neg hb97).symm)
    have hl98 : (((!((zo p (e.ev) reg).isSome)) || e.void) || (!decide (e.ev.typ = p.ptyp))) = false := hb97
    simp only [Bool.and_eq_true, Bool.or_eq_true, Bool.and_eq_false_iff, Bool.or_eq_false_iff, decide_eq_true_eq, decide_eq_false_iff_not, Bool.not_eq_true', Bool.not_eq_false', Int.not_lt, Int.not_le] at hl98
    exact zat (show _ = (.pointer (some ⟨a, 0, none⟩) : Value) from (Eq.trans e23 (if_pos hb97))) ⟨Chg.refl _ _, (if_pos hb97).symm⟩
  · intro vals w29 hR99 hA
    have hs100 := hR99.size
    have e17 : (vals 17) = (.bool (((!((zo p (e.ev) reg).isSome)) || e.void) || (!decide (e.ev.typ = p.ptyp))) : Value) := hA 17 (by decide)
    have e24 : (vals 24) = (if (((!((zo p (e.ev) reg).isSome)) || e.void) || (!decide (e.ev.typ = p.ptyp))) = false then (.pointer (some ⟨a, 1, none⟩) : Value) else undef) := hA 24 (by decide)
    refine zz rfl rfl (show _ = (.bool (((!((zo p (e.ev) reg).isSome)) || e.void) || (!decide (e.ev.typ = p.ptyp))) : Value) from e17) (fun hb101 => ?_) (fun hb101 => (if_neg hb101).symm)
    have hl102 : (((!((zo p (e.ev) reg).isSome)) || e.void) || (!decide (e.ev.typ = p.ptyp))) = false := hb101
    simp only [Bool.and_eq_true, Bool.or_eq_true, Bool.and_eq_false_iff, Bool.or_eq_false_iff, decide_eq_true_eq, decide_eq_false_iff_not, Bool.not_eq_true', Bool.not_eq_false', Int.not_lt, Int.not_le] at hl102
    have h103 := (Chg.trans (Chg.trans hx7 hx8) hR99).keep h5 (fun h => h)
    exact ye (v := .int .i64 (p.pfield)) kT (show _ = (.pointer (some ⟨a, 1, none⟩) : Value) from (Eq.trans e24 (if_pos hb101))) (zd h103 rfl) ⟨Chg.refl _ _, (if_pos hb101).symm⟩
  · intro vals w30 hR104 hA
    have hs105 := hR104.size
    have e17 : (vals 17) = (.bool (((!((zo p (e.ev) reg).isSome)) || e.void) || (!decide (e.ev.typ = p.ptyp))) : Value) := hA 17 (by decide)
    have e20 : (vals 20) = (if (((!((zo p (e.ev) reg).isSome)) || e.void) || (!decide (e.ev.typ = p.ptyp))) = false then (.int .i64 (e.ev.field) : Value) else undef) := hA 20 (by decide)
    have e25 : (vals 25) = (if (((!((zo p (e.ev) reg).isSome)) || e.void) || (!decide (e.ev.typ = p.ptyp))) = false then (.int .i64 (p.pfield) : Value) else undef) := hA 25 (by decide)
    refine zz rfl rfl (show _ = (.bool (((!((zo p (e.ev) reg).isSome)) || e.void) || (!decide (e.ev.typ = p.ptyp))) : Value) from e17) (fun hb106 => ?_) (fun hb106 => (if_neg hb106).symm)
    have hl107 : (((!((zo p (e.ev) reg).isSome)) || e.void) || (!decide (e.ev.typ = p.ptyp))) = false := hb106
    simp only [Bool.and_eq_true, Bool.or_eq_true, Bool.and_eq_false_iff, Bool.or_eq_false_iff, decide_eq_true_eq, decide_eq_false_iff_not, Bool.not_eq_true', Bool.not_eq_false', Int.not_lt, Int.not_le] at hl107
    exact yw (k := .i64) (a := e.ev.field) (b := p.pfield) (show _ = (.int .i64 (e.ev.field) : Value) from (Eq.trans e20 (if_pos hb106))) (show _ = (.int .i64 (p.pfield) : Value) from (Eq.trans e25 (if_pos hb106))) ⟨Chg.refl _ _, (if_pos hb106).symm⟩
  · intro vals w31 hR108 hA
    have hs109 := hR108.size
    have e17 : (vals 17) = (.bool (((!((zo p (e.ev) reg).isSome)) || e.void) || (!decide (e.ev.typ = p.ptyp))) : Value) := hA 17 (by decide)
    have e26 : (vals 26) = (if (((!((zo p (e.ev) reg).isSome)) || e.void) || (!decide (e.ev.typ = p.ptyp))) = false then (.bool (!decide (e.ev.field = p.pfield)) : Value) else undef) := hA 26 (by decide)
    refine obl rfl ?_
    exact zx (b := ((!((zo p (e.ev) reg).isSome)) || e.void) || (!decide (e.ev.typ = p.ptyp))) (b' := !decide (e.ev.field = p.pfield)) (show _ = (.bool (((!((zo p (e.ev) reg).isSome)) || e.void) || (!decide (e.ev.typ = p.ptyp))) : Value) from e17) (fun hbp => (show _ = (.bool (!decide (e.ev.field = p.pfield)) : Value) from (Eq.trans e26 (if_pos hbp)))) ⟨Chg.refl _ _, rfl⟩
  intro vals w32 hR110 hA
  have hs111 := hR110.size
  have hs112 := hx8.size
  have e27 : (vals 27) = (.bool ((((!((zo p (e.ev) reg).isSome)) || e.void) || (!decide (e.ev.typ = p.ptyp))) || (!decide (e.ev.field = p.pfield))) : Value) := hA 27 (by decide)
  refine zW (kv := [(0, .pointer (some ⟨a, 0, none⟩)), (1, .agg (e.cells de0).toArray), (2, .int .i64 (reg)), (4, .pointer (some ⟨b2, 0, none⟩)), (10, .pointer (some ⟨a, 0, none⟩)), (11, .pointer (some ⟨b2, 0, none⟩)), (12, .agg ((e.ev).cells de0).toArray), (13, .int .i64 (reg)), (14, .tuple #[.int .i64 ((zo p (e.ev) reg).getD 0), .bool ((zo p (e.ev) reg).isSome)]), (9, .tuple #[.int .i64 ((zo p (e.ev) reg).getD 0), .bool ((zo p (e.ev) reg).isSome)]), (15, .int .i64 ((zo p (e.ev) reg).getD 0)), (16, .bool ((zo p (e.ev) reg).isSome)), (6, .int .i64 ((zo p (e.ev) reg).getD 0)), (7, .bool ((zo p (e.ev) reg).isSome)), (44, .bool ((((!((zo p (e.ev) reg).isSome)) || e.void) || (!decide (e.ev.typ = p.ptyp))) || (!decide (e.ev.field = p.pfield))))]) ⟨rfl, rfl, rfl, rfl, rfl, rfl, rfl, rfl, rfl, rfl, rfl, rfl, rfl, rfl, (by exact e27), trivial⟩ (fun ρ32 => ?_)
  clear e27
  clear hA qh1 qh2 qh3 qh4
  refine zb ?_
  cases hc113 : (((!((zo p (e.ev) reg).isSome)) || e.void) || (!decide (e.ev.typ = p.ptyp))) || (!decide (e.ev.field = p.pfield))
  · skip
    simp only [Bool.and_eq_true, Bool.or_eq_true, Bool.and_eq_false_iff, Bool.or_eq_false_iff, decide_eq_true_eq, decide_eq_false_iff_not, Bool.not_eq_true', Bool.not_eq_false', Int.not_lt, Int.not_le] at hc113
    refine zf rfl ?_
    refine zn ?_
    refine za ?_
    refine zt (by kernel_rfl) (fun _ => ?_)
    refine st (zq (v := .pointer (some ⟨a, 0, none⟩)) rfl ?_)
    refine st (zl (b := a) (o := 0) rfl ?_)
    refine st (Wz rfl ?_)
    have h114 := (Chg.trans (Chg.trans hx7 hx8) hR110).keep h5 (fun h => h)
    refine st (ye (v := .map (some m)) pY rfl (zd h114 rfl) ?_)
    refine st (zq (v := .int .i64 ((zo p (e.ev) reg).getD 0)) rfl ?_)
    have h115 := hm.ext (Chg.trans (Chg.trans (Chg.trans hn1.ext hx7) hx8) hR110)
    refine st (Qy (α := Row) (d0 := (⟨0, 0, 0⟩ : Row)) (zc := Row.cells (⟨0, 0, 0⟩ : Row)) qY rY sY (fun _ _ => ⟨rfl, ⟨by decide, by decide, by decide⟩⟩) rfl rfl h115 ?_)
    rintro _ ⟨rfl, ok118⟩
    refine st (zI sY (fun w33 b120 hn119 => ?_))
    have hb121 : w33.heap[b120]? = some (.cells #[.int .i64 (0), .int .i64 (0), .int .i64 (0)] 44) := hn119.at_
    have hs122 := hn119.size; have hs122e := hn119.eq
    refine stn (zA (v := .agg (((zK L ((zo p (e.ev) reg).getD 0)).getD (⟨0, 0, 0⟩ : Row)).cells).toArray) (c' := (((zK L ((zo p (e.ev) reg).getD 0)).getD (⟨0, 0, 0⟩ : Row)).cells).toArray) uR rfl rfl hb121 (yf ⟨rfl, rfl, rfl, trivial⟩) (Nat.le_of_ble_eq_true rfl) rfl (fun w34 hp123 => ?_))
    have hs124 := hp123.size
    refine zb ?_
    refine za ?_
    refine zt (by kernel_rfl) (fun _ => ?_)
    refine st (zq (v := .int .i64 ((zo p (e.ev) reg).getD 0)) rfl ?_)
    refine st (VP rfl ?_)
    refine stn (yq (v := .int .i64 ((zo p (e.ev) reg).getD 0)) (c := [.int .i64 (((zK L ((zo p (e.ev) reg).getD 0)).getD (⟨0, 0, 0⟩ : Row)).group), .int .i64 (((zK L ((zo p (e.ev) reg).getD 0)).getD (⟨0, 0, 0⟩ : Row)).value), .int .i64 (((zK L ((zo p (e.ev) reg).getD 0)).getD (⟨0, 0, 0⟩ : Row)).count)]) (c' := [.int .i64 ((zo p (e.ev) reg).getD 0), .int .i64 (((zK L ((zo p (e.ev) reg).getD 0)).getD (⟨0, 0, 0⟩ : Row)).value), .int .i64 (((zK L ((zo p (e.ev) reg).getD 0)).getD (⟨0, 0, 0⟩ : Row)).count)]) mT rfl rfl hp123.at_ rfl rfl rfl (fun w35 hp125 => ?_))
    have hs126 := hp125.size
    have ok127 : Row.Ok (⟨(zo p (e.ev) reg).getD 0, ((zK L ((zo p (e.ev) reg).getD 0)).getD (⟨0, 0, 0⟩ : Row)).value, ((zK L ((zo p (e.ev) reg).getD 0)).getD (⟨0, 0, 0⟩ : Row)).count⟩ : Row) := ⟨(YU oe.ev hreg), ok118.value, ok118.count⟩
    refine zb ?_
    refine za ?_
    refine zt (by kernel_rfl) (fun _ => ?_)
    refine st (Wp rfl ?_)
    refine st (ye (v := .int .i64 (((zK L ((zo p (e.ev) reg).getD 0)).getD (⟨0, 0, 0⟩ : Row)).count)) kT rfl (zd hp125.at_ rfl) ?_)
    have hcg := hcnt ((zo p (e.ev) reg).getD 0); have hci := ok118.count
    have hr128 : InR ((((zK L ((zo p (e.ev) reg).getD 0)).getD (⟨0, 0, 0⟩ : Row)).count) + 1) := by omega
    refine st (zO (r := (((zK L ((zo p (e.ev) reg).getD 0)).getD (⟨0, 0, 0⟩ : Row)).count) + 1) (k := .i64) (a := ((zK L ((zo p (e.ev) reg).getD 0)).getD (⟨0, 0, 0⟩ : Row)).count) (b := 1) rfl rfl (zy hr128) ?_)
    refine st (Wp rfl ?_)
    refine stn (yq (v := .int .i64 ((((zK L ((zo p (e.ev) reg).getD 0)).getD (⟨0, 0, 0⟩ : Row)).count) + 1)) (c := [.int .i64 ((zo p (e.ev) reg).getD 0), .int .i64 (((zK L ((zo p (e.ev) reg).getD 0)).getD (⟨0, 0, 0⟩ : Row)).value), .int .i64 (((zK L ((zo p (e.ev) reg).getD 0)).getD (⟨0, 0, 0⟩ : Row)).count)]) (c' := [.int .i64 ((zo p (e.ev) reg).getD 0), .int .i64 (((zK L ((zo p (e.ev) reg).getD 0)).getD (⟨0, 0, 0⟩ : Row)).value), .int .i64 ((((zK L ((zo p (e.ev) reg).getD 0)).getD (⟨0, 0, 0⟩ : Row)).count) + 1)]) mT rfl rfl hp125.at_ rfl rfl rfl (fun w36 hp129 => ?_))
    have hs130 := hp129.size
    have ok131 : Row.Ok (⟨(zo p (e.ev) reg).getD 0, ((zK L ((zo p (e.ev) reg).getD 0)).getD (⟨0, 0, 0⟩ : Row)).value, (((zK L ((zo p (e.ev) reg).getD 0)).getD (⟨0, 0, 0⟩ : Row)).count) + 1⟩ : Row) := ⟨(YU oe.ev hreg), ok118.value, hr128⟩
    refine zb ?_
    refine za ?_
    refine zt (by kernel_rfl) (fun _ => ?_)
    refine st (zq (v := .pointer (some ⟨a, 0, none⟩)) rfl ?_)
    refine st (zg (k := 3) tY uR rfl rfl (CellsAt.all hp129.at_) ?_)
    refine st (WB rfl ?_)
    refine st (QJ rfl ?_)
    have h132 := (Chg.new (Chg.new (Chg.new (Chg.trans (Chg.trans (Chg.trans hx7 hx8) hR110) hn119.ext) hp123.chg (fun i hi hO => by subst hO; omega)) hp125.chg (fun i hi hO => by subst hO; omega)) hp129.chg (fun i hi hO => by subst hO; omega)).keep hb3 (fun h => h)
    refine st (ye (v := .int .i64 (e.ev.arg)) kT rfl (zd h132 rfl) ?_)
    have h133 := (Chg.new (Chg.new (Chg.new hn119.ext hp123.chg (fun i hi hO => by subst hO; omega)) hp125.chg (fun i hi hO => by subst hO; omega)) hp129.chg (fun i hi hO => by subst hO; omega)).keep h114 (fun h => h)
    refine st (zL (f := 86) (vals := [.pointer (some ⟨a, 0, none⟩), .agg ((⟨(zo p (e.ev) reg).getD 0, ((zK L ((zo p (e.ev) reg).getD 0)).getD (⟨0, 0, 0⟩ : Row)).value, (((zK L ((zo p (e.ev) reg).getD 0)).getD (⟨0, 0, 0⟩ : Row)).count) + 1⟩ : Row).cells).toArray, .int .i64 (e.ev.arg)]) (cap := []) rfl rfl Tryz.call86 (zao h133 op ok131 oe.ev.arg) ?_)
    rintro _ w37 ⟨rfl, hx134⟩
    have hx134s := hx134.size
    refine st (WM rfl ?_)
    have h135 := hx134.keep hp129.at_ (fun h => h)
    refine stn (yq (v := .int .i64 (yT p (⟨(zo p (e.ev) reg).getD 0, ((zK L ((zo p (e.ev) reg).getD 0)).getD (⟨0, 0, 0⟩ : Row)).value, (((zK L ((zo p (e.ev) reg).getD 0)).getD (⟨0, 0, 0⟩ : Row)).count) + 1⟩ : Row) e.ev.arg)) (c := [.int .i64 ((zo p (e.ev) reg).getD 0), .int .i64 (((zK L ((zo p (e.ev) reg).getD 0)).getD (⟨0, 0, 0⟩ : Row)).value), .int .i64 ((((zK L ((zo p (e.ev) reg).getD 0)).getD (⟨0, 0, 0⟩ : Row)).count) + 1)]) (c' := [.int .i64 ((zo p (e.ev) reg).getD 0), .int .i64 (yT p (⟨(zo p (e.ev) reg).getD 0, ((zK L ((zo p (e.ev) reg).getD 0)).getD (⟨0, 0, 0⟩ : Row)).value, (((zK L ((zo p (e.ev) reg).getD 0)).getD (⟨0, 0, 0⟩ : Row)).count) + 1⟩ : Row) e.ev.arg), .int .i64 ((((zK L ((zo p (e.ev) reg).getD 0)).getD (⟨0, 0, 0⟩ : Row)).count) + 1)]) mT rfl rfl h135 rfl rfl rfl (fun w38 hp136 => ?_))
    have hs137 := hp136.size
    have ok138 : Row.Ok (⟨(zo p (e.ev) reg).getD 0, yT p (⟨(zo p (e.ev) reg).getD 0, ((zK L ((zo p (e.ev) reg).getD 0)).getD (⟨0, 0, 0⟩ : Row)).value, (((zK L ((zo p (e.ev) reg).getD 0)).getD (⟨0, 0, 0⟩ : Row)).count) + 1⟩ : Row) e.ev.arg, (((zK L ((zo p (e.ev) reg).getD 0)).getD (⟨0, 0, 0⟩ : Row)).count) + 1⟩ : Row) := ⟨(YU oe.ev hreg), (Ja ok131.value ok131.count oe.ev.arg), hr128⟩
    refine zb ?_
    refine UM Ext (AL [fun v w => v = (.pointer (some ⟨a, 0, none⟩) : Value), fun v w => v = (.pointer (some ⟨a, 0, none⟩) : Value), fun v w => v = (.pointer (some ⟨a, 5, none⟩) : Value), fun v w => v = (.map (some m) : Value), fun v w => v = (.int .i64 ((zo p (e.ev) reg).getD 0) : Value), fun v w => v = (.agg ((⟨(zo p (e.ev) reg).getD 0, yT p (⟨(zo p (e.ev) reg).getD 0, ((zK L ((zo p (e.ev) reg).getD 0)).getD (⟨0, 0, 0⟩ : Row)).value, (((zK L ((zo p (e.ev) reg).getD 0)).getD (⟨0, 0, 0⟩ : Row)).count) + 1⟩ : Row) e.ev.arg, (((zK L ((zo p (e.ev) reg).getD 0)).getD (⟨0, 0, 0⟩ : Row)).count) + 1⟩ : Row).cells).toArray : Value)]) [[], [0], [0, 1], [0, 1, 2], [], [], [0, 1, 2, 3, 4, 5]] 6 (by kernel_rfl) (by kernel_rfl) (by kernel_rfl) (fun w => Chg.refl _ w) (fun _ _ _ h1 h2 => h1.trans h2) (zad ⟨fun _ _ _ _ h => h, fun _ _ _ _ h => h, fun _ _ _ _ h => h, fun _ _ _ _ h => h, fun _ _ _ _ h => h, fun _ _ _ _ h => h, trivial⟩) ?_
    intro w39 qh1 qh2 qh3 qh4
    have hx139 := Yi qh1 qh2 qh3 qh4
    refine ⟨⟨?_, ?_, ?_, ?_, ?_, ?_, trivial⟩, ?_⟩
    · intro vals w40 hR140 hA
      have hs141 := hR140.size
      refine obl rfl ?_
      exact zq (v := .pointer (some ⟨a, 0, none⟩)) rfl ⟨Chg.refl _ _, rfl⟩
    · intro vals w41 hR142 hA
      have hs143 := hR142.size
      have e0 : (vals 0) = (.pointer (some ⟨a, 0, none⟩) : Value) := hA 0 (by decide)
      refine obl rfl ?_
      exact zl (b := a) (o := 0) (show _ = (.pointer (some ⟨a, 0, none⟩) : Value) from e0) ⟨Chg.refl _ _, rfl⟩
    · intro vals w42 hR144 hA
      have hs145 := hR144.size
      have e1 : (vals 1) = (.pointer (some ⟨a, 0, none⟩) : Value) := hA 1 (by decide)
      refine obl rfl ?_
      exact Wz (show _ = (.pointer (some ⟨a, 0, none⟩) : Value) from e1) ⟨Chg.refl _ _, rfl⟩
    · intro vals w43 hR146 hA
      have hs147 := hR146.size
      have e2 : (vals 2) = (.pointer (some ⟨a, 5, none⟩) : Value) := hA 2 (by decide)
      refine obl rfl ?_
      have h148 := (hR146.keep (hx139.keep (hp136.chg.keep (hx134.keep h133 (fun h => h)) (fun e => by have e : a = b120 := e; omega)) (fun h => h)) (fun h => h))
      exact ye (v := .map (some m)) pY (show _ = (.pointer (some ⟨a, 5, none⟩) : Value) from e2) (zd h148 rfl) ⟨Chg.refl _ _, rfl⟩
    · intro vals w44 hR149 hA
      have hs150 := hR149.size
      refine obl rfl ?_
      exact zq (v := .int .i64 ((zo p (e.ev) reg).getD 0)) rfl ⟨Chg.refl _ _, rfl⟩
    · intro vals w45 hR151 hA
      have hs152 := hR151.size
      refine obl rfl ?_
      have h153 := (Chg.trans hx139 hR151).keep hp136.at_ (fun h => h)
      exact zg (k := 3) tY uR rfl rfl (CellsAt.all h153) ⟨Chg.refl _ _, rfl⟩
    intro vals w46 hR154 hA
    have hs155 := hR154.size
    have hs156 := hx139.size
    have e3 : (vals 3) = (.map (some m) : Value) := hA 3 (by decide)
    have e4 : (vals 4) = (.int .i64 ((zo p (e.ev) reg).getD 0) : Value) := hA 4 (by decide)
    have e5 : (vals 5) = (.agg ((⟨(zo p (e.ev) reg).getD 0, yT p (⟨(zo p (e.ev) reg).getD 0, ((zK L ((zo p (e.ev) reg).getD 0)).getD (⟨0, 0, 0⟩ : Row)).value, (((zK L ((zo p (e.ev) reg).getD 0)).getD (⟨0, 0, 0⟩ : Row)).count) + 1⟩ : Row) e.ev.arg, (((zK L ((zo p (e.ev) reg).getD 0)).getD (⟨0, 0, 0⟩ : Row)).count) + 1⟩ : Row).cells).toArray : Value) := hA 5 (by decide)
    refine zW (kv := [(0, .pointer (some ⟨a, 0, none⟩)), (1, .agg (e.cells de0).toArray), (2, .int .i64 (reg)), (4, .pointer (some ⟨b2, 0, none⟩)), (10, .pointer (some ⟨a, 0, none⟩)), (11, .pointer (some ⟨b2, 0, none⟩)), (12, .agg ((e.ev).cells de0).toArray), (13, .int .i64 (reg)), (14, .tuple #[.int .i64 ((zo p (e.ev) reg).getD 0), .bool ((zo p (e.ev) reg).isSome)]), (9, .tuple #[.int .i64 ((zo p (e.ev) reg).getD 0), .bool ((zo p (e.ev) reg).isSome)]), (15, .int .i64 ((zo p (e.ev) reg).getD 0)), (16, .bool ((zo p (e.ev) reg).isSome)), (6, .int .i64 ((zo p (e.ev) reg).getD 0)), (7, .bool ((zo p (e.ev) reg).isSome)), (44, .bool false), (45, .pointer (some ⟨a, 0, none⟩)), (46, .pointer (some ⟨a, 0, none⟩)), (47, .pointer (some ⟨a, 5, none⟩)), (48, .map (some m)), (49, .int .i64 ((zo p (e.ev) reg).getD 0)), (50, .agg (((zK L ((zo p (e.ev) reg).getD 0)).getD (⟨0, 0, 0⟩ : Row)).cells).toArray), (8, .pointer (some ⟨b120, 0, none⟩)), (51, .int .i64 ((zo p (e.ev) reg).getD 0)), (52, .pointer (some ⟨b120, 0, none⟩)), (53, .pointer (some ⟨b120, 2, none⟩)), (54, .int .i64 (((zK L ((zo p (e.ev) reg).getD 0)).getD (⟨0, 0, 0⟩ : Row)).count)), (55, .int .i64 ((((zK L ((zo p (e.ev) reg).getD 0)).getD (⟨0, 0, 0⟩ : Row)).count) + 1)), (56, .pointer (some ⟨b120, 2, none⟩)), (57, .pointer (some ⟨a, 0, none⟩)), (58, .agg ((⟨(zo p (e.ev) reg).getD 0, ((zK L ((zo p (e.ev) reg).getD 0)).getD (⟨0, 0, 0⟩ : Row)).value, (((zK L ((zo p (e.ev) reg).getD 0)).getD (⟨0, 0, 0⟩ : Row)).count) + 1⟩ : Row).cells).toArray), (59, .pointer (some ⟨b2, 0, none⟩)), (60, .pointer (some ⟨b2, 8, none⟩)), (61, .int .i64 (e.ev.arg)), (62, .int .i64 (yT p (⟨(zo p (e.ev) reg).getD 0, ((zK L ((zo p (e.ev) reg).getD 0)).getD (⟨0, 0, 0⟩ : Row)).value, (((zK L ((zo p (e.ev) reg).getD 0)).getD (⟨0, 0, 0⟩ : Row)).count) + 1⟩ : Row) e.ev.arg)), (63, .pointer (some ⟨b120, 1, none⟩)), (67, .map (some m)), (68, .int .i64 ((zo p (e.ev) reg).getD 0)), (69, .agg ((⟨(zo p (e.ev) reg).getD 0, yT p (⟨(zo p (e.ev) reg).getD 0, ((zK L ((zo p (e.ev) reg).getD 0)).getD (⟨0, 0, 0⟩ : Row)).value, (((zK L ((zo p (e.ev) reg).getD 0)).getD (⟨0, 0, 0⟩ : Row)).count) + 1⟩ : Row) e.ev.arg, (((zK L ((zo p (e.ev) reg).getD 0)).getD (⟨0, 0, 0⟩ : Row)).count) + 1⟩ : Row).cells).toArray)]) ⟨rfl, rfl, rfl, rfl, rfl, rfl, rfl, rfl, rfl, rfl, rfl, rfl, rfl, rfl, rfl, rfl, rfl, rfl, rfl, rfl, rfl, rfl, rfl, rfl, rfl, rfl, rfl, rfl, rfl, rfl, rfl, rfl, rfl, rfl, rfl, (by exact e3), (by exact e4), (by exact e5), trivial⟩ (fun ρ46 => ?_)
    clear e3 e4 e5
    clear hA qh1 qh2 qh3 qh4
    have h157 := (MapR.ext (MapR.ext (MapR.chg (MapR.ext (MapR.chg (MapR.chg (MapR.chg (MapR.ext h115 hn119.ext) hp123.chg (fun e => by have e : m = b120 := e; omega) (fun _ h => h.elim)) hp125.chg (fun e => by have e : m = b120 := e; omega) (fun _ h => h.elim)) hp129.chg (fun e => by have e : m = b120 := e; omega) (fun _ h => h.elim)) hx134) hp136.chg (fun e => by have e : m = b120 := e; omega) (fun _ h => h.elim)) hx139) hR154)
    refine stn (Yr (α := Row) (x1 := (⟨(zo p (e.ev) reg).getD 0, yT p (⟨(zo p (e.ev) reg).getD 0, ((zK L ((zo p (e.ev) reg).getD 0)).getD (⟨0, 0, 0⟩ : Row)).value, (((zK L ((zo p (e.ev) reg).getD 0)).getD (⟨0, 0, 0⟩ : Row)).count) + 1⟩ : Row) e.ev.arg, (((zK L ((zo p (e.ev) reg).getD 0)).getD (⟨0, 0, 0⟩ : Row)).count) + 1⟩ : Row)) (cs := ((⟨(zo p (e.ev) reg).getD 0, yT p (⟨(zo p (e.ev) reg).getD 0, ((zK L ((zo p (e.ev) reg).getD 0)).getD (⟨0, 0, 0⟩ : Row)).value, (((zK L ((zo p (e.ev) reg).getD 0)).getD (⟨0, 0, 0⟩ : Row)).count) + 1⟩ : Row) e.ev.arg, (((zK L ((zo p (e.ev) reg).getD 0)).getD (⟨0, 0, 0⟩ : Row)).count) + 1⟩ : Row).cells)) qY rY rfl rfl rfl (YU oe.ev hreg) h157 ⟨rfl, ok138⟩ (fun h => h) (fun w47 hm159 hch158 => ?_))
    have hch158s := hch158.size
    refine zb ?_
    refine YQ uY ?_
    refine ⟨rfl, ?_, (Chg.trans (Chg.trans (Chg.trans (Chg.new (Chg.trans (Chg.new (Chg.new (Chg.new (Chg.trans (Chg.trans (Chg.trans (Chg.trans (Chg.ext _ hn1.ext) (Chg.ext _ hx7)) (Chg.ext _ hx8)) (Chg.ext _ hR110)) (Chg.ext _ hn119.ext)) hp123.chg (fun i hi hO => by exfalso; subst hO; omega)) hp125.chg (fun i hi hO => by exfalso; subst hO; omega)) hp129.chg (fun i hi hO => by exfalso; subst hO; omega)) (Chg.ext _ hx134)) hp136.chg (fun i hi hO => by exfalso; subst hO; omega)) (Chg.ext _ hx139)) (Chg.ext _ hR154)) hch158)⟩
    obtain ⟨g, hg⟩ := Option.isSome_iff_exists.1 hc113.1.1.1
    have hadd : Zl p L e reg = yU L ((zo p (e.ev) reg).getD 0) (⟨(zo p (e.ev) reg).getD 0, yT p (⟨(zo p (e.ev) reg).getD 0, ((zK L ((zo p (e.ev) reg).getD 0)).getD (⟨0, 0, 0⟩ : Row)).value, (((zK L ((zo p (e.ev) reg).getD 0)).getD (⟨0, 0, 0⟩ : Row)).count) + 1⟩ : Row) e.ev.arg, (((zK L ((zo p (e.ev) reg).getD 0)).getD (⟨0, 0, 0⟩ : Row)).count) + 1⟩ : Row) := by
      unfold Zl
      rw [hg]
      simp only []
      rw [if_neg (by rintro (h | h | h); rw [hc113.1.1.2] at h; cases h; omega; omega)]
      rfl
    rw [hadd]
    exact hm159
  · skip
    simp only [Bool.and_eq_true, Bool.or_eq_true, Bool.and_eq_false_iff, Bool.or_eq_false_iff, decide_eq_true_eq, decide_eq_false_iff_not, Bool.not_eq_true', Bool.not_eq_false', Int.not_lt, Int.not_le] at hc113
    refine zi rfl ?_
    refine zm ?_
    refine fin0r uY ?_
    have h160 := hm.ext (Chg.trans (Chg.trans (Chg.trans hn1.ext hx7) hx8) hR110)
    refine ⟨rfl, ?_, (Chg.trans (Chg.trans (Chg.trans (Chg.ext _ hn1.ext) (Chg.ext _ hx7)) (Chg.ext _ hx8)) (Chg.ext _ hR110))⟩
    have hadd : Zl p L e reg = L := by
      unfold Zl
      split
      · rfl
      · rename_i g hg
        rw [if_pos]
        rw [hg] at hc113
        rcases hc113 with ((h | h) | h) | h
        · cases h
        · exact .inl h
        · exact .inr (.inl h)
        · exact .inr (.inr h)
    rw [hadd]
    exact h160

end Go.Proofs.YtojlbibionhdjaaGreatDoor
namespace Go.Proofs.YtojlbibionhdjaaGreatDoor

theorem Qb {α : Type} {L : List (Int × α)} {k : Int} {x : α} : (∃ p ∈ L, p.1 = k) ∧ (yU L k x).map (·.1) = L.map (·.1) ∨ (∀ p ∈ L, p.1 ≠ k) ∧ yU L k x = L ++ [(k, x)] := by
  unfold yU
  split
  · rename_i j hj
    obtain ⟨h1, h2, h3⟩ := List.findIdx?_eq_some_iff_getElem.1 hj
    refine .inl ⟨⟨L[j], List.getElem_mem h1, by simpa using h2⟩, ?_⟩
    refine List.ext_getElem (by simp) fun i h4 h5 => ?_
    simp only [List.getElem_map, List.getElem_set]
    split
    · rename_i e; subst e; have h6 : L[j].1 = k := by simpa using h2
      exact h6.symm
    · rfl
  · rename_i hj
    rw [List.findIdx?_eq_none_iff] at hj
    exact .inr ⟨fun p hp => by simpa using hj p hp, rfl⟩
theorem Qt {α : Type} {L : List (Int × α)} {k g : Int} {x : α} : zK (yU L k x) g = if g = k then some x else zK L g := by
  unfold zK yU
  split
  · rename_i j hj
    obtain ⟨h1, h2, h3⟩ := List.findIdx?_eq_some_iff_getElem.1 hj
    have h2' : L[j].1 = k := by simpa using h2
    by_cases hg : g = k
    · subst hg
      rw [if_pos rfl]
      have : (L.set j (g, x)).find? (fun p => p.1 == g) = some (g, x) := by
        rw [List.find?_eq_some_iff_getElem]
        refine ⟨by simp, j, by simpa using h1, by simp, fun i hi => ?_⟩
        have h4 := h3 i hi
        simp only [List.getElem_set]
        rw [if_neg (by omega)]
        simpa using h4
      rw [this]; rfl
    · rw [if_neg hg]
      congr 1
      clear h3 hj
      induction L generalizing j with
      | nil => rfl
      | cons p L ih =>
        cases j with
        | zero =>
          simp only [List.set_cons_zero, List.find?_cons]
          have e1 : (k == g) = false := by simpa using fun e => hg e.symm
          have e2 : (p.1 == g) = false := by
            have : p.1 = k := by simpa using h2'
            rw [this]; exact e1
          simp only [e1, e2]
        | succ j =>
          simp only [List.set_cons_succ, List.find?_cons]
          split
          · rfl
          · exact ih j (by simpa using h1) (by simpa using h2) (by simpa using h2')
  · rename_i hj
    rw [List.findIdx?_eq_none_iff] at hj
    rw [List.find?_append]
    by_cases hg : g = k
    · subst hg
      rw [if_pos rfl]
      have : L.find? (fun p => p.1 == g) = none := by
        rw [List.find?_eq_none]
        intro p hp; simpa using hj p hp
      rw [this]; simp
    · rw [if_neg hg]
      have e1 : (k == g) = false := by simpa using fun e => hg e.symm
      simp [e1]
theorem Qn {α : Type} {L : List (Int × α)} (hn : (L.map (·.1)).Nodup) {p : Int × α} (hp : p ∈ L) : zK L p.1 = some p.2 := by
  obtain ⟨j, hj, rfl⟩ := List.getElem_of_mem hp
  unfold zK
  rw [YS hn hj]; rfl
theorem VM {α : Type} {L : List (Int × α)} {g : Int} {x : α} (h : zK L g = some x) : (g, x) ∈ L := by
  unfold zK at h
  rw [Option.map_eq_some_iff] at h
  obtain ⟨p, hp, rfl⟩ := h
  have h1 := List.find?_some hp
  have h2 := List.mem_of_find?_eq_some hp
  have : p.1 = g := by simpa using h1
  rw [← this]; exact h2

structure GoodM (L : List (Int × Row)) (k : Nat) : Prop where
  grp : ∀ q ∈ L, q.1 = q.2.group
  cnt : ∀ q ∈ L, 1 ≤ q.2.count ∧ q.2.count ≤ k
  nodup : (L.map (·.1)).Nodup
  len : L.length ≤ k
theorem QL : GoodM [] 0 := ⟨fun q h => (by cases h), fun q h => (by cases h), List.nodup_nil, Nat.le_refl _⟩
theorem XG {α : Type} {L : List (Int × α)} {k : Int} {x : α} {q : Int × α} (h : q ∈ yU L k x) : q = (k, x) ∨ q ∈ L := by
  unfold yU at h
  split at h
  · rcases List.mem_or_eq_of_mem_set h with h | h
    · exact .inr h
    · exact .inl h
  · rcases List.mem_append.1 h with h | h
    · exact .inr h
    · exact .inl (by simpa using h)
theorem Jd {L : List (Int × Row)} {k : Nat} (h : GoodM L k) (g : Int) : 0 ≤ ((zK L g).getD (⟨0, 0, 0⟩ : Row)).count ∧ ((zK L g).getD (⟨0, 0, 0⟩ : Row)).count ≤ k := by
  cases hl : zK L g with
  | none => simp
  | some x => have h1 : 1 ≤ x.count ∧ x.count ≤ k := h.cnt (g, x) (VM hl); simp; omega
theorem GoodM.add {L : List (Int × Row)} {k : Nat} (h : GoodM L k) (p : Prj) (e : Ent) (reg : Int) : GoodM (Zl p L e reg) (k + 1) := by
  have hw : GoodM L (k + 1) := ⟨h.grp, fun q hq => by have := h.cnt q hq; omega, h.nodup, Nat.le_succ_of_le h.len⟩
  unfold Zl
  split
  · exact hw
  · rename_i g hg
    split
    · exact hw
    · have hc := Jd h g
      refine ⟨fun q hq => ?_, fun q hq => ?_, ?_, ?_⟩
      · rcases XG hq with rfl | hq
        · rfl
        · exact h.grp q hq
      · rcases XG hq with rfl | hq
        · show 1 ≤ _ + 1 ∧ _ + 1 ≤ ((k + 1 : Nat) : Int)
          omega
        · have := h.cnt q hq; omega
      · rcases Qb (L := L) (k := g) (x := (⟨g, yT p ⟨g, ((zK L g).getD ⟨0, 0, 0⟩).value, ((zK L g).getD ⟨0, 0, 0⟩).count + 1⟩ e.ev.arg, ((zK L g).getD ⟨0, 0, 0⟩).count + 1⟩ : Row)) with ⟨_, h1⟩ | ⟨h1, h2⟩
        · rw [h1]; exact h.nodup
        · rw [h2, List.map_append, List.nodup_append]
          refine ⟨h.nodup, by simp, fun a ha b hb => ?_⟩
          simp at hb
          subst hb
          obtain ⟨q, hq, rfl⟩ := List.mem_map.1 ha
          exact h1 q hq
      · have := h.len
        unfold yU
        split
        · rw [List.length_set]; omega
        · rw [List.length_append]; simp; omega
def Uf (x : Row) : List Row → List Row
  | [] => [x]
  | y :: l => if x.group < y.group then x :: y :: l else y :: Uf x l
def XR : List Row → List Row
  | [] => []
  | x :: l => Uf x (XR l)
theorem YE (x : Row) : ∀ l, (Uf x l).Perm (x :: l)
  | [] => List.Perm.refl _
  | y :: l => by
    unfold Uf; split
    · exact List.Perm.refl _
    · exact ((YE x l).cons y).trans (List.Perm.swap x y l)
theorem Yx : ∀ l, (XR l).Perm l
  | [] => List.Perm.refl _
  | x :: l => (YE x _).trans ((Yx l).cons x)
theorem YJ (x : Row) : ∀ {l : List Row}, l.Pairwise (fun a b => ¬ b.group < a.group) → (Uf x l).Pairwise (fun a b => ¬ b.group < a.group)
  | [], _ => by simp [Uf]
  | y :: l, h => by
    obtain ⟨h1, h2⟩ := List.pairwise_cons.1 h
    unfold Uf; split
    · rename_i hl
      refine List.pairwise_cons.2 ⟨fun z hz => ?_, h⟩
      rcases List.mem_cons.1 hz with rfl | hz
      · omega
      · have := h1 z hz; omega
    · rename_i hl
      refine List.pairwise_cons.2 ⟨fun z hz => ?_, YJ x h2⟩
      rcases List.mem_cons.1 ((YE x l).subset hz) with rfl | hz
      · exact hl
      · exact h1 z hz
theorem Zy : ∀ l : List Row, (XR l).Pairwise (fun a b => ¬ b.group < a.group)
  | [] => List.Pairwise.nil
  | x :: l => YJ x (Zy l)
theorem Wk : ∀ {a b : List Row}, a.Perm b → a.Pairwise (fun x y => ¬ y.group < x.group) → b.Pairwise (fun x y => ¬ y.group < x.group) → (a.map (·.group)).Nodup → a = b
  | [], b, hp, _, _, _ => (List.nil_perm.1 hp).symm
  | x :: a, b, hp, ha, hb, hn => by
    cases b with
    | nil => exact absurd hp.symm (by simp)
    | cons y b =>
      obtain ⟨ha1, ha2⟩ := List.pairwise_cons.1 ha
      obtain ⟨hb1, hb2⟩ := List.pairwise_cons.1 hb
      have hn' := List.nodup_cons.1 (by simpa using hn : (x.group :: a.map (·.group)).Nodup)
      have hxy : x = y := by
        have hy : y ∈ x :: a := hp.symm.subset (List.mem_cons_self ..)
        have hx : x ∈ y :: b := hp.subset (List.mem_cons_self ..)
        rcases List.mem_cons.1 hy with h | h
        · exact h.symm
        · rcases List.mem_cons.1 hx with h' | h'
          · exact h'
          · have h1 := ha1 y h
            have h2 := hb1 x h'
            have : y.group = x.group := by omega
            exact absurd (this ▸ List.mem_map_of_mem (f := (·.group)) h) hn'.1
      subst hxy
      rw [Wk ((List.perm_cons x).1 hp) ha2 hb2 hn'.2]
theorem Yl {L : List (Int × Row)} (hg : ∀ q ∈ L, q.1 = q.2.group) (hn : (L.map (·.1)).Nodup) : ((L.map (·.2)).map (·.group)).Nodup := by
  have : (L.map (·.2)).map (·.group) = L.map (·.1) := by
    rw [List.map_map]
    exact List.map_congr_left fun q hq => (hg q hq).symm
  rw [this]; exact hn
theorem Vf {L : List (Int × Row)} (hg : ∀ q ∈ L, q.1 = q.2.group) (hn : (L.map (·.1)).Nodup) {l' : List Row} (hp : l'.Perm (L.map (·.2))) (hs : l'.Pairwise (fun a b => ¬ b.group < a.group)) : l' = XR (L.map (·.2)) := by
  refine Wk (hp.trans (Yx _).symm) hs (Zy _) ?_
  exact ((hp.map (·.group)).nodup_iff).2 (Yl hg hn)
theorem Jk {d : Dcl} {l : List Ev} {x : Ent} (h : x ∈ zu d l) : x.ev ∈ l := by
  induction l using Zg with
  | h0 => exact absurd h (List.not_mem_nil)
  | h1 l e ih =>
    rw [xm, List.mem_append] at h
    rw [List.mem_append]
    rcases h with h | h
    · exact .inl (ih h)
    · rw [List.mem_singleton] at h
      subst h
      exact .inr (List.mem_singleton.2 rfl)
theorem JO {d : Dcl} {l : List Ev} {e : Ev} (he : e.Ok) (hl : ∀ x ∈ l, x.Ok) : (yg d (zu d l) e).Ok := by
  have h0 : InR 0 := by decide
  have h1 : InR (yi d (zu d l) e).2.1 ∧ InR (yi d (zu d l) e).2.2 := by
    unfold yi
    split
    · exact ⟨h0, h0⟩
    split
    · rename_i x hx
      have hm := List.mem_of_find?_eq_some hx
      unfold yc at hm
      obtain ⟨y, hy, rfl⟩ := List.mem_map.1 hm
      have ho := hl _ (Jk (List.mem_filter.1 hy).1)
      exact ⟨ho.origin, ho.seq⟩
    · split
      · exact ⟨h0, h0⟩
      · exact ⟨h0, h0⟩
  exact ⟨he, h1.1, h1.2⟩
abbrev PR := Prj × List (Int × Row)
def Ko (d : Dcl) (p : Prj) (L : List Ent) (e : Ev) : Int := if p.pby < (((stL d (e.typ, e.agg) L).length : Nat) : Int) then ((stL d (e.typ, e.agg) L).getD p.pby.toNat default).n else 0
def JB (d : Dcl) (p : Prj) (l : List Ev) : List Ent × List (Int × Row) := l.foldl (fun q e => (q.1 ++ [yg d q.1 e], Zl p q.2 (yg d q.1 e) (Ko d p (q.1 ++ [yg d q.1 e]) e))) ([], [])
theorem KN (d : Dcl) (p : Prj) (l : List Ev) : (JB d p l).1 = zu d l := by
  induction l using Zg with
  | h0 => rfl
  | h1 l e ih => unfold JB at ih ⊢; rw [List.foldl_append, xm, ← ih]; rfl
def xx (d : Dcl) (p : Prj) (l : List Ev) : List (Int × Row) := (JB d p l).2
theorem YA (d : Dcl) (p : Prj) (l : List Ev) (e : Ev) : xx d p (l ++ [e]) = Zl p (xx d p l) (yg d (zu d l) e) (Ko d p (zu d (l ++ [e])) e) := by
  have h := KN d p l
  unfold xx
  rw [xm, ← h]
  unfold JB
  rw [List.foldl_append]
  rfl
theorem ZI (d : Dcl) (p : Prj) (l : List Ev) : GoodM (xx d p l) l.length := by
  induction l using Zg with
  | h0 => exact QL
  | h1 l e ih => rw [YA, List.length_append]; exact ih.add _ _ _
def prs (d : Dcl) (l : List Ev) : List PR := d.projs.map fun p => (p, xx d p l)
theorem Zf (d : Dcl) (l : List Ev) : (prs d l).length = d.projs.length := by unfold prs; rw [List.length_map]
theorem Wu {d : Dcl} {l : List Ev} {k : Nat} (h : k < d.projs.length) : (prs d l).getD k default = (d.projs.getD k default, xx d (d.projs.getD k default) l) := by
  unfold prs
  rw [zw _ (by rw [List.length_map]; exact h), List.getElem_map, zw _ h]
def xF {α : Type} (A B : List α) (k : Nat) : List α := A.take k ++ B.drop k
theorem Kb {α : Type} {A B : List α} {k : Nat} (h : A.length = B.length) (hk : B.length ≤ k) : xF A B k = A := by
  unfold xF
  rw [List.take_of_length_le (by omega), List.drop_eq_nil_of_le hk, List.append_nil]
theorem Xv {α : Type} {A B : List α} {k : Nat} (h : A.length = B.length) : (xF A B k).length = B.length := by
  unfold xF
  rw [List.length_append, List.length_take, List.length_drop]; omega
theorem KH {α : Type} [Inhabited α] {A B : List α} {k : Nat} (h : A.length = B.length) (hk : k < B.length) : (xF A B k).getD k default = B.getD k default := by
  unfold xF
  rw [List.getD_eq_getElem?_getD, List.getElem?_append_right (by rw [List.length_take]; omega), List.length_take, List.getElem?_drop, show k + (k - min k A.length) = k by omega, ← List.getD_eq_getElem?_getD]
theorem KK {α : Type} [Inhabited α] {A B : List α} {k : Nat} (h : A.length = B.length) (hk : k < B.length) : (xF A B k).set k (A.getD k default) = xF A B (k + 1) := by
  unfold xF
  have h1 : (A.take k).length = k := by rw [List.length_take]; omega
  rw [List.set_append_right _ _ (by omega), h1, Nat.sub_self, List.drop_eq_getElem_cons hk, List.set_cons_zero, List.take_getD (d := default) (by omega), List.append_assoc, List.singleton_append]
def yo (d : Dcl) (every : Nat) (l : List Ev) : List (List PR) := (List.range (l.length / every + 1)).map fun j => prs d (l.take (j * every))
theorem Yv (d : Dcl) (every : Nat) (l : List Ev) : (yo d every l).length = l.length / every + 1 := by unfold yo; rw [List.length_map, List.length_range]
theorem JI {d : Dcl} {every : Nat} {l : List Ev} {j : Nat} (h : j < l.length / every + 1) : (yo d every l).getD j default = prs d (l.take (j * every)) := by
  unfold yo
  rw [zw _ (by rw [List.length_map, List.length_range]; exact h), List.getElem_map, List.getElem_range]
def ZD (n every : Nat) (P : List (List PR)) (R : List PR) : List (List PR) := if n = P.length * every then P ++ [R] else P
theorem UV {d : Dcl} {every : Nat} : ZD 0 every [] (prs d []) = yo d every [] := by
  unfold ZD yo
  rw [if_pos (by simp)]
  simp
theorem Qh {d : Dcl} {every : Nat} {l : List Ev} {e : Ev} (h : 1 ≤ every) : ZD (l ++ [e]).length every (yo d every l) (prs d (l ++ [e])) = yo d every (l ++ [e]) := by
  have hl : (l ++ [e]).length = l.length + 1 := by rw [List.length_append]; rfl
  unfold ZD
  rw [Yv, hl]
  have hq : ∀ j, j < l.length / every + 1 → (l ++ [e]).take (j * every) = l.take (j * every) := fun j hj => by
    have h1 : j * every ≤ l.length := Nat.le_trans (Nat.mul_le_mul_right _ (Nat.le_of_lt_succ hj)) (Nat.div_mul_le_self ..)
    rw [List.take_append_of_le_length h1]
  have hm : (List.range (l.length / every + 1)).map (fun j => prs d ((l ++ [e]).take (j * every))) = yo d every l := by
    unfold yo
    refine List.map_congr_left fun j hj => ?_
    rw [hq j (List.mem_range.1 hj)]
  by_cases hc : l.length + 1 = (l.length / every + 1) * every
  · rw [if_pos hc]
    have e1 : (l.length + 1) / every = l.length / every + 1 := by rw [hc, Nat.mul_div_cancel _ (by omega)]
    conv => rhs; unfold yo
    rw [hl, e1, List.range_succ, List.map_append, hm, List.map_singleton, ← hc, List.take_of_length_le (by rw [hl]; exact Nat.le_refl _)]
  · rw [if_neg hc]
    have hnd : ¬ every ∣ l.length + 1 := by
      intro hd
      obtain ⟨q, hq⟩ := hd
      apply hc
      have h3 : (l.length + 1) / every = q := by rw [hq, Nat.mul_div_cancel_left _ (by omega)]
      have h4 : l.length / every + 1 = q := by
        have := Nat.succ_div (a := l.length) (b := every)
        rw [if_pos ⟨q, hq⟩] at this
        rw [← h3, this]
      rw [h4, hq, Nat.mul_comm]
    have e1 : (l.length + 1) / every = l.length / every := by rw [Nat.succ_div, if_neg hnd, Nat.add_zero]
    conv => rhs; unfold yo
    rw [hl, e1, hm]
theorem Jt {d : Dcl} {every : Nat} {l : List Ev} (h : 1 ≤ every ∧ every ≤ 9223372036854775807) (hl : l.length ≤ 1000000) : (yo d every l).length * every ≤ 9223372036854775807 := by
  rw [Yv, Nat.add_mul, Nat.one_mul]
  have h1 : l.length / every * every ≤ l.length := Nat.div_mul_le_self ..
  by_cases hc : every ≤ l.length
  · omega
  · rw [Nat.div_eq_of_lt (by omega)]; omega
theorem KS {d : Dcl} {every n : Nat} {l : List Ev} (h : 1 ≤ every) (hn : n < l.length) : (yo d every l).take (n / every + 1) = yo d every (l.take (n / every * every)) := by
  have h1 : n / every * every ≤ n := Nat.div_mul_le_self ..
  have h2 : (l.take (n / every * every)).length = n / every * every := by rw [List.length_take]; omega
  have h3 : n / every ≤ l.length / every := Nat.div_le_div_right (by omega)
  unfold yo
  rw [h2, Nat.mul_div_cancel _ (by omega), ← List.map_take, List.take_range, Nat.min_eq_left (by omega)]
  refine List.map_congr_left fun j hj => ?_
  have hj' := List.mem_range.1 hj
  rw [List.take_take, Nat.min_eq_left (Nat.mul_le_mul_right _ (Nat.le_of_lt_succ hj'))]
def ZS : List Ev → List Ev → Nat
  | a :: l, b :: m => if a.origin = b.origin ∧ a.seq = b.seq then ZS l m + 1 else 0
  | _, _ => 0
def yb (every : Nat) (l evs : List Ev) : Nat := if ZS l evs < evs.length then ZS l evs / every * every else ZS l evs
def xN (a b : Ev) : Prop := a.origin = b.origin ∧ a.seq = b.seq
theorem Vz : ∀ {l m : List Ev} {p : Nat}, p ≤ l.length → p ≤ m.length → (∀ i, i < p → xN (l.getD i default) (m.getD i default)) → (p < l.length → p < m.length → ¬ xN (l.getD p default) (m.getD p default)) → ZS l m = p
  | [], m, p, h1, _, _, _ => by simp at h1; subst h1; cases m <;> rfl
  | _ :: _, [], p, _, h1, _, _ => by simp at h1; subst h1; rfl
  | a :: l, b :: m, 0, _, _, _, h => by
    unfold ZS
    exact if_neg (h (Nat.zero_lt_succ _) (Nat.zero_lt_succ _))
  | a :: l, b :: m, p + 1, h1, h2, h3, h4 => by
    unfold ZS
    have h0 : a.origin = b.origin ∧ a.seq = b.seq := h3 0 (by omega)
    rw [if_pos h0, Vz (l := l) (m := m) (p := p) (by simpa using h1) (by simpa using h2) (fun i hi => h3 (i + 1) (by omega)) (fun q1 q2 => h4 (by simpa using q1) (by simpa using q2))]
def VL (l m : List Ev) : Prop := ∀ a ∈ l, ∀ b ∈ m, xN a b → a = b
theorem Qi {l m : List Ev} {p : Nat} (h : VL l m) (h1 : p ≤ l.length) (h2 : p ≤ m.length) (h3 : ∀ i, i < p → xN (l.getD i default) (m.getD i default)) : m.take p = l.take p := by
  refine List.ext_getElem (by rw [List.length_take, List.length_take]; omega) fun i hi hi2 => ?_
  rw [List.length_take] at hi hi2
  have a1 : i < l.length := by omega
  have a2 : i < m.length := by omega
  have := h3 i (by omega)
  rw [zw _ a1, zw _ a2] at this
  rw [List.getElem_take, List.getElem_take]
  exact (h _ (List.getElem_mem a1) _ (List.getElem_mem a2) this).symm
end Go.Proofs.YtojlbibionhdjaaGreatDoor
