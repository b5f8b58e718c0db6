import Derived.Test.YtojlbibionhdjaaGreatDoorB6
import Derived.Test.YtojlbibionhdjaaGreatDoorB4
import Derived.Test.YtojlbibionhdjaaGreatDoorB1
import Derived.Test.YtojlbibionhdjaaGreatDoorB2
set_option linter.unusedSimpArgs false
set_option linter.unusedVariables false
set_option linter.unusedSectionVars false
set_option linter.deprecated false
set_option maxRecDepth 8000
set_option maxHeartbeats 4000000
open Go.Proofs.Tryz renaming isAgg3 → kT, sizeOf64 → lT, underlying39 → mT, sizeOf66 → nT, isAgg64 → oT, sizeOf61 → pT, isAgg61 → qT, underlying26 → rT, isAgg62 → sT, sizeOf3 → tT, isAgg55 → uT, underlying55 → vT, results86 → wT, results60 → kR, call67 → lR, isAgg39 → mR, sizeOf57 → nR, underlying62 → oR, sizeOf107 → pR, results85 → qR, zeroValue57 → rR, isAgg25 → sR, sizeOf25 → tR, results22 → uR, results27 → vR, zeroValue66 → wR, isAgg57 → kY, zeroValue64 → lY, results8 → mY, call54 → nY, isAgg4 → oY, underlying46 → pY, underlying64 → qY, underlying44 → rY
namespace Go.Proofs.YtojlbibionhdjaaGreatDoor
open Go.Proofs Go.RowKit
theorem yqg {p : Prop} (h : p := by simp [Instr.build, Instr.fill, go_sem, Ent.cells, Ev.cells, yh]) : p := h

def yp (d : Dcl) (k : Int × Int) (L : List Ent) : Sta := ⟨((yn k L : Nat) : Int), stL d k L⟩
theorem xX (d : Dcl) (l : List Ev) : (zn d l).length = l.length := by
  induction l using ZI with
  | h0 => rfl
  | h1 l e ih => rw [xu, List.length_append, List.length_append, ih]; rfl
theorem UZ {d : Dcl} {l : List Ev} {k : Nat} (h : k < l.length) : zn d (l.take (k + 1)) = zn d (l.take k) ++ [yh d (zn d (l.take k)) (l.getD k default)] := by rw [List.take_getD (d := default) h, xu]
theorem Ju {d : Dcl} {l : List Ev} {k : Nat} (h : l.length ≤ 1000000) : (zn d (l.take k)).length ≤ 1000000 := by rw [xX, List.length_take]; omega
set_option maxHeartbeats 8000000 in
theorem Ko {G : Nat → Prop} {W w : World} {Rs : List HP} {b : Nat} {d : Dcl} {L : List Ent} {e : Ev} {de0 : Value} (hde0 : RdS W G de0 e.deps) (oe : e.Ok) (hKN : RdS W G (.slice (some ⟨0, 0, none⟩) 6 6) kindsL) (hS0 : Sep G W ((ViewO b d L L) :: Rs) w) (hd : DclOk d) (hinv : Inv d L) (hml : L.length ≤ 1000000) : Ret Tryz.prog 63 [.pointer (some ⟨b, 0, none⟩), .agg (e.cells de0).toArray] w (fun r w' => ∃ (v : Value), r = (.agg ((yh d L e).cells v).toArray : Value) ∧ Sep G W ((ViewO b d (L ++ [yh d L e]) (L ++ [yh d L e])) :: (RowE (α := Int) own 3 v e.deps) :: Rs) w') := by
 have hde0s : _ * 8 ≤ _ := hde0.small
 have hKNs : _ * 8 ≤ _ := hKN.small
 refine zl (args := [Ix b 0, .agg (e.cells de0).toArray]) Tryz.func63 rfl rfl ?_
 refine za (R0 fun _ => st (zT (v := .agg (e.cells de0).toArray) rfl ?_))
 intro w3 b2 bz
 let bF := Blk b2 (e.cells de0).toArray 64
 refine st (zH wR ?_)
 intro w7 U bA
 let bo := Blk U #[Iv 0, Iv 0, Iv 0, (Iz), Iv 0, Iv 0, Iv 0, Iv 0, Iv 0, Iv 0, .bool false, Iv 0, Iv 0] 66
 have bb := (hS0.new bz).new bA
 refine zb (za (R0 fun _ => st (mV (Ix b 0) (st (zg (k := 10) oT lT rfl rfl (CellsAt.all (bb.b1)) (st (cL lR (YV (e := e) hde0 oe bb) ?_)))))))
 rintro _ w10 ⟨v9, rfl, ah⟩
 have bd := ah.r0
 have hr12s : _ * 8 ≤ _ := bd.2
 refine st (cL Tryz.call84 (D_try  oe hKN (ah.mv3) (hd) (hinv) (hml)) ?_)
 rintro _ w15 ⟨rfl, V, be⟩
 refine st (mV (.tuple #[.bool ((yj d L e).1), .agg #[Iv ((yj d L e).2.1), Iv ((yj d L e).2.2)]]) (st (zw (vs := [.bool ((yj d L e).1), .agg #[Iv ((yj d L e).2.1), Iv ((yj d L e).2.2)]]) (i := 0) (v := .bool ((yj d L e).1)) rfl rfl (st (zw (vs := [.bool ((yj d L e).1), .agg #[Iv ((yj d L e).2.1), Iv ((yj d L e).2.2)]]) (i := 1) (v := .agg #[Iv ((yj d L e).2.1), Iv ((yj d L e).2.2)]) rfl rfl (st (zH Tryz.zeroValue61 ?_)))))))
 intro w19 T bf
 let bB := Blk T #[Iv ((yj d L e).2.1), Iv ((yj d L e).2.2)] 61
 have ai := be.new bf
 refine st (aS (.bool ((yj d L e).1)) (stn (zF (v := .agg #[Iv ((yj d L e).2.1), Iv ((yj d L e).2.2)]) (c' := #[Iv ((yj d L e).2.1), Iv ((yj d L e).2.2)]) pT rfl rfl (ai.b0) (yg ⟨rfl, rfl, trivial⟩) yqc rfl ?_)))
 intro bC bg
 refine zb (za ?_)
 have hek : Ent.Ok (yh d L e) := ⟨oe, V.1, V.2⟩
 obtain ⟨q, s, t, A, B, bh⟩ := ViewO.open ((ai.pt0 bg).mv1)
 let bE := yJ xv E2 B (yv (L ++ [yh d L e]))
 let bD := yJ xz E1 A (zj d (L ++ [yh d L e]))
 have H : Sep G W ((BkV b q s t A B) :: (RwT q d.types) :: (RwP s d.projs) :: (RwN t L) :: bD :: bE :: bB :: bo :: bF :: Rs) bC := bh
 have bi := H.r1
 have hr31s : _ * 24 ≤ _ := bi.2
 have bj := H.r2
 have hr32s : _ * 40 ≤ _ := bj.2
 have bk := H.r3
 have hr33s : _ * 120 ≤ _ := bk.2
 refine WD4 ((fun TT F C D I => WF [fun vals z => Sep G W (F :: C :: D :: I :: TT) z, fun vals z => ∃ (g : Value), (vals 6 = (.agg (e.cells g).toArray : Value)) ∧ Sep G W ((RwI g e.deps) :: F :: C :: D :: I :: TT) z, fun vals z => ∃ (g : Value) (l : Nat), (vals 6 = (.agg (e.cells g).toArray : Value)) ∧ (vals 10 = ((Iy l 1 1) : Value)) ∧ Sep G W ((Blk l ((yh d L e).cells g).toArray 66) :: (RwI g e.deps) :: F :: C :: D :: I :: TT) z, fun vals z => ∃ (g : Value) (l : Nat) (j : Value), (vals 6 = (.agg (e.cells g).toArray : Value)) ∧ (vals 10 = ((Iy l 1 1) : Value)) ∧ (vals 11 = (j : Value)) ∧ Sep G W ((RwN j (L ++ [(yh d L e)])) :: F :: C :: D :: TT) z, fun vals z => ∃ (g : Value) (l : Nat) (j : Value), (vals 6 = (.agg (e.cells g).toArray : Value)) ∧ (vals 10 = ((Iy l 1 1) : Value)) ∧ (vals 11 = (j : Value)) ∧ Sep G W ((RwN j (L ++ [(yh d L e)])) :: (BkV b q s j A B) :: C :: D :: TT) z]) (bD :: bE :: bB :: bo :: bF :: Rs) (BkV b q s t A B) (RwT q d.types) (RwP s d.projs) (RwN t L)) (AF [Vl 0 (Ix b 0), Vl 1 (Ix b 0), Vl 2 (Ix b 0), Vl 3 (Ix b 2), Vl 4 (t), Vl 5 (.agg (e.cells de0).toArray), fun _ => True, Vl 7 (.bool ((yj d L e).1)), Vl 8 (.agg #[Iv ((yj d L e).2.1), Iv ((yj d L e).2.2)]), fun vals => ∀ (g : Value), vals 6 = (.agg (e.cells g).toArray : Value) → vals 9 = (.agg ((yh d L e).cells g).toArray : Value), fun _ => True, fun _ => True, Vl 12 (Ix b 0), Vl 13 (Ix b 2), fun _ => True]) [[], [], [1], [1, 2], [1, 2, 3], [], [5], [], [], [5, 6, 7, 8], [5, 6, 7, 8, 9], [1, 2, 3, 4, 5, 6, 7, 8, 9, 10], (rg 12), (rg 13), (rg 14)] [6, 10, 11, 14] [(0, 3), (0, 2), (0, 2), (0, 2), (0, 2), (0, 0), (0, 0), (0, 1), (0, 1), (1, 1), (1, 1), (2, 2), (3, 3), (3, 3), (3, 3)] H ⟨fun _ _ _ _ _ _ _ => obl rfl (mV (Ix b 0) dR), fun _ _ _ _ _ _ _ => obl rfl (mV (Ix b 0) dR), fun _ _ _ _ _ _ ao => obl rfl (zm (b := b) (o := 0) (ao 1 dc) dR), fun _ _ _ _ _ _ ap => obl rfl (WU (ap 2 dc) dR), ?_, ob1 0 fun _ _ (aq : Sep _ _ _ _) _ => obl rfl (zg (k := 10) oT lT rfl rfl (CellsAt.all (aq.b8)) dR), ?_, fun _ _ _ _ _ _ _ => obl rfl (mV (.bool ((yj d L e).1)) dR), ?_, ?_, ?_, ?_, fun _ _ _ _ _ _ ar => obl rfl (zm (b := b) (o := 0) (ar 0 dc) dR), fun _ _ _ _ _ _ au => obl rfl (WU (au 12 dc) dR), ?_, trivial⟩ ?_ (hlocA := xf ⟨dA, dA, dA, dA, dA, dA, dT, dA, dA, fun vals p u h => fun g E => (u 9 (.inl rfl)).trans (h g ((u 6 (.inr dc)).symm.trans E)), dT, dT, dA, dA, dT, trivial⟩)
 refine fun J _ _ bl bm K N => ?_
 have hkk : J = 0 ∨ J = 1 ∨ J = 2 := by have h1 : 0 ≤ J := bl; have h2 : J ≤ 2 := bm; omega
 rcases hkk with rfl | rfl | rfl
 have av : Sep _ _ _ _ := K
 exact obl rfl (lD t mR (N 3 dc) (zd (av.b0) rfl) dR)
 obtain ⟨g, m, aw⟩ := K
 exact obl rfl (lD t mR (N 3 dc) (zd (aw.b1) rfl) dR)
 obtain ⟨g, l, m, y, ax⟩ := K
 exact obl rfl (lD t mR (N 3 dc) (zd (ax.b2) rfl) dR)
 refine ob1 0 fun vals _ (bn : Sep _ _ _ _) bp => (obl rfl ((zK (f := 67) (vals := [.agg (e.cells de0).toArray]) (cap := []) rfl (yI ⟨(bp 5 dc), trivial⟩) lR (YV (e := e) hde0 oe bn) ?_)))
 rintro _ w84 ⟨g, rfl, aj⟩
 have bq := aj.r0
 have hr86s : _ * 8 ≤ _ := bq.2
 exact fun p u n => ⟨(Exists.intro g (And.intro u aj)), trivial⟩
 refine fun O _ _ br bs X _ => ?_
 have hkk : O = 0 ∨ O = 1 := by have h1 : 0 ≤ O := br; have h2 : O ≤ 1 := bs; omega
 rcases hkk with rfl | rfl
 have ay : Sep _ _ _ _ := X
 exact obl rfl (zg (k := 2) qT pT rfl rfl (CellsAt.all (ay.b6)) dR)
 obtain ⟨g, m, az⟩ := X
 exact obl rfl (zg (k := 2) qT pT rfl rfl (CellsAt.all (az.b7)) dR)
 refine ob1 1 fun _ _ aA Y => ?_
 obtain ⟨g, m, hS229⟩ := aA
 refine obl rfl (zU (parts' := [(0, .agg (e.cells g).toArray), (1, .bool ((yj d L e).1)), (2, .agg #[Iv ((yj d L e).2.1), Iv ((yj d L e).2.2)])]) (v := .agg ((yh d L e).cells g).toArray) (xG ⟨rfl, m, rfl, (Y 7 (by decide)), rfl, (Y 8 (by decide)), trivial⟩) yqg (fun p u n => ⟨rfl, ?_⟩))
 intro v83q E
 rw [n 6 (by decide)] at E; cases m.symm.trans E
 exact u
 refine ob1 1 fun vals _ aB aC => ?_
 obtain ⟨g, m, aD⟩ := aB
 have bt : vals 9 = (.agg ((yh d L e).cells g).toArray : Value) := aC 9 dc g m
 refine obl rfl ((zJ (k := 13) (parts' := [(0, .agg ((yh d L e).cells g).toArray)]) (c := ((yh d L e).cells g).toArray) mT nT wR dc (xG ⟨rfl, bt, trivial⟩) kr ?_))
 intro w120 l aE
 exact fun p u n => ⟨(Exists.intro g (Exists.intro l (And.intro ((n 6 dc).trans m) (And.intro u (aD.new aE))))), trivial⟩
 refine ob1 2 fun _ _ aF aG => ?_
 obtain ⟨g, l, m, y, Z⟩ := aF
 refine obl rfl ?_
 have ak := Z.b0
 refine (yx (src := own) (bytes := 120) (x1 := (yh d L e)) (Z.s11_fbcdeghijk) el39 (aG 4 (by decide)) y ak (fun _ _ hN => ⟨_, rfl, RowE.soft hN, hek⟩) yqb rfl ?_)
 intro j w131 aa
 have aH := aa.r0
 have hr136s : _ * 120 ≤ _ := aH.2
 exact fun p u n => ⟨(Exists.intro g (Exists.intro l (Exists.intro j (And.intro ((n 6 dc).trans m) (And.intro ((n 10 dc).trans y) (And.intro u aa)))))), trivial⟩
 refine ob1 3 fun _ _ aI aJ => ?_
 obtain ⟨g, l, j, m, y, P, Q⟩ := aI
 refine obl rfl ?_
 have ab := Q.r0
 have hr162s : _ * 120 ≤ _ := ab.2
 refine (yt (v := j) (c := [q, s, t, .map (some A), .map (some B)]) (c' := [q, s, j, .map (some A), .map (some B)]) Tryz.sizeOf39 (aJ 13 dc) P (Q.b1) ab.1.one rfl rfl ?_)
 intro w160 aK
 exact fun p u n => ⟨(Exists.intro g (Exists.intro l (Exists.intro j (And.intro ((n 6 dc).trans m) (And.intro ((n 10 dc).trans y) (And.intro ((n 11 dc).trans P) (Q.pt1 aK))))))), trivial⟩
 intro vals w246 aL hA248
 obtain ⟨g, l, j, m, y, P, aM⟩ := aL
 refine zX (kv := [(0, Ix b 0), (1, .agg (e.cells de0).toArray), (3, Ix b2 0), (4, Ix U 0), (8, Ix b 0), (9, .agg (e.cells de0).toArray), (10, .agg (e.cells v9).toArray), (11, .tuple #[.bool ((yj d L e).1), .agg #[Iv ((yj d L e).2.1), Iv ((yj d L e).2.2)]]), (7, .tuple #[.bool ((yj d L e).1), .agg #[Iv ((yj d L e).2.1), Iv ((yj d L e).2.2)]]), (12, .bool ((yj d L e).1)), (13, .agg #[Iv ((yj d L e).2.1), Iv ((yj d L e).2.2)]), (6, Ix T 0), (5, .bool ((yj d L e).1))]) sEv (fun ρw246 => (zb (za ?_)))
 refine WD4 ((fun TT F C D I al am an bc => WF [fun vals z => Sep G W (F :: C :: D :: I :: al :: am :: an :: bc :: TT) z, fun vals z => ∃ (a : Value), (vals 1 = (.agg (e.cells a).toArray : Value)) ∧ Sep G W ((RwI a e.deps) :: F :: C :: D :: I :: al :: am :: an :: bc :: TT) z, fun vals z => ∃ (a : Value), (vals 1 = (.agg (e.cells a).toArray : Value)) ∧ Sep G W ((RwI a e.deps) :: F :: C :: D :: I :: al :: am :: an :: (Blk U ((yh d L e).cells a).toArray 66) :: TT) z]) (bF :: Rs) (RwN j (L ++ [(yh d L e)])) (BkV b q s j A B) (RwT q d.types) (RwP s d.projs) bD bE bB bo) (AF [Vl 0 (.agg (e.cells de0).toArray), fun _ => True, Vl 2 (.bool ((yj d L e).1)), Vl 3 (.agg #[Iv ((yj d L e).2.1), Iv ((yj d L e).2.2)]), fun vals => ∀ (a : Value), vals 1 = (.agg (e.cells a).toArray : Value) → vals 4 = (.agg ((yh d L e).cells a).toArray : Value), fun _ => True]) [[], [0], [], [], (rg 4), (rg 5)] [1, 5] [(0, 0), (0, 0), (0, 1), (0, 1), (1, 1), (1, 1)] aM ⟨ob1 0 fun _ _ (aN : Sep _ _ _ _) _ => obl rfl (zg (k := 10) oT lT rfl rfl (CellsAt.all (aN.b8)) dR), ?_, fun _ _ _ _ _ _ _ => obl rfl (mV (.bool ((yj d L e).1)) dR), ?_, ?_, ?_, trivial⟩ ?_ (hlocA := xf ⟨dA, dT, dA, dA, fun vals p u h => fun a E => (u 4 (.inl rfl)).trans (h a ((u 1 (.inr dc)).symm.trans E)), dT, trivial⟩)
 refine ob1 0 fun vals _ (aO : Sep _ _ _ _) aP => (obl rfl ((zK (f := 67) (vals := [.agg (e.cells de0).toArray]) (cap := []) rfl (yI ⟨(aP 0 dc), trivial⟩) lR (YV (e := e) hde0 oe aO) ?_)))
 rintro _ w266 ⟨a, rfl, ac⟩
 have aQ := ac.r0
 have hr268s : _ * 8 ≤ _ := aQ.2
 exact fun p u n => ⟨(Exists.intro a (And.intro u ac)), trivial⟩
 refine fun R _ _ bu bv ad _ => ?_
 have hkk : R = 0 ∨ R = 1 := by have h1 : 0 ≤ R := bu; have h2 : R ≤ 1 := bv; omega
 rcases hkk with rfl | rfl
 have aR : Sep _ _ _ _ := ad
 exact obl rfl (zg (k := 2) qT pT rfl rfl (CellsAt.all (aR.b6)) dR)
 obtain ⟨a, x, aT⟩ := ad
 exact obl rfl (zg (k := 2) qT pT rfl rfl (CellsAt.all (aT.b7)) dR)
 refine ob1 1 fun _ _ aU ae => ?_
 obtain ⟨a, x, hS331⟩ := aU
 refine obl rfl (zU (parts' := [(0, .agg (e.cells a).toArray), (1, .bool ((yj d L e).1)), (2, .agg #[Iv ((yj d L e).2.1), Iv ((yj d L e).2.2)])]) (v := .agg ((yh d L e).cells a).toArray) (xG ⟨rfl, x, rfl, (ae 2 (by decide)), rfl, (ae 3 (by decide)), trivial⟩) yqg (fun p u n => ⟨rfl, ?_⟩))
 intro v265q E
 rw [n 1 (by decide)] at E; cases x.symm.trans E
 exact u
 refine ob1 1 fun vals _ aV aW => ?_
 obtain ⟨a, x, S⟩ := aV
 have bw : vals 4 = (.agg ((yh d L e).cells a).toArray : Value) := aW 4 dc a x
 refine obl rfl ?_
 have af := S.r0
 have hr302s : _ * 8 ≤ _ := af.2
 refine (zF (v := .agg ((yh d L e).cells a).toArray) (c' := ((yh d L e).cells a).toArray) nT rfl bw (S.b8) (yg ⟨rfl, rfl, rfl, af.1.one, rfl, rfl, rfl, rfl, rfl, rfl, rfl, rfl, rfl, trivial⟩) yqc rfl ?_)
 intro w300 aX
 exact fun p u n => ⟨(Exists.intro a (And.intro ((n 1 dc).trans x) (S.pt8 aX))), trivial⟩
 intro vals bx aY hA336
 obtain ⟨a, x, ag⟩ := aY
 refine zX (kv := [(0, Ix b 0), (1, .agg (e.cells de0).toArray), (3, Ix b2 0), (4, Ix U 0), (8, Ix b 0), (9, .agg (e.cells de0).toArray), (10, .agg (e.cells v9).toArray), (11, .tuple #[.bool ((yj d L e).1), .agg #[Iv ((yj d L e).2.1), Iv ((yj d L e).2.2)]]), (7, .tuple #[.bool ((yj d L e).1), .agg #[Iv ((yj d L e).2.1), Iv ((yj d L e).2.2)]]), (12, .bool ((yj d L e).1)), (13, .agg #[Iv ((yj d L e).2.1), Iv ((yj d L e).2.2)]), (6, Ix T 0), (5, .bool ((yj d L e).1))]) sEv (fun ρw334 => (zb (zo (Uj (b := U) Tryz.results63 Tryz.isAgg66 nT rfl rfl (CellsAt.all (ag.b8)) ?_))))
 have aZ : Sep _ _ ((ViewO b d (L ++ [yh d L e]) (L ++ [yh d L e])) :: _) _ := ViewO.close (d := d) (L := (L ++ [yh d L e])) (M := (L ++ [yh d L e])) (ag.s10_cdebfgahij)
 have ba : Sep G W ((ViewO b d (L ++ [yh d L e]) (L ++ [yh d L e])) :: (RwI a e.deps) :: Rs) bx := aZ.sel 5 [0, 1] (Nat.le_add_left _ _) rfl rfl
 refine ⟨a, rfl, ba⟩

theorem WB {G : Nat → Prop} {W w : World} {Rs : List HP} {b : Nat} {d : Dcl} {L : List Ent} {ty : Int} (hty : InR ty) {no : Int} (hno : InR no) (hS0 : Sep G W ((ViewO b d L L) :: Rs) w) : Ret Tryz.prog 52 [.pointer (some ⟨b, 0, none⟩), .int .i64 (ty), .int .i64 (no)] w (fun r w' => ∃ (v : Value), r = (.tuple #[.agg ((yp d (ty, no) L).cells v).toArray, .bool ((zj d L (ty, no)).isSome)] : Value) ∧ Sep G W ((ViewO b d L L) :: (RowE (α := Cel) own 107 v (stL d (ty, no) L)) :: Rs) w') := by
 refine zl (args := [Ix b 0, Iv ty, Iv no]) Tryz.func52 rfl rfl ?_
 refine za (R0 fun _ => st (zH rR ?_))
 intro U b2 V
 refine st (aS (.bool false) (zb (za (R0 fun _ => ?_))))
 obtain ⟨f, g, h, m, j, B⟩ := ViewO.open ((hS0.new V).mv1)
 let aa := Blk b #[f, g, h, .map (some m), .map (some j)] 119
 have c : Sep G W (aa :: (RowE (α := Typ) own 84 f d.types) :: (RowE (α := Prj) own 46 g d.projs) :: (RowE (α := Ent) own 66 h L) :: (yJ xz E1 m (zj d L)) :: (yJ xv E2 j (yv L)) :: (Blk b2 #[Iv 0, (Iz)] 57) :: Rs) U := B
 have C := c.r1
 have hr12s : _ * 24 ≤ _ := C.2
 have D := c.r2
 have hr13s : _ * 40 ≤ _ := D.2
 have E := c.r3
 have hr14s : _ * 120 ≤ _ := E.2
 obtain ⟨vs16, A, F⟩ := (c.mv4).mapoTake WZ (ty, no)
 obtain ⟨a, rfl, H⟩ := XY (F.mv1) A
 have e : Sep G W ((RowE (α := Cel) own 107 a (stL d (ty, no) L)) :: (xV xz E1 WZ m (zj d L) (ty, no) (.agg #[Iw (yn (ty, no) L), a])) :: aa :: (RowE (α := Typ) own 84 f d.types) :: (RowE (α := Prj) own 46 g d.projs) :: (RowE (α := Ent) own 66 h L) :: (yJ xv E2 j (yv L)) :: (Blk b2 #[Iv 0, (Iz)] 57) :: Rs) U := H
 have p := e.r0
 have hr22s : _ * 32 ≤ _ := p.2
 have hve9 := Wz (ty, no) L
 refine st (mV (Ix b 0) (st (zm (b := b) (o := 0) rfl (st (WE rfl (st (lD (.map (some m)) Tryz.isAgg116 rfl (zd (e.b2) rfl) (st (mV (Iv ty) (st (mV (Iv no) (st (zU (parts' := [(0, Iv ty), (1, Iv no)]) (v := .agg #[Iv ty, Iv no]) rfl yqf (st (ZC e (i := 1) rfl K2 Tryz.underlying116 rR rfl rfl (st (mV (.tuple #[.agg #[Iw (yn (ty, no) L), a], .bool (((zj d L) (ty, no)).isSome)]) (st (zw (vs := [.agg #[Iw (yn (ty, no) L), a], .bool (((zj d L) (ty, no)).isSome)]) (i := 0) (v := .agg #[Iw (yn (ty, no) L), a]) rfl rfl ?_)))))))))))))))))))
 refine st (zw (vs := [.agg #[Iw (yn (ty, no) L), a], .bool (((zj d L) (ty, no)).isSome)]) (i := 1) (v := .bool (((zj d L) (ty, no)).isSome)) rfl rfl (st (zH rR ?_)))
 intro w25 X I
 have q := e.new I
 refine stn (zF (v := .agg #[Iw (yn (ty, no) L), a]) (c' := #[Iw (yn (ty, no) L), a]) nR rfl rfl (q.b0) (yg ⟨rfl, p.1.one, trivial⟩) yqc rfl ?_)
 intro w27 J
 have K : Sta.Ok (⟨((yn (ty, no) L : Nat) : Int), stL d (ty, no) L⟩ : Sta) := ⟨(show InR (((yn (ty, no) L : Nat) : Int)) from om)⟩
 have s := q.pt0 J
 refine st (aS (.bool (((zj d L) (ty, no)).isSome)) (zb (za (R0 fun _ => st (zg (k := 2) kY nR rfl rfl (CellsAt.all (s.b0)) ?_)))))
 obtain ⟨G32, N, hB35, O, P⟩ := (s.mv1).lend
 have n := RowE.rd N
 have hrd38s : _ * 32 ≤ _ := n.small
 refine st (cL Tryz.call79 (Km (x := (⟨((yn (ty, no) L : Nat) : Int), stL d (ty, no) L⟩ : Sta)) n K O) ?_)
 rintro _ w40 ⟨l, rfl, t⟩
 let Z := ((⟨((yn (ty, no) L : Nat) : Int), stL d (ty, no) L⟩ : Sta).cells l)
 have u := t.r0
 have hr42s : _ * 32 ≤ _ := u.2
 have y := P _ _ t
 refine st (mV (.bool (((zj d L) (ty, no)).isSome)) (stn (zF (v := .agg Z.toArray) (c' := Z.toArray) nR rfl rfl (y.b9) (yg ⟨rfl, u.1.one, trivial⟩) yqc rfl ?_)))
 intro Y Q
 have z := y.pt9 Q
 refine st (aS (.bool (((zj d L) (ty, no)).isSome)) (zb (zo (Xu (b := b2) Tryz.results52 kY nR rfl rfl (CellsAt.all (z.b9)) (show _ = (.bool (((zj d L) (ty, no)).isSome) : Value) from rfl) ?_))))
 have R : Sep _ _ ((Yt E1 (.agg #[Iw (yn (ty, no) L), a]) ((zj d L) (ty, no))) :: _) _ := Ue z
 have S : Sep G W ((yJ xz E1 m (zj d L)) :: (RowE (α := Cel) own 107 l ((⟨((yn (ty, no) L : Nat) : Int), stL d (ty, no) L⟩ : Sta).cls)) :: (Blk X ((⟨((yn (ty, no) L : Nat) : Int), stL d (ty, no) L⟩ : Sta).cells a).toArray 57) :: aa :: (RowE (α := Typ) own 84 f d.types) :: (RowE (α := Prj) own 46 g d.projs) :: (RowE (α := Ent) own 66 h L) :: (yJ xv E2 j (yv L)) :: (Blk b2 Z.toArray 57) :: Rs) Y := (R.mv3).mapoPut
 have T : Sep _ _ ((ViewO b d L L) :: _) _ := ViewO.close (d := d) (L := L) (M := L) (S.s9_defgahbci)
 refine ⟨l, rfl, (T.s4_ab)⟩

theorem Qb {G : Nat → Prop} {W w : World} {Rs : List HP} {b : Nat} {d : Dcl} {L : List Ent} (hS0 : Sep G W ((ViewO b d L L) :: Rs) w) : Ret Tryz.prog 43 [.pointer (some ⟨b, 0, none⟩)] w (fun r w' => ∃ (v : Value), r = (v : Value) ∧ Sep G W ((ViewO b d L L) :: (RowE (α := Ent) own 66 v L) :: Rs) w') := by
 refine zl (args := [Ix b 0]) Tryz.func43 rfl rfl ?_
 refine za (R0 fun _ => st (aS (Iz) (zb (za ?_))))
 obtain ⟨g, h, m, D, E, ac⟩ := ViewO.open hS0
 have q : Sep G W ((Blk b #[g, h, m, .map (some D), .map (some E)] 119) :: (RowE (α := Typ) own 84 g d.types) :: (RowE (α := Prj) own 46 h d.projs) :: (RowE (α := Ent) own 66 m L) :: (yJ xz E1 D (zj d L)) :: (yJ xv E2 E (yv L)) :: Rs) w := ac
 have ad := q.r1
 have hr7s : _ * 24 ≤ _ := ad.2
 have ae := q.r2
 have hr8s : _ * 40 ≤ _ := ae.2
 have af := q.r3
 have hr9s : _ * 120 ≤ _ := af.2
 obtain ⟨F, R, hB14, H, S⟩ := (q.mv3).lend
 have B := RowE.rd R
 have hrd17s : _ * 120 ≤ _ := B.small
 refine R0 fun _ => st (mV (Ix b 0) (st (zm (b := b) (o := 0) rfl (st (WU rfl (st (lD m mR rfl (zd (H.b0) rfl) (st (cL Tryz.call66 (Us (l := L) (vl := m) B H) ?_)))))))))
 rintro c w19 ⟨_, rfl, I⟩
 have J := I.r0
 have hr21s : _ * 120 ≤ _ := J.2
 refine st (aS c (zb (za (za (R0 fun _ => st (mV c (st (zB (n := L.length) mT rfl J.1 (st (mV (Iv 0) (zb (zr ?_))))))))))))
 have T := I.toMix
 refine zZ (fun mq σ wq => ∃ (k : Nat) (ρ : Env), mq = L.length - k ∧ σ = yc ρ [(0, Ix b 0), (2, (Iz)), (3, c), (11, Iw L.length), (12, Iw k)] ∧ (k ≤ L.length) ∧ Sep F w ((RowE (α := Bool × Ent) (mix (α := Ent) F w) 66 c (xE k L)) :: (Blk b #[g, h, m, .map (some D), .map (some E)] 119) :: (RowE (α := Typ) own 84 g d.types) :: (RowE (α := Prj) own 46 h d.projs) :: (yJ xz E1 D (zj d L)) :: (yJ xv E2 E (yv L)) :: Rs) wq) ⟨0, _, rfl, sSf, Nat.zero_le _, T⟩ ?_
 rintro m24 σ25 ag ⟨k, ρl1, rfl, rfl, hkk, s⟩
 have z := s.r0
 rw [xg] at z
 refine za (R0 fun _ => st (zL (k := .i64) (a := ((k : Nat) : Int)) (b := ((L.length : Nat) : Int)) rfl rfl (zb (za ?_))))
 cases t : decide (((k : Nat) : Int) < ((L.length : Nat) : Int))
 have t := fD t
 have K : Sep F w ((RowE (α := Ent) own 66 c L) :: (Blk b #[g, h, m, .map (some D), .map (some E)] 119) :: (RowE (α := Typ) own 84 g d.types) :: (RowE (α := Prj) own 46 h d.projs) :: (yJ xz E1 D (zj d L)) :: (yJ xv E2 E (yv L)) :: Rs) ag := s.ofMix om
 have U := K.r0
 have hr30s : _ * 120 ≤ _ := U.2
 refine zf rfl (ya (zS (za (R0 fun _ => st (mV c (st (aS c (zb (zo (zR Tryz.results43 (show _ = (c : Value) from rfl) ?_))))))))))
 have V := S _ _ K
 have X : Sep _ _ ((ViewO b d L L) :: _) _ := ViewO.close (d := d) (L := L) (M := L) (V.s7_cdeafgb)
 refine ⟨c, rfl, X⟩
 have t := tD t
 refine zh rfl (zp (za (zr (za (R0 fun _ => st (mV (Iw k) (st (aS (Iw k) (zb (R0 fun _ => st (mV c (st (mV (Iw k) (st (mV c (st (mV (Iw k) ?_)))))))))))))))))
 have Y : k < L.length := bo
 refine st (ze (k := 13) (i := k) mT nT rfl z.1 rfl Y (st (Wq rfl ?_)))
 have N : k < L.length := bo
 obtain ⟨_, C, x, rfl, p, y⟩ := s.mixAt (i := 0) (j := k) rfl (Nat.le_refl _) N
 rw [← zx default N] at C p y
 refine st (zg (k := 10) (cs := [Iv ((L.getD k default).ev.origin), Iv ((L.getD k default).ev.seq), Iv ((L.getD k default).ev.lam), x, Iv ((L.getD k default).ev.typ), Iv ((L.getD k default).ev.agg), Iv ((L.getD k default).ev.field), Iv ((L.getD k default).ev.op), Iv ((L.getD k default).ev.arg), Iv ((L.getD k default).ev.key)]) oT lT rfl rfl (CellsAt.sub C 0 (cs2 := [Iv ((L.getD k default).ev.origin), Iv ((L.getD k default).ev.seq), Iv ((L.getD k default).ev.lam), x, Iv ((L.getD k default).ev.typ), Iv ((L.getD k default).ev.agg), Iv ((L.getD k default).ev.field), Iv ((L.getD k default).ev.op), Iv ((L.getD k default).ev.arg), Iv ((L.getD k default).ev.key)]) rfl) (st (cL lR (YV (e := ((L.getD k default).ev)) p y.ev s) ?_)))
 rintro _ w38 ⟨Q, rfl, O⟩
 have P := O.r0
 have hr40s : _ * 8 ≤ _ := P.2
 have Z : k < L.length := bo
 refine st (ze (k := 13) (i := k) mT nT rfl z.1 rfl Z (st (Wq rfl ?_)))
 have A : k < L.length := bo
 refine stn (ZH (α := Ent) (j := k) (o := 0) (u := .agg (((L.getD k default).ev).cells Q).toArray) (us := ((L.getD k default).ev).cells Q) (O.mv1) lT A rfl rfl rfl (Nat.le_of_ble_eq_true rfl) (yg ⟨rfl, rfl, rfl, P.1.one, rfl, rfl, rfl, rfl, rfl, rfl, trivial⟩) (fun w f cs0 hr hN => (by obtain ⟨d, rfl, hd, hok⟩ := hr; rw [zx default A]; exact ⟨_, rfl, (by rw [← zx default A]; exact RowE.soft hN), hok⟩)) ?_)
 intro w42 aa
 refine zb (R0 fun _ => ?_)
 have ab : InR ((k + 1 : Nat) : Int) := bo
 refine st (zQ (r := ((k + 1 : Nat) : Int)) (k := .i64) (a := ((k : Nat) : Int)) (b := 1) rfl rfl (by rw [show (((k : Nat) : Int) + 1 : Int) = ((k + 1 : Nat) : Int) from bo]; exact zC ab) (st (mV (Iw (k + 1)) (zb ?_))))
 exact ⟨_, by omega, k + 1, _, rfl, sSf, by omega, aa⟩

theorem JY {G : Nat → Prop} {W w : World} {Rs : List HP} {d : Dcl} {dd0 : Value} (hdd0 : RdS W G dd0 d.types) {dd1 : Value} (hdd1 : RdS W G dd1 d.projs) (od : d.Ok) {vl : Value} {l : List Ev} (hl : RdS W G vl l) (hKN : RdS W G (.slice (some ⟨0, 0, none⟩) 6 6) kindsL) (hS0 : Sep G W Rs w) (hd : DclOk d) (hfew : l.length ≤ 1000000) : Ret Tryz.prog 82 [.agg (d.cells dd0 dd1).toArray, vl] w (fun r w' => ∃ (b : Nat), r = (.pointer (some ⟨b, 0, none⟩) : Value) ∧ Sep G W ((ViewO b d (zn d l) (zn d l)) :: Rs) w') := by
 have hdd0s : _ * 24 ≤ _ := hdd0.small
 have hdd1s : _ * 40 ≤ _ := hdd1.small
 have hls : _ * 96 ≤ _ := hl.small
 have hKNs : _ * 8 ≤ _ := hKN.small
 refine zl (args := [.agg (d.cells dd0 dd1).toArray, vl]) Tryz.func82 rfl rfl ?_
 refine za (R0 fun _ => st (zT (v := .agg (d.cells dd0 dd1).toArray) rfl ?_))
 intro w3 b2 F
 have y := hS0.new F
 refine st (aS (.pointer none) (zb (za (R0 fun _ => st (zg (k := 2) sR tR rfl rfl (CellsAt.all (y.b0)) (st (cL Tryz.call38 (Kn (d := d) hdd0 hdd1 od y) ?_)))))))
 rintro _ w6 ⟨g, rfl, H⟩
 refine st (aS (Ix g 0) (zb (za (za (R0 fun _ => st (mV vl (st (zB (n := l.length) rT rfl hl.sl (st (mV (Iv 0) (zb (zr (zZ (fun mq σ I => ∃ (k : Nat) (ρ : Env), mq = l.length - k ∧ σ = yc ρ [(2, Ix b2 0), (5, Ix g 0), (10, vl), (11, Iw l.length), (12, Iw k)] ∧ (k ≤ l.length) ∧ Sep G W ((ViewO g d (zn d (l.take k)) (zn d (l.take k))) :: (Blk b2 (d.cells dd0 dd1).toArray 25) :: Rs) I) ⟨0, _, rfl, sSf, Nat.zero_le _, H⟩ ?_)))))))))))))
 rintro m9 σ10 w8 ⟨k, ρl1, rfl, rfl, hkk, h⟩
 refine za (R0 fun _ => st (zL (k := .i64) (a := ((k : Nat) : Int)) (b := ((l.length : Nat) : Int)) rfl rfl (zb (za ?_))))
 cases f : decide (((k : Nat) : Int) < ((l.length : Nat) : Int))
 have f := fD f
 refine zf rfl (ya (zS (za (R0 fun _ => st (mV (Ix g 0) (st (aS (Ix g 0) (zb (zo (zR Tryz.results82 (show _ = (Ix g 0 : Value) from rfl) ?_))))))))))
 have j := h.s2_a
 have hkn : k = l.length := by omega
 rw [hkn, List.take_length] at j
 refine ⟨g, rfl, j⟩
 have f := tD f
 refine zh rfl (zp (za (zr (za (R0 fun _ => ?_)))))
 have z : k < l.length := bo
 refine st (ze (k := 10) (i := k) rT lT rfl hl.sl rfl z ?_)
 have m : k < l.length := bo
 obtain ⟨u, c, o⟩ := hl.evD m
 have hsm17 : ((l.getD k default).deps).length * 8 ≤ 140737488355328 := c.small
 have x := h.cells u (hl.foot (ne_of_lt m))
 refine st (zg (k := 10) oT lT rfl rfl x (st (zH lY ?_)))
 intro w21 b20 A
 have p := h.new A
 refine stn (zF (v := .agg ((l.getD k default).cells (zG W (sb vl) (so vl + k * 10 + 3))).toArray) (c' := ((l.getD k default).cells (zG W (sb vl) (so vl + k * 10 + 3))).toArray) lT rfl rfl (p.b0) (yg ⟨rfl, rfl, rfl, c.sl.one, rfl, rfl, rfl, rfl, rfl, rfl, trivial⟩) yqc rfl ?_)
 intro w23 B
 have q := p.pt0 B
 refine zb (R0 fun _ => st (mV (Ix g 0) (st (zg (k := 10) oT lT rfl rfl (CellsAt.all (q.b0)) (st (cL Tryz.call63 (Ko (e := (l.getD k default)) c o hKN (q.mv1) (hd) ((Inv.run hd _)) ((Ju hfew))) ?_))))))
 rintro _ w28 ⟨v27, rfl, s⟩
 have C := s.r1
 have hr30s : _ * 8 ≤ _ := C.2
 refine zb (R0 fun _ => ?_)
 have D : InR ((k + 1 : Nat) : Int) := bo
 refine st (zQ (r := ((k + 1 : Nat) : Int)) (k := .i64) (a := ((k : Nat) : Int)) (b := 1) rfl rfl (by rw [show (((k : Nat) : Int) + 1 : Int) = ((k + 1 : Nat) : Int) from bo]; exact zC D) (st (mV (Iw (k + 1)) (zb ?_))))
 have t := s.s4_ad
 have E : (zn d (l.take (k + 1))) = ((zn d (l.take k)) ++ [yh d (zn d (l.take k)) (l.getD k default)]) := (UZ om)
 rw [← E] at t
 exact ⟨_, by omega, k + 1, _, rfl, sSf, by omega, t⟩

def UD (e : Ev) (n : Int) : Prop := (0 ≤ e.origin ∧ e.origin < n ∧ (e.deps.length : Int) = n ∧ 1 ≤ e.seq) ∧ ∀ i, i < e.deps.length → 0 ≤ e.deps.getD i 0
theorem QB {α : Type} [Inhabited α] {P : α → Prop} {l : List α} {x : α} (h : ∀ i, i < l.length → P (l.getD i default)) (hx : P x) : ∀ i, i < (l ++ [x]).length → P ((l ++ [x]).getD i default) := by
  intro i hi
  rcases Nat.lt_or_ge i l.length with h1 | h1
  · have e : (l ++ [x]).getD i default = l.getD i default := by rw [List.getD_eq_getElem?_getD, List.getD_eq_getElem?_getD, List.getElem?_append_left h1]
    rw [e]; exact h i h1
  · have e : i = l.length := by rw [List.length_append, List.length_singleton] at hi; omega
    subst e
    rw [List.getD_eq_getElem?_getD, List.getElem?_append_right (Nat.le_refl _), Nat.sub_self]; exact hx
theorem JC {G : Nat → Prop} {W w : World} {Rs : List HP} {d : Dcl} {dd0 : Value} (hdd0 : RdS W G dd0 d.types) {dd1 : Value} (hdd1 : RdS W G dd1 d.projs) (od : d.Ok) (hS0 : Sep G W Rs w) : Ret Tryz.prog 8 [.agg (d.cells dd0 dd1).toArray] w (fun r w' => ∃ (b : Bool), r = (.bool b : Value) ∧ (b = true → DclOk d ∧ Xo d) ∧ Sep G W Rs w') := by
 have hdd0s : _ * 24 ≤ _ := hdd0.small
 have hdd1s : _ * 40 ≤ _ := hdd1.small
 refine zl (args := [.agg (d.cells dd0 dd1).toArray]) Tryz.func8 rfl rfl ?_
 refine za (R0 fun _ => st (zT (v := .agg (d.cells dd0 dd1).toArray) rfl ?_))
 intro w3 b2 m
 have h := hS0.new m
 refine st (aS (.bool false) (zb (za (zI kr (st (zg (k := 2) sR tR rfl rfl (CellsAt.all (h.b0)) (st (cL Tryz.call32 (zbc (d := d) hdd0 hdd1 od h) ?_))))))))
 rintro _ w6 ⟨i, rfl, f⟩
 refine st (yF (a := i) rfl (st (mV (.bool (!i)) (stc (V := .agg (d.cells dd0 dd1).toArray) rfl rfl (fun n => ?_) ?_))))
 have o := n
 try simp only [zi] at o
 exact zg (k := 2) sR tR rfl rfl (CellsAt.all (f.b0)) ⟨rfl, rfl⟩
 cases e : !i
 have hg10r := e
 try simp only [zi] at e
 refine stx rfl rfl (stx rfl rfl (st (yb (v := .bool false) rfl rfl (st (aS (.bool false) (zb (zo (zR mY (show _ = (.bool false : Value) from rfl) ?_))))))))
 refine ⟨false, rfl, ?_, (f.s1_)⟩
 intro j
 cases j
 try simp only [zi] at e
 refine sty rfl rfl (cL Tryz.call33 (JQ (d := d) hdd0 hdd1 od f) ?_)
 rintro _ w15 ⟨c, rfl, hin13, g, l⟩
 refine sty rfl rfl (zY (k := .i64) (a := c) (b := 0) rfl rfl (st (yo (v := .bool (decide (c = 0))) rfl rfl (st (aS (.bool (decide (c = 0))) (zb (zo (zR mY (show _ = (.bool (decide (c = 0)) : Value) from rfl) ?_))))))))
 refine ⟨decide (c = 0), rfl, ?_, (l.s1_)⟩
 intro j
 exact g (by simpa using j)

theorem KI {G : Nat → Prop} {W w : World} {Rs : List HP} {e : Ev} {de0 : Value} (hde0 : RdS W G de0 e.deps) (oe : e.Ok) {n : Int} (hn : InR n) (hS0 : Sep G W Rs w) : Ret Tryz.prog 60 [.agg (e.cells de0).toArray, .int .i64 (n)] w (fun r w' => ∃ (c : Int), r = (.int .i64 (c) : Value) ∧ (InR c) ∧ (c = 0 → UD e n) ∧ Sep G W Rs w') := by
 have hde0s : _ * 8 ≤ _ := hde0.small
 refine zl (args := [.agg (e.cells de0).toArray, Iv n]) Tryz.func60 rfl rfl ?_
 refine za (R0 fun _ => st (zT (v := .agg (e.cells de0).toArray) rfl ?_))
 intro w3 b2 bi
 have f := hS0.new bi
 refine st (aS (Iv 0) (zb (za (za (zI kr (st (xe rfl (st (WT rfl (st (lD (Iv (e.origin)) kT rfl (zd (f.b0) rfl) (st (zL (k := .i64) (a := e.origin) (b := 0) rfl rfl (st (mV (.bool (decide (e.origin < 0))) (stc (V := Ix b2 0) rfl rfl (fun bj => ?_) ?_))))))))))))))))
 have hl6 := fD bj
 exact xe rfl ⟨rfl, rfl⟩
 refine stc (V := Ix b2 0) rfl rfl (fun aE => ?_) ?_
 have hl8 := fD aE
 exact WT (if_pos aE) ⟨rfl, rfl⟩
 refine stc (V := Iv (e.origin)) rfl rfl (fun aF => ?_) ?_
 have hl10 := fD aF
 exact lD (Iv (e.origin)) kT (if_pos aF) (zd (f.b0) rfl) ⟨rfl, rfl⟩
 refine stc (V := Iv n) rfl rfl (fun aG => ?_) ?_
 have hl12 := fD aG
 exact mV (Iv n) ⟨rfl, rfl⟩
 refine stc (V := .bool (decide (n ≤ e.origin))) rfl rfl (fun p => ?_) ?_
 have hl14 := fD p
 exact Zm (k := .i64) (a := e.origin) (b := n) (if_pos p) (if_pos p) ⟨rfl, rfl⟩
 refine st (zy (b := decide (e.origin < 0)) (b' := decide (n ≤ e.origin)) rfl (fun hbp => (if_pos hbp)) (st (mV (.bool ((decide (e.origin < 0)) || (decide (n ≤ e.origin)))) (stc (V := Ix b2 0) rfl rfl (fun aH => ?_) ?_))))
 have aI := aH
 try simp only [zi] at aI
 exact xe rfl ⟨rfl, rfl⟩
 refine stc (V := Ix b2 1) rfl rfl (fun K => ?_) ?_
 have aJ := K
 try simp only [zi] at aJ
 exact Up (if_pos K) ⟨rfl, rfl⟩
 refine stc (V := Iv (e.seq)) rfl rfl (fun L => ?_) ?_
 have aK := L
 try simp only [zi] at aK
 exact lD (Iv (e.seq)) kT (if_pos L) (zd (f.b0) rfl) ⟨rfl, rfl⟩
 refine stc (V := .bool (decide (e.seq < 1))) rfl rfl (fun M => ?_) ?_
 have aL := M
 try simp only [zi] at aL
 exact zL (k := .i64) (a := e.seq) (b := 1) (if_pos M) rfl ⟨rfl, rfl⟩
 refine st (zy (b := (decide (e.origin < 0)) || (decide (n ≤ e.origin))) (b' := decide (e.seq < 1)) rfl (fun hbp => (if_pos hbp)) (st (mV (.bool (((decide (e.origin < 0)) || (decide (n ≤ e.origin))) || (decide (e.seq < 1)))) (stc (V := Ix b2 2) rfl rfl (fun aM => ?_) ?_))))
 have aN := aM
 try simp only [zi] at aN
 exact VX rfl ⟨rfl, rfl⟩
 refine stc (V := Iv (e.lam)) rfl rfl (fun N => ?_) ?_
 have aO := N
 try simp only [zi] at aO
 exact lD (Iv (e.lam)) kT (if_pos N) (zd (f.b0) rfl) ⟨rfl, rfl⟩
 refine stc (V := .bool (decide (e.lam < 1))) rfl rfl (fun O => ?_) ?_
 have aP := O
 try simp only [zi] at aP
 exact zL (k := .i64) (a := e.lam) (b := 1) (if_pos O) rfl ⟨rfl, rfl⟩
 refine st (zy (b := ((decide (e.origin < 0)) || (decide (n ≤ e.origin))) || (decide (e.seq < 1))) (b' := decide (e.lam < 1)) rfl (fun hbp => (if_pos hbp)) (st (mV (.bool ((((decide (e.origin < 0)) || (decide (n ≤ e.origin))) || (decide (e.seq < 1))) || (decide (e.lam < 1)))) (stc (V := Ix b2 5) rfl rfl (fun aQ => ?_) ?_))))
 have aR := aQ
 try simp only [zi] at aR
 exact ZS rfl ⟨rfl, rfl⟩
 refine stc (V := Iv (e.agg)) rfl rfl (fun P => ?_) ?_
 have aT := P
 try simp only [zi] at aT
 exact lD (Iv (e.agg)) kT (if_pos P) (zd (f.b0) rfl) ⟨rfl, rfl⟩
 refine stc (V := .bool (decide (e.agg < 0))) rfl rfl (fun Q => ?_) ?_
 have aU := Q
 try simp only [zi] at aU
 exact zL (k := .i64) (a := e.agg) (b := 0) (if_pos Q) rfl ⟨rfl, rfl⟩
 refine st (zy (b := (((decide (e.origin < 0)) || (decide (n ≤ e.origin))) || (decide (e.seq < 1))) || (decide (e.lam < 1))) (b' := decide (e.agg < 0)) rfl (fun hbp => (if_pos hbp)) (st (mV (.bool (((((decide (e.origin < 0)) || (decide (n ≤ e.origin))) || (decide (e.seq < 1))) || (decide (e.lam < 1))) || (decide (e.agg < 0)))) (stc (V := Ix b2 9) rfl rfl (fun aV => ?_) ?_))))
 have aW := aV
 try simp only [zi] at aW
 exact Uk rfl ⟨rfl, rfl⟩
 refine stc (V := Iv (e.key)) rfl rfl (fun R => ?_) ?_
 have aX := R
 try simp only [zi] at aX
 exact lD (Iv (e.key)) kT (if_pos R) (zd (f.b0) rfl) ⟨rfl, rfl⟩
 refine stc (V := .bool (decide (e.key < 0))) rfl rfl (fun S => ?_) ?_
 have aY := S
 try simp only [zi] at aY
 exact zL (k := .i64) (a := e.key) (b := 0) (if_pos S) rfl ⟨rfl, rfl⟩
 refine st (zy (b := ((((decide (e.origin < 0)) || (decide (n ≤ e.origin))) || (decide (e.seq < 1))) || (decide (e.lam < 1))) || (decide (e.agg < 0))) (b' := decide (e.key < 0)) rfl (fun hbp => (if_pos hbp)) (st (mV (.bool ((((((decide (e.origin < 0)) || (decide (n ≤ e.origin))) || (decide (e.seq < 1))) || (decide (e.lam < 1))) || (decide (e.agg < 0))) || (decide (e.key < 0)))) (stc (V := Ix b2 3) rfl rfl (fun aZ => ?_) ?_))))
 have ba := aZ
 try simp only [zi] at ba
 exact xK rfl ⟨rfl, rfl⟩
 refine stc (V := de0) rfl rfl (fun T => ?_) ?_
 have bb := T
 try simp only [zi] at bb
 exact lD de0 sT (if_pos T) (zd (f.b0) rfl) ⟨rfl, rfl⟩
 refine stc (V := Iw e.deps.length) rfl rfl (fun U => ?_) ?_
 have bc := U
 try simp only [zi] at bc
 exact zB (n := e.deps.length) oR (if_pos U) hde0.sl ⟨rfl, rfl⟩
 refine stc (V := Iv n) rfl rfl (fun bd => ?_) ?_
 have be := bd
 try simp only [zi] at be
 exact mV (Iv n) ⟨rfl, rfl⟩
 refine stc (V := .bool (!decide (((e.deps.length : Nat) : Int) = n))) rfl rfl (fun q => ?_) ?_
 have bf := q
 try simp only [zi] at bf
 exact yu (k := .i64) (a := ((e.deps.length : Nat) : Int)) (b := n) (if_pos q) (if_pos q) ⟨rfl, rfl⟩
 refine st (zy (b := (((((decide (e.origin < 0)) || (decide (n ≤ e.origin))) || (decide (e.seq < 1))) || (decide (e.lam < 1))) || (decide (e.agg < 0))) || (decide (e.key < 0))) (b' := !decide (((e.deps.length : Nat) : Int) = n)) rfl (fun hbp => (if_pos hbp)) (zb ?_))
 cases X : ((((((decide (e.origin < 0)) || (decide (n ≤ e.origin))) || (decide (e.seq < 1))) || (decide (e.lam < 1))) || (decide (e.agg < 0))) || (decide (e.key < 0))) || (!decide (((e.deps.length : Nat) : Int) = n))
 try simp only [zi] at X
 refine zf rfl (zp (za (za (R0 fun _ => st (aS (Iv 0) (zb (zr (zZ (fun mq σ wq => ∃ (k : Nat) (ρ : Env), mq = e.deps.length - k ∧ σ = yc ρ [(1, Iv n), (2, Ix b2 0), (5, Iw k)] ∧ (k ≤ e.deps.length) ∧ (∀ i, i < k → 0 ≤ e.deps.getD i 0) ∧ Sep G W ((Blk b2 (e.cells de0).toArray 64) :: Rs) wq) ⟨0, _, rfl, sSf, Nat.zero_le _, (fun i h => absurd h (Nat.not_lt_zero i)), f⟩ ?_))))))))
 rintro m53 σ54 w52 ⟨k, ρl1, rfl, rfl, hkk, hm, m⟩
 refine za (za (R0 fun _ => st (mV (Iw k) (st (mV (Iv n) (st (zL (k := .i64) (a := ((k : Nat) : Int)) (b := n) rfl rfl (zb ?_))))))))
 cases o : decide (((k : Nat) : Int) < n)
 have o := fD o
 refine zf rfl (ya (zS (za (za ?_))))
 refine WD4 (WF [fun vals wq => Sep G W ((Blk b2 (e.cells de0).toArray 64) :: Rs) wq]) (AF [Vl 0 (Ix b2 3), Vl 1 (de0), Vl 2 (Ix b2 0), Vl 3 (Ix b2 0), Vl 4 (Iv (e.origin)), Vl 5 (Ix (sb de0) (so de0 + e.origin.toNat * 1)), Vl 6 (Iv ((e.deps.getD e.origin.toNat 0))), Vl 7 (Ix b2 0), Vl 8 (Ix b2 1), Vl 9 (Iv (e.seq)), Vl 10 (Iv (e.seq - 1)), Vl 11 (.bool (!decide ((e.deps.getD e.origin.toNat 0) = (e.seq - 1))))]) [[], [0], [], [2], [2, 3], (rg 5), (rg 6), [], [7], [7, 8], [7, 8, 9], (rg 11)] [] [(0, 0), (0, 0), (0, 0), (0, 0), (0, 0), (0, 0), (0, 0), (0, 0), (0, 0), (0, 0), (0, 0), (0, 0)] m ⟨fun _ _ _ _ _ _ _ => obl rfl (xK rfl dR), ob1 0 fun _ _ (ac : Sep _ _ _ _) ad => obl rfl (lD de0 sT (ad 0 dc) (zd (ac.b0) rfl) dR), fun _ _ _ _ _ _ _ => obl rfl (xe rfl dR), fun _ _ _ _ _ _ ae => obl rfl (WT (ae 2 dc) dR), ob1 0 fun _ _ (af : Sep _ _ _ _) ag => obl rfl (lD (Iv (e.origin)) kT (ag 3 dc) (zd (af.b0) rfl) dR), ?_, ?_, fun _ _ _ _ _ _ _ => obl rfl (xe rfl dR), fun _ _ _ _ _ _ ah => obl rfl (Up (ah 7 dc) dR), ob1 0 fun _ _ (ai : Sep _ _ _ _) aj => obl rfl (lD (Iv (e.seq)) kT (aj 8 dc) (zd (ai.b0) rfl) dR), ?_, ob1 0 fun _ _ _ s => obl rfl (yu (k := .i64) (a := (e.deps.getD e.origin.toNat 0)) (b := e.seq - 1) (s 6 dc) (s 10 dc) dR), trivial⟩ ?_
 refine ob1 0 fun _ _ _ t => (obl rfl ?_)
 have hi196 : e.origin.toNat < e.deps.length := bo
 exact zN (k := 1) (i := e.origin) oR tT (t 1 dc) hde0.sl (t 4 dc) ⟨by omega, by omega⟩ dR
 refine ob1 0 fun _ _ (ak : Sep _ _ _ _) al => (obl rfl ?_)
 have u : e.origin.toNat < e.deps.length := bo
 obtain ⟨Y, hxe205⟩ := hde0.intD u
 have Z := ak.cells Y (hde0.foot (ne_of_lt u))
 exact lD (Iv ((e.deps.getD e.origin.toNat 0))) kT (al 5 dc) (Z.get (j := 0) rfl) dR
 refine ob1 0 fun _ _ _ am => (obl rfl ?_)
 have an : InR (e.seq - 1) := (by have J := oe.seq; omega)
 exact YC (r := e.seq - 1) (k := .i64) (a := e.seq) (b := 1) (am 9 (by decide)) rfl (by rw [show (e.seq - 1 : Int) = e.seq - 1 from rfl]; exact zC an) dR
 intro vals w247 ao ap
 have d : Sep _ _ _ _ := ao
 have bh := ap 11 dc
 refine zX (kv := [(1, Iv n), (2, Ix b2 0), (5, Iw k), (45, Iw k), (46, Iv n), (47, .bool false), (67, .bool (!decide ((e.deps.getD e.origin.toNat 0) = (e.seq - 1))))]) ⟨rfl, rfl, rfl, rfl, rfl, rfl, (by exact bh), trivial⟩ (fun ρw247 => (zb ?_))
 cases g : !decide ((e.deps.getD e.origin.toNat 0) = (e.seq - 1))
 have g := zA g
 refine zf rfl (zp (za (za (zI kr (st (Zj rfl (st (lD (Iv (e.op)) kT rfl (zd (d.b0) rfl) (st (zL (k := .i64) (a := e.op) (b := 1) rfl rfl (st (mV (.bool (decide (e.op < 1))) (stc (V := Ix b2 7) rfl rfl (fun aq => ?_) ?_)))))))))))))
 have hl254 := fD aq
 exact Zj rfl ⟨rfl, rfl⟩
 refine stc (V := Iv (e.op)) rfl rfl (fun x => ?_) ?_
 have hl256 := fD x
 exact lD (Iv (e.op)) kT (if_pos x) (zd (d.b0) rfl) ⟨rfl, rfl⟩
 refine stc (V := .bool (decide (5 < e.op))) rfl rfl (fun y => ?_) ?_
 have hl258 := fD y
 exact yX (k := .i64) (a := e.op) (b := 5) (if_pos y) rfl ⟨rfl, rfl⟩
 refine st (zy (b := decide (e.op < 1)) (b' := decide (5 < e.op)) rfl (fun hbp => (if_pos hbp)) (zb ?_))
 cases z : (decide (e.op < 1)) || (decide (5 < e.op))
 try simp only [zi] at z
 refine zf rfl (zp (za (za (zI kr (st (xS rfl (st (lD (Iv (e.typ)) kT rfl (zd (d.b0) rfl) (st (zL (k := .i64) (a := e.typ) (b := 0) rfl rfl (st (mV (.bool (decide (e.typ < 0))) (stc (V := Ix b2 4) rfl rfl (fun ar => ?_) ?_)))))))))))))
 have hl261 := fD ar
 exact xS rfl ⟨rfl, rfl⟩
 refine stc (V := Iv (e.typ)) rfl rfl (fun A => ?_) ?_
 have hl263 := fD A
 exact lD (Iv (e.typ)) kT (if_pos A) (zd (d.b0) rfl) ⟨rfl, rfl⟩
 refine stc (V := .bool (decide (7 < e.typ))) rfl rfl (fun B => ?_) ?_
 have hl265 := fD B
 exact yX (k := .i64) (a := e.typ) (b := 7) (if_pos B) rfl ⟨rfl, rfl⟩
 refine st (zy (b := decide (e.typ < 0)) (b' := decide (7 < e.typ)) rfl (fun hbp => (if_pos hbp)) (st (mV (.bool ((decide (e.typ < 0)) || (decide (7 < e.typ)))) (stc (V := Ix b2 6) rfl rfl (fun au => ?_) ?_))))
 have av := au
 try simp only [zi] at av
 exact Zb rfl ⟨rfl, rfl⟩
 refine stc (V := Iv (e.field)) rfl rfl (fun C => ?_) ?_
 have aw := C
 try simp only [zi] at aw
 exact lD (Iv (e.field)) kT (if_pos C) (zd (d.b0) rfl) ⟨rfl, rfl⟩
 refine stc (V := .bool (decide (e.field < 0))) rfl rfl (fun D => ?_) ?_
 have ax := D
 try simp only [zi] at ax
 exact zL (k := .i64) (a := e.field) (b := 0) (if_pos D) rfl ⟨rfl, rfl⟩
 refine st (zy (b := (decide (e.typ < 0)) || (decide (7 < e.typ))) (b' := decide (e.field < 0)) rfl (fun hbp => (if_pos hbp)) (st (mV (.bool (((decide (e.typ < 0)) || (decide (7 < e.typ))) || (decide (e.field < 0)))) (stc (V := Ix b2 6) rfl rfl (fun ay => ?_) ?_))))
 have az := ay
 try simp only [zi] at az
 exact Zb rfl ⟨rfl, rfl⟩
 refine stc (V := Iv (e.field)) rfl rfl (fun E => ?_) ?_
 have aA := E
 try simp only [zi] at aA
 exact lD (Iv (e.field)) kT (if_pos E) (zd (d.b0) rfl) ⟨rfl, rfl⟩
 refine stc (V := .bool (decide (7 < e.field))) rfl rfl (fun F => ?_) ?_
 have aB := F
 try simp only [zi] at aB
 exact yX (k := .i64) (a := e.field) (b := 7) (if_pos F) rfl ⟨rfl, rfl⟩
 refine st (zy (b := ((decide (e.typ < 0)) || (decide (7 < e.typ))) || (decide (e.field < 0))) (b' := decide (7 < e.field)) rfl (fun hbp => (if_pos hbp)) (zb ?_))
 cases H : (((decide (e.typ < 0)) || (decide (7 < e.typ))) || (decide (e.field < 0))) || (decide (7 < e.field))
 try simp only [zi] at H
 refine zf rfl (zp (za (R0 fun _ => st (aS (Iv 0) (zb (zo (zR kR (show _ = (Iv 0 : Value) from rfl) ?_)))))))
 refine ⟨0, rfl, ?_, ?_, (d.s1_)⟩
 decide
 intro J
 exact ⟨⟨by omega, by omega, by omega, by omega⟩, fun i hi => hm i om⟩
 try simp only [zi] at H
 refine zh rfl (za (R0 fun _ => st (aS (Iv 8) (zb (zo (zR kR (show _ = (Iv 8 : Value) from rfl) ?_))))))
 refine ⟨8, rfl, ?_, ?_, (d.s1_)⟩
 decide
 intro J
 omega
 try simp only [zi] at z
 refine zh rfl (za (R0 fun _ => st (aS (Iv 2) (zb (zo (zR kR (show _ = (Iv 2 : Value) from rfl) ?_))))))
 refine ⟨2, rfl, ?_, ?_, (d.s1_)⟩
 decide
 intro J
 omega
 have g := zV g
 refine zh rfl (za (R0 fun _ => st (aS (Iv 9) (zb (zo (zR kR (show _ = (Iv 9 : Value) from rfl) ?_))))))
 refine ⟨9, rfl, ?_, ?_, (d.s1_)⟩
 decide
 intro J
 omega
 have o := tD o
 refine zh rfl (zp (za (zr (za (R0 fun _ => st (xK rfl (st (lD de0 sT rfl (zd (m.b0) rfl) (st (mV (Iw k) ?_))))))))))
 have aC : k < e.deps.length := bo
 refine st (ze (k := 1) (i := k) oR tT rfl hde0.sl rfl aC ?_)
 have I : k < e.deps.length := bo
 obtain ⟨aa, hxe284⟩ := hde0.intD I
 have ab := m.cells aa (hde0.foot (ne_of_lt I))
 refine st (lD (Iv ((e.deps.getD k 0))) kT rfl (ab.get (j := 0) rfl) (st (zL (k := .i64) (a := (e.deps.getD k 0)) (b := 0) rfl rfl (zb ?_))))
 cases l : decide ((e.deps.getD k 0) < 0)
 have l := fD l
 refine zf rfl (zp (R0 fun _ => st (mV (Iw k) ?_)))
 have aD : InR ((k + 1 : Nat) : Int) := bo
 refine st (zQ (r := ((k + 1 : Nat) : Int)) (k := .i64) (a := ((k : Nat) : Int)) (b := 1) rfl rfl (by rw [show (((k : Nat) : Int) + 1 : Int) = ((k + 1 : Nat) : Int) from bo]; exact zC aD) (st (aS (Iw (k + 1)) (zb ?_))))
 exact ⟨_, by omega, k + 1, _, rfl, sSf, by omega, (yP hm om), m⟩
 have l := tD l
 refine zh rfl (za (R0 fun _ => st (aS (Iv 1) (zb (zo (zR kR (show _ = (Iv 1 : Value) from rfl) ?_))))))
 refine ⟨1, rfl, ?_, ?_, (m.s1_)⟩
 decide
 intro J
 omega
 try simp only [zi] at X
 refine zh rfl (za (R0 fun _ => st (aS (Iv 1) (zb (zo (zR kR (show _ = (Iv 1 : Value) from rfl) ?_))))))
 refine ⟨1, rfl, ?_, ?_, (f.s1_)⟩
 decide
 intro J
 omega

theorem KY {G : Nat → Prop} {W w : World} {Rs : List HP} {n : Int} (hn : InR n) {vl : Value} {l : List Ev} (hl : RdS W G vl l) (hS0 : Sep G W Rs w) : Ret Tryz.prog 34 [.int .i64 (n), vl] w (fun r w' => ∃ (v : Value) (l2 : List Ev), r = (v : Value) ∧ (l2.length ≤ 60) ∧ (∀ i, i < l2.length → UD (l2.getD i default) n) ∧ Sep G W ((RowE (α := Ev) (shr G W) 64 v l2) :: Rs) w') := by
 have hls : _ * 96 ≤ _ := hl.small
 refine zl (args := [Iv n, vl]) Tryz.func34 rfl rfl ?_
 refine za (R0 fun _ => st (aS (Iz) (zb (za (R0 fun _ => st (aS (Iz) (zb (za (za (R0 fun _ => st (aS (Iv 0) (zb (zr ?_)))))))))))))
 have aa : Sep G W ((RowE (α := Ev) (shr G W) 64 (Iz) ([] : List Ev)) :: Rs) w := hS0.rowNil (shr G W) 64
 refine zZ (fun mq σ wq => ∃ (k : Nat) (vo : Value) (l2 : List Ev) (ρ : Env), mq = l.length - k ∧ σ = yc ρ [(0, Iv n), (1, vl), (5, vo), (6, Iw k)] ∧ (k ≤ l.length) ∧ (l2.length ≤ 60) ∧ (∀ i, i < l2.length → UD (l2.getD i default) n) ∧ Sep G W ((RowE (α := Ev) (shr G W) 64 vo l2) :: Rs) wq) ⟨0, (Iz), [], _, rfl, sSf, Nat.zero_le _, Nat.zero_le _, (fun i h => absurd h (Nat.not_lt_zero i)), aa⟩ ?_
 rintro m3 σ4 w2 ⟨k, vo, l2, ρl1, rfl, rfl, hkk, u, hft, g⟩
 let ac := zG W (sb vl) (so vl + k * 10 + 3)
 have J := g.r0
 have hr6s : _ * 96 ≤ _ := J.2
 refine za (za (zI kr (st (mV (Iw k) (st (mV vl (st (zB (n := l.length) rT rfl hl.sl (st (zL (k := .i64) (a := ((k : Nat) : Int)) (b := ((l.length : Nat) : Int)) rfl rfl (st (mV (.bool (decide (((k : Nat) : Int) < ((l.length : Nat) : Int)))) (stc (V := vo) rfl rfl (fun ab => ?_) ?_)))))))))))))
 have hl8 := tD ab
 exact mV vo ⟨rfl, rfl⟩
 refine stc (V := Iw l2.length) rfl rfl (fun K => ?_) ?_
 have hl10 := tD K
 exact zB (n := l2.length) rT (if_pos K) J.1 ⟨rfl, rfl⟩
 refine stc (V := .bool (decide (((l2.length : Nat) : Int) < 60))) rfl rfl (fun x => ?_) ?_
 have hl12 := tD x
 exact zL (k := .i64) (a := ((l2.length : Nat) : Int)) (b := 60) (if_pos x) rfl ⟨rfl, rfl⟩
 refine st (zD (b := decide (((k : Nat) : Int) < ((l.length : Nat) : Int))) (b' := decide (((l2.length : Nat) : Int) < 60)) rfl (fun hbp => (if_pos hbp)) (zb ?_))
 cases y : (decide (((k : Nat) : Int) < ((l.length : Nat) : Int))) && (decide (((l2.length : Nat) : Int) < 60))
 try simp only [zi] at y
 refine zf rfl (ya (zS (za (R0 fun _ => st (mV vo (st (aS vo (zb (zo (zR Tryz.results34 (show _ = (vo : Value) from rfl) ?_))))))))))
 refine ⟨vo, l2, rfl, ?_, ?_, g⟩
 exact u
 exact hft
 try simp only [zi] at y
 refine zh rfl (zp (za (zr (za (zI kr (st (mV vl (st (mV (Iw k) ?_)))))))))
 have M : k < l.length := bo
 refine st (ze (k := 10) (i := k) rT lT rfl hl.sl rfl M (st (xK rfl ?_)))
 have m : k < l.length := bo
 obtain ⟨o, d, q⟩ := hl.evD m
 have hsm17 : ((l.getD k default).deps).length * 8 ≤ 140737488355328 := d.small
 have D := g.cells o (hl.foot (ne_of_lt m))
 refine st (lD ac sT rfl (D.get (j := 3) rfl) (st (zB (n := ((l.getD k default).deps).length) oR rfl d.sl (st (mV (Iv n) (st (zY (k := .i64) (a := ((((l.getD k default).deps).length : Nat) : Int)) (b := n) rfl rfl (st (mV (.bool (decide (((((l.getD k default).deps).length : Nat) : Int) = n))) (stc (V := vl) rfl rfl (fun N => ?_) ?_))))))))))
 have hl20 := tD N
 exact mV vl ⟨rfl, rfl⟩
 refine stc (V := Iw k) rfl rfl (fun O => ?_) ?_
 have hl22 := tD O
 exact mV (Iw k) ⟨rfl, rfl⟩
 refine stc (V := Ix (sb vl) (so vl + k * 10)) rfl rfl (fun s => ?_) ?_
 have hl24 := tD s
 have Q : k < l.length := bo
 exact ze (k := 10) (i := k) rT lT (if_pos s) hl.sl (if_pos s) Q ⟨rfl, rfl⟩
 refine stc (V := .agg ((l.getD k default).cells ac).toArray) rfl rfl (fun z => ?_) ?_
 have hl27 := tD z
 have E := g.cells o (hl.foot (ne_of_lt m))
 exact zg (k := 10) oT lT rfl (if_pos z) E ⟨rfl, rfl⟩
 refine stc (V := Iv n) rfl rfl (fun R => ?_) ?_
 have hl31 := tD R
 exact mV (Iv n) ⟨rfl, rfl⟩
 cases f : decide (((((l.getD k default).deps).length : Nat) : Int) = n)
 have hg32r := f
 have f := fD f
 refine stx rfl rfl (stx rfl rfl (st (yb (v := .bool false) rfl rfl (zb (zf rfl (zp (R0 fun _ => st (mV (Iw k) ?_))))))))
 have S : InR ((k + 1 : Nat) : Int) := bo
 refine st (zQ (r := ((k + 1 : Nat) : Int)) (k := .i64) (a := ((k : Nat) : Int)) (b := 1) rfl rfl (by rw [show (((k : Nat) : Int) + 1 : Int) = ((k + 1 : Nat) : Int) from bo]; exact zC S) (st (aS (Iw (k + 1)) (zb ?_))))
 exact ⟨_, by omega, k + 1, vo, l2, _, rfl, sSf, by omega, u, hft, g⟩
 have f := tD f
 refine sty rfl rfl (cL Tryz.call60 (KI (e := (l.getD k default)) (n := n) d q hn g) ?_)
 rintro _ w37 ⟨A, rfl, hc935, F, t⟩
 refine sty rfl rfl (zY (k := .i64) (a := A) (b := 0) rfl rfl (st (yo (v := .bool (decide (A = 0))) rfl rfl (zb ?_))))
 cases p : decide (A = 0)
 have p := fD p
 refine zf rfl (zp (R0 fun _ => st (mV (Iw k) ?_)))
 have T : InR ((k + 1 : Nat) : Int) := bo
 refine st (zQ (r := ((k + 1 : Nat) : Int)) (k := .i64) (a := ((k : Nat) : Int)) (b := 1) rfl rfl (by rw [show (((k : Nat) : Int) + 1 : Int) = ((k + 1 : Nat) : Int) from bo]; exact zC T) (st (aS (Iw (k + 1)) (zb ?_))))
 exact ⟨_, by omega, k + 1, vo, l2, _, rfl, sSf, by omega, u, hft, t⟩
 have p := tD p
 refine zh rfl (R0 fun _ => st (mV vo (st (mV vl (st (mV (Iw k) ?_))))))
 have U : k < l.length := bo
 refine st (ze (k := 10) (i := k) rT lT rfl hl.sl rfl U ?_)
 have H := t.cells o (hl.foot (ne_of_lt m))
 refine st (zg (k := 10) oT lT rfl rfl H (st (zJ (k := 10) (parts' := [(0, .agg ((l.getD k default).cells ac).toArray)]) (c := ((l.getD k default).cells ac).toArray) rT lT lY dc rfl kr ?_)))
 intro w46 b45 X
 have B := t.new X
 have I := B.b0
 refine st (yx (src := (shr G W)) (bytes := 96) (x1 := (l.getD k default)) ((B.s2_b).emp1) UV rfl rfl I (fun _ _ _ => (show _ from ⟨_, rfl, d, q⟩)) yqb rfl ?_)
 intro L w48 C
 have Y := C.r0
 have hr54s : _ * 96 ≤ _ := Y.2
 refine st (aS L (zb (R0 fun _ => st (mV (Iw k) ?_))))
 have Z : InR ((k + 1 : Nat) : Int) := bo
 refine st (zQ (r := ((k + 1 : Nat) : Int)) (k := .i64) (a := ((k : Nat) : Int)) (b := 1) rfl rfl (by rw [show (((k : Nat) : Int) + 1 : Int) = ((k + 1 : Nat) : Int) from bo]; exact zC Z) (st (aS (Iw (k + 1)) (zb ?_))))
 exact ⟨_, by omega, k + 1, L, (l2 ++ [(l.getD k default)]), _, rfl, sSf, by omega, (by rw [List.length_append, List.length_singleton]; omega), (QB (P := fun e => UD e n) hft (F (by omega))), C⟩

theorem VD {G : Nat → Prop} {W w : World} {Rs : List HP} {a : Ev} {da0 : Value} (hda0 : RdS W G da0 a.deps) (oa : a.Ok) {b : Ev} {db0 : Value} (hdb0 : RdS W G db0 b.deps) (ob : b.Ok) (hS0 : Sep G W Rs w) : Ret Tryz.prog 47 [.agg (a.cells da0).toArray, .agg (b.cells db0).toArray] w (fun r w' => r = (.bool (decide (a = b)) : Value) ∧ Sep G W Rs w') := by
 have hda0s : _ * 8 ≤ _ := hda0.small
 have hdb0s : _ * 8 ≤ _ := hdb0.small
 refine zl (args := [.agg (a.cells da0).toArray, .agg (b.cells db0).toArray]) Tryz.func47 rfl rfl ?_
 refine za (R0 fun _ => st (zT (v := .agg (a.cells da0).toArray) rfl ?_))
 intro w3 b2 aX
 refine st (zT (v := .agg (b.cells db0).toArray) rfl ?_)
 intro w7 g aY
 have d := (hS0.new aX).new aY
 refine st (aS (.bool false) (zb (za (zI kr (st (xe rfl (st (zg (k := 2) (cs := [Iv (a.origin), Iv (a.seq)]) qT pT rfl rfl (CellsAt.sub (CellsAt.all (d.b1)) 0 (cs2 := [Iv (a.origin), Iv (a.seq)]) rfl) (st (xe rfl (st (zg (k := 2) (cs := [Iv (b.origin), Iv (b.seq)]) qT pT rfl rfl (CellsAt.sub (CellsAt.all (d.b0)) 0 (cs2 := [Iv (b.origin), Iv (b.seq)]) rfl) (st (Zc (e := decide (a.origin = b.origin ∧ a.seq = b.seq)) (xs := #[Iv (a.origin), Iv (a.seq)]) (ys := #[Iv (b.origin), Iv (b.seq)]) Kf rfl rfl (st (mV (.bool (decide (a.origin = b.origin ∧ a.seq = b.seq))) (stc (V := Ix b2 2) rfl rfl (fun aZ => ?_) ?_)))))))))))))))))
 have hl10 := tD aZ
 exact VX rfl ⟨rfl, rfl⟩
 refine stc (V := Iv (a.lam)) rfl rfl (fun q => ?_) ?_
 have hl12 := tD q
 exact lD (Iv (a.lam)) kT (if_pos q) (zd (d.b1) rfl) ⟨rfl, rfl⟩
 refine stc (V := Ix g 2) rfl rfl (fun M => ?_) ?_
 have hl14 := tD M
 exact VX rfl ⟨rfl, rfl⟩
 refine stc (V := Iv (b.lam)) rfl rfl (fun s => ?_) ?_
 have hl16 := tD s
 exact lD (Iv (b.lam)) kT (if_pos s) (zd (d.b0) rfl) ⟨rfl, rfl⟩
 refine stc (V := .bool (decide (a.lam = b.lam))) rfl rfl (fun h => ?_) ?_
 have hl18 := tD h
 exact zY (k := .i64) (a := a.lam) (b := b.lam) (if_pos h) (if_pos h) ⟨rfl, rfl⟩
 refine st (zD (b := decide (a.origin = b.origin ∧ a.seq = b.seq)) (b' := decide (a.lam = b.lam)) rfl (fun hbp => (if_pos hbp)) (st (mV (.bool ((decide (a.origin = b.origin ∧ a.seq = b.seq)) && (decide (a.lam = b.lam)))) (stc (V := Ix b2 3) rfl rfl (fun N => ?_) ?_))))
 have O := N
 try simp only [zi] at O
 exact xK rfl ⟨rfl, rfl⟩
 refine stc (V := da0) rfl rfl (fun t => ?_) ?_
 have P := t
 try simp only [zi] at P
 exact lD da0 sT (if_pos t) (zd (d.b1) rfl) ⟨rfl, rfl⟩
 refine stc (V := Ix g 3) rfl rfl (fun Q => ?_) ?_
 have R := Q
 try simp only [zi] at R
 exact xK rfl ⟨rfl, rfl⟩
 refine stc (V := db0) rfl rfl (fun u => ?_) ?_
 have S := u
 try simp only [zi] at S
 exact lD db0 sT (if_pos u) (zd (d.b0) rfl) ⟨rfl, rfl⟩
 refine stcw (V := .bool (decide (a.deps = b.deps))) (fun _ wq => Sep G W ((Blk g (b.cells db0).toArray 64) :: (Blk b2 (a.cells da0).toArray 64) :: Rs) wq) d rfl rfl (fun i => ?_) (fun w31 c => ?_)
 have T := i
 try simp only [zi] at T
 refine (zK (f := 54) (vals := [da0, db0]) (cap := []) rfl (yI ⟨(if_pos i), (if_pos i), trivial⟩) nY (Xc (a := a.deps) (va := da0) (b := b.deps) (vb := db0) hda0 hdb0 d) ?_)
 rintro _ w29 ⟨rfl, U⟩
 exact ⟨rfl, U⟩
 refine st (zD (b := (decide (a.origin = b.origin ∧ a.seq = b.seq)) && (decide (a.lam = b.lam))) (b' := decide (a.deps = b.deps)) rfl (fun hbp => (if_pos hbp)) (st (mV (.bool (((decide (a.origin = b.origin ∧ a.seq = b.seq)) && (decide (a.lam = b.lam))) && (decide (a.deps = b.deps)))) (stc (V := Ix b2 4) rfl rfl (fun X => ?_) ?_))))
 have Y := X
 try simp only [zi] at Y
 exact xS rfl ⟨rfl, rfl⟩
 refine stc (V := Iv (a.typ)) rfl rfl (fun x => ?_) ?_
 have Z := x
 try simp only [zi] at Z
 exact lD (Iv (a.typ)) kT (if_pos x) (zd (c.b1) rfl) ⟨rfl, rfl⟩
 refine stc (V := Ix g 4) rfl rfl (fun aa => ?_) ?_
 have ab := aa
 try simp only [zi] at ab
 exact xS rfl ⟨rfl, rfl⟩
 refine stc (V := Iv (b.typ)) rfl rfl (fun y => ?_) ?_
 have ac := y
 try simp only [zi] at ac
 exact lD (Iv (b.typ)) kT (if_pos y) (zd (c.b0) rfl) ⟨rfl, rfl⟩
 refine stc (V := .bool (decide (a.typ = b.typ))) rfl rfl (fun j => ?_) ?_
 have ad := j
 try simp only [zi] at ad
 exact zY (k := .i64) (a := a.typ) (b := b.typ) (if_pos j) (if_pos j) ⟨rfl, rfl⟩
 refine st (zD (b := ((decide (a.origin = b.origin ∧ a.seq = b.seq)) && (decide (a.lam = b.lam))) && (decide (a.deps = b.deps))) (b' := decide (a.typ = b.typ)) rfl (fun hbp => (if_pos hbp)) (st (mV (.bool ((((decide (a.origin = b.origin ∧ a.seq = b.seq)) && (decide (a.lam = b.lam))) && (decide (a.deps = b.deps))) && (decide (a.typ = b.typ)))) (stc (V := Ix b2 5) rfl rfl (fun ae => ?_) ?_))))
 have af := ae
 try simp only [zi] at af
 exact ZS rfl ⟨rfl, rfl⟩
 refine stc (V := Iv (a.agg)) rfl rfl (fun z => ?_) ?_
 have ag := z
 try simp only [zi] at ag
 exact lD (Iv (a.agg)) kT (if_pos z) (zd (c.b1) rfl) ⟨rfl, rfl⟩
 refine stc (V := Ix g 5) rfl rfl (fun ah => ?_) ?_
 have ai := ah
 try simp only [zi] at ai
 exact ZS rfl ⟨rfl, rfl⟩
 refine stc (V := Iv (b.agg)) rfl rfl (fun A => ?_) ?_
 have aj := A
 try simp only [zi] at aj
 exact lD (Iv (b.agg)) kT (if_pos A) (zd (c.b0) rfl) ⟨rfl, rfl⟩
 refine stc (V := .bool (decide (a.agg = b.agg))) rfl rfl (fun l => ?_) ?_
 have ak := l
 try simp only [zi] at ak
 exact zY (k := .i64) (a := a.agg) (b := b.agg) (if_pos l) (if_pos l) ⟨rfl, rfl⟩
 refine st (zD (b := (((decide (a.origin = b.origin ∧ a.seq = b.seq)) && (decide (a.lam = b.lam))) && (decide (a.deps = b.deps))) && (decide (a.typ = b.typ))) (b' := decide (a.agg = b.agg)) rfl (fun hbp => (if_pos hbp)) (st (mV (.bool (((((decide (a.origin = b.origin ∧ a.seq = b.seq)) && (decide (a.lam = b.lam))) && (decide (a.deps = b.deps))) && (decide (a.typ = b.typ))) && (decide (a.agg = b.agg)))) (stc (V := Ix b2 6) rfl rfl (fun al => ?_) ?_))))
 have am := al
 try simp only [zi] at am
 exact Zb rfl ⟨rfl, rfl⟩
 refine stc (V := Iv (a.field)) rfl rfl (fun B => ?_) ?_
 have an := B
 try simp only [zi] at an
 exact lD (Iv (a.field)) kT (if_pos B) (zd (c.b1) rfl) ⟨rfl, rfl⟩
 refine stc (V := Ix g 6) rfl rfl (fun ao => ?_) ?_
 have ap := ao
 try simp only [zi] at ap
 exact Zb rfl ⟨rfl, rfl⟩
 refine stc (V := Iv (b.field)) rfl rfl (fun C => ?_) ?_
 have aq := C
 try simp only [zi] at aq
 exact lD (Iv (b.field)) kT (if_pos C) (zd (c.b0) rfl) ⟨rfl, rfl⟩
 refine stc (V := .bool (decide (a.field = b.field))) rfl rfl (fun m => ?_) ?_
 have ar := m
 try simp only [zi] at ar
 exact zY (k := .i64) (a := a.field) (b := b.field) (if_pos m) (if_pos m) ⟨rfl, rfl⟩
 refine st (zD (b := ((((decide (a.origin = b.origin ∧ a.seq = b.seq)) && (decide (a.lam = b.lam))) && (decide (a.deps = b.deps))) && (decide (a.typ = b.typ))) && (decide (a.agg = b.agg))) (b' := decide (a.field = b.field)) rfl (fun hbp => (if_pos hbp)) (st (mV (.bool ((((((decide (a.origin = b.origin ∧ a.seq = b.seq)) && (decide (a.lam = b.lam))) && (decide (a.deps = b.deps))) && (decide (a.typ = b.typ))) && (decide (a.agg = b.agg))) && (decide (a.field = b.field)))) (stc (V := Ix b2 7) rfl rfl (fun au => ?_) ?_))))
 have av := au
 try simp only [zi] at av
 exact Zj rfl ⟨rfl, rfl⟩
 refine stc (V := Iv (a.op)) rfl rfl (fun D => ?_) ?_
 have aw := D
 try simp only [zi] at aw
 exact lD (Iv (a.op)) kT (if_pos D) (zd (c.b1) rfl) ⟨rfl, rfl⟩
 refine stc (V := Ix g 7) rfl rfl (fun ax => ?_) ?_
 have ay := ax
 try simp only [zi] at ay
 exact Zj rfl ⟨rfl, rfl⟩
 refine stc (V := Iv (b.op)) rfl rfl (fun E => ?_) ?_
 have az := E
 try simp only [zi] at az
 exact lD (Iv (b.op)) kT (if_pos E) (zd (c.b0) rfl) ⟨rfl, rfl⟩
 refine stc (V := .bool (decide (a.op = b.op))) rfl rfl (fun n => ?_) ?_
 have aA := n
 try simp only [zi] at aA
 exact zY (k := .i64) (a := a.op) (b := b.op) (if_pos n) (if_pos n) ⟨rfl, rfl⟩
 refine st (zD (b := (((((decide (a.origin = b.origin ∧ a.seq = b.seq)) && (decide (a.lam = b.lam))) && (decide (a.deps = b.deps))) && (decide (a.typ = b.typ))) && (decide (a.agg = b.agg))) && (decide (a.field = b.field))) (b' := decide (a.op = b.op)) rfl (fun hbp => (if_pos hbp)) (st (mV (.bool (((((((decide (a.origin = b.origin ∧ a.seq = b.seq)) && (decide (a.lam = b.lam))) && (decide (a.deps = b.deps))) && (decide (a.typ = b.typ))) && (decide (a.agg = b.agg))) && (decide (a.field = b.field))) && (decide (a.op = b.op)))) (stc (V := Ix b2 8) rfl rfl (fun aB => ?_) ?_))))
 have aC := aB
 try simp only [zi] at aC
 exact Zg rfl ⟨rfl, rfl⟩
 refine stc (V := Iv (a.arg)) rfl rfl (fun F => ?_) ?_
 have aD := F
 try simp only [zi] at aD
 exact lD (Iv (a.arg)) kT (if_pos F) (zd (c.b1) rfl) ⟨rfl, rfl⟩
 refine stc (V := Ix g 8) rfl rfl (fun aE => ?_) ?_
 have aF := aE
 try simp only [zi] at aF
 exact Zg rfl ⟨rfl, rfl⟩
 refine stc (V := Iv (b.arg)) rfl rfl (fun H => ?_) ?_
 have aG := H
 try simp only [zi] at aG
 exact lD (Iv (b.arg)) kT (if_pos H) (zd (c.b0) rfl) ⟨rfl, rfl⟩
 refine stc (V := .bool (decide (a.arg = b.arg))) rfl rfl (fun o => ?_) ?_
 have aH := o
 try simp only [zi] at aH
 exact zY (k := .i64) (a := a.arg) (b := b.arg) (if_pos o) (if_pos o) ⟨rfl, rfl⟩
 refine st (zD (b := ((((((decide (a.origin = b.origin ∧ a.seq = b.seq)) && (decide (a.lam = b.lam))) && (decide (a.deps = b.deps))) && (decide (a.typ = b.typ))) && (decide (a.agg = b.agg))) && (decide (a.field = b.field))) && (decide (a.op = b.op))) (b' := decide (a.arg = b.arg)) rfl (fun hbp => (if_pos hbp)) (st (mV (.bool ((((((((decide (a.origin = b.origin ∧ a.seq = b.seq)) && (decide (a.lam = b.lam))) && (decide (a.deps = b.deps))) && (decide (a.typ = b.typ))) && (decide (a.agg = b.agg))) && (decide (a.field = b.field))) && (decide (a.op = b.op))) && (decide (a.arg = b.arg)))) (stc (V := Ix b2 9) rfl rfl (fun aI => ?_) ?_))))
 have aJ := aI
 try simp only [zi] at aJ
 exact Uk rfl ⟨rfl, rfl⟩
 refine stc (V := Iv (a.key)) rfl rfl (fun I => ?_) ?_
 have aK := I
 try simp only [zi] at aK
 exact lD (Iv (a.key)) kT (if_pos I) (zd (c.b1) rfl) ⟨rfl, rfl⟩
 refine stc (V := Ix g 9) rfl rfl (fun aL => ?_) ?_
 have aM := aL
 try simp only [zi] at aM
 exact Uk rfl ⟨rfl, rfl⟩
 refine stc (V := Iv (b.key)) rfl rfl (fun J => ?_) ?_
 have aN := J
 try simp only [zi] at aN
 exact lD (Iv (b.key)) kT (if_pos J) (zd (c.b0) rfl) ⟨rfl, rfl⟩
 refine stc (V := .bool (decide (a.key = b.key))) rfl rfl (fun p => ?_) ?_
 have aO := p
 try simp only [zi] at aO
 exact zY (k := .i64) (a := a.key) (b := b.key) (if_pos p) (if_pos p) ⟨rfl, rfl⟩
 refine st (zD (b := (((((((decide (a.origin = b.origin ∧ a.seq = b.seq)) && (decide (a.lam = b.lam))) && (decide (a.deps = b.deps))) && (decide (a.typ = b.typ))) && (decide (a.agg = b.agg))) && (decide (a.field = b.field))) && (decide (a.op = b.op))) && (decide (a.arg = b.arg))) (b' := decide (a.key = b.key)) rfl (fun hbp => (if_pos hbp)) (st (aS (.bool (((((((((decide (a.origin = b.origin ∧ a.seq = b.seq)) && (decide (a.lam = b.lam))) && (decide (a.deps = b.deps))) && (decide (a.typ = b.typ))) && (decide (a.agg = b.agg))) && (decide (a.field = b.field))) && (decide (a.op = b.op))) && (decide (a.arg = b.arg))) && (decide (a.key = b.key)))) (zb (zo (zR Tryz.results47 (show _ = (.bool (((((((((decide (a.origin = b.origin ∧ a.seq = b.seq)) && (decide (a.lam = b.lam))) && (decide (a.deps = b.deps))) && (decide (a.typ = b.typ))) && (decide (a.agg = b.agg))) && (decide (a.field = b.field))) && (decide (a.op = b.op))) && (decide (a.arg = b.arg))) && (decide (a.key = b.key))) : Value) from rfl) ?_))))))
 refine ⟨?_, (c.s2_)⟩
 congr 1
 rw [Bool.eq_iff_iff]
 simp only [Bool.and_eq_true, decide_eq_true_eq, Ev.eq_iff]
 constructor
 rintro ⟨⟨⟨⟨⟨⟨⟨⟨L, h3⟩, h4⟩, h5⟩, h6⟩, h7⟩, h8⟩, h9⟩, K⟩; exact ⟨L.1, L.2, h3, h4, h5, h6, h7, h8, h9, K⟩
 rintro ⟨L, h2, h3, h4, h5, h6, h7, h8, h9, K⟩; exact ⟨⟨⟨⟨⟨⟨⟨⟨⟨L, h2⟩, h3⟩, h4⟩, h5⟩, h6⟩, h7⟩, h8⟩, h9⟩, K⟩

theorem Jl {a b : Ent} (h1 : a.ev = b.ev) (h2 : (a.void == b.void) = true) (h3 : a.byO = b.byO ∧ a.byS = b.byS) : a = b := by
  rw [Ent.eq_iff]; exact ⟨h1, by simpa using h2, h3.1, h3.2⟩
theorem KV {a b : Ent} (h : (a.ev = b.ev ∧ (a.void == b.void) = true) ∧ a.byO = b.byO ∧ a.byS = b.byS) : a = b := Jl h.1.1 h.1.2 h.2
theorem XO {G : Nat → Prop} {W w : World} {Rs : List HP} {va : Value} {a : List Ent} (ha : RdS W G va a) {vb : Value} {b : List Ent} (hb : RdS W G vb b) (hS0 : Sep G W Rs w) : Ret Tryz.prog 22 [va, vb] w (fun r w' => r = (.bool (decide (a = b)) : Value) ∧ Sep G W Rs w') := by
 have has : _ * 120 ≤ _ := ha.small
 have hbs : _ * 120 ≤ _ := hb.small
 refine zl (args := [va, vb]) Tryz.func22 rfl rfl ?_
 refine za (R0 fun _ => st (aS (.bool false) (zb (za (za (R0 fun _ => st (mV va (st (zB (n := a.length) mT rfl ha.sl (st (mV vb (st (zB (n := b.length) mT rfl hb.sl (st (yu (k := .i64) (a := ((a.length : Nat) : Int)) (b := ((b.length : Nat) : Int)) rfl rfl (zb ?_))))))))))))))))
 cases V : !decide (((a.length : Nat) : Int) = ((b.length : Nat) : Int))
 have V := zA V
 refine zf rfl (zp (za (za (R0 fun _ => st (aS (Iv 0) (zb (zr (zZ (fun mq σ wq => ∃ (k : Nat) (ρ : Env), mq = a.length - k ∧ σ = yc ρ [(0, va), (1, vb), (5, Iw k)] ∧ (k ≤ a.length) ∧ (∀ i, i < k → a.getD i default = b.getD i default) ∧ Sep G W Rs wq) ⟨0, _, rfl, sSf, Nat.zero_le _, (fun i h => absurd h (Nat.not_lt_zero i)), hS0⟩ ?_))))))))
 rintro m3 σ4 w2 ⟨k, ρl1, rfl, rfl, hkk, hm, bX⟩
 let cd := zG W (sb vb) (so vb + k * 13 + 3)
 let cc := zG W (sb va) (so va + k * 13 + 3)
 let ca := b.getD k default
 let bZ := a.getD k default
 let cb := (bZ.void) == (ca.void)
 let aC := decide (((a.getD k default).ev) = ((b.getD k default).ev))
 refine za (za (R0 fun _ => st (mV (Iw k) (st (mV va (st (zB (n := a.length) mT rfl ha.sl (st (zL (k := .i64) (a := ((k : Nat) : Int)) (b := ((a.length : Nat) : Int)) rfl rfl (zb ?_))))))))))
 cases ae : decide (((k : Nat) : Int) < ((a.length : Nat) : Int))
 have ae := fD ae
 refine zf rfl (ya (zS (za (R0 fun _ => st (aS (.bool true) (zb (zo (zR uR (show _ = (.bool true : Value) from rfl) ?_))))))))
 refine ⟨?_, bX⟩
 rw [decide_eq_true (Ye (by omega) (fun i hi => hm i (by omega)))]
 have ae := tD ae
 refine zh rfl (zp (za (zr (za ?_))))
 refine WD4 (WF [fun vals wq => Sep G W Rs wq, fun vals wq => (vals 10 = (.bool aC : Value)) ∧ Sep G W Rs wq]) (AF [Vl 0 (va), Vl 1 (Iw k), Vl 2 (Ix (sb va) (so va + k * 13)), Vl 3 (Ix (sb va) (so va + k * 13)), Vl 4 (.agg ((bZ.ev).cells cc).toArray), Vl 5 (vb), Vl 6 (Iw k), Vl 7 (Ix (sb vb) (so vb + k * 13)), Vl 8 (Ix (sb vb) (so vb + k * 13)), Vl 9 (.agg ((ca.ev).cells cd).toArray), fun _ => True, Vl 11 (.bool (!aC)), Vl 12 (.bool (!aC)), Vl 13 (if (!aC) = false then va else undef), Vl 14 (if (!aC) = false then Iw k else undef), Vl 15 (if (!aC) = false then Ix (sb va) (so va + k * 13) else undef), Vl 16 (if (!aC) = false then Ix (sb va) (so va + k * 13 + 10) else undef), Vl 17 (if (!aC) = false then .bool (bZ.void) else undef), Vl 18 (if (!aC) = false then vb else undef), Vl 19 (if (!aC) = false then Iw k else undef), Vl 20 (if (!aC) = false then Ix (sb vb) (so vb + k * 13) else undef), Vl 21 (if (!aC) = false then Ix (sb vb) (so vb + k * 13 + 10) else undef), Vl 22 (if (!aC) = false then .bool (ca.void) else undef), Vl 23 (if (!aC) = false then .bool (!cb) else undef), Vl 24 (.bool ((!aC) || (!cb))), Vl 25 (.bool ((!aC) || (!cb))), Vl 26 (if ((!aC) || (!cb)) = false then va else undef), Vl 27 (if ((!aC) || (!cb)) = false then Iw k else undef), Vl 28 (if ((!aC) || (!cb)) = false then Ix (sb va) (so va + k * 13) else undef), Vl 29 (if ((!aC) || (!cb)) = false then Ix (sb va) (so va + k * 13 + 11) else undef), Vl 30 (if ((!aC) || (!cb)) = false then .agg #[Iv (bZ.byO), Iv (bZ.byS)] else undef), Vl 31 (if ((!aC) || (!cb)) = false then vb else undef), Vl 32 (if ((!aC) || (!cb)) = false then Iw k else undef), Vl 33 (if ((!aC) || (!cb)) = false then Ix (sb vb) (so vb + k * 13) else undef), Vl 34 (if ((!aC) || (!cb)) = false then Ix (sb vb) (so vb + k * 13 + 11) else undef), Vl 35 (if ((!aC) || (!cb)) = false then .agg #[Iv (ca.byO), Iv (ca.byS)] else undef), Vl 36 (if ((!aC) || (!cb)) = false then .bool (!decide (bZ.byO = ca.byO ∧ bZ.byS = ca.byS)) else undef), Vl 37 (.bool (((!aC) || (!cb)) || (!decide (bZ.byO = ca.byO ∧ bZ.byS = ca.byS))))]) [[], [], [0, 1], [0, 1, 2], (rg 4), [], [], [5, 6], [5, 6, 7], [5, 6, 7, 8], (rg 10), (rg 11), (rg 12), (rg 13), (rg 13), (rg 15), (rg 16), (rg 17), (rg 13), (rg 13), [0, 1, 2, 3, 4, 5, 6, 7, 8, 9, 10, 11, 12, 18, 19], [0, 1, 2, 3, 4, 5, 6, 7, 8, 9, 10, 11, 12, 18, 19, 20], [0, 1, 2, 3, 4, 5, 6, 7, 8, 9, 10, 11, 12, 18, 19, 20, 21], (rg 23), (rg 24), (rg 25), (rg 26), (rg 26), (rg 28), (rg 29), (rg 30), (rg 26), (rg 26), [0, 1, 2, 3, 4, 5, 6, 7, 8, 9, 10, 11, 12, 13, 14, 15, 16, 17, 18, 19, 20, 21, 22, 23, 24, 25, 31, 32], [0, 1, 2, 3, 4, 5, 6, 7, 8, 9, 10, 11, 12, 13, 14, 15, 16, 17, 18, 19, 20, 21, 22, 23, 24, 25, 31, 32, 33], [0, 1, 2, 3, 4, 5, 6, 7, 8, 9, 10, 11, 12, 13, 14, 15, 16, 17, 18, 19, 20, 21, 22, 23, 24, 25, 31, 32, 33, 34], (rg 36), (rg 37)] [10] [(0, 0), (0, 0), (0, 0), (0, 0), (0, 0), (0, 0), (0, 0), (0, 0), (0, 0), (0, 0), (0, 0), (1, 1), (1, 1), (1, 1), (1, 1), (1, 1), (1, 1), (1, 1), (1, 1), (1, 1), (1, 1), (1, 1), (1, 1), (1, 1), (1, 1), (1, 1), (1, 1), (1, 1), (1, 1), (1, 1), (1, 1), (1, 1), (1, 1), (1, 1), (1, 1), (1, 1), (1, 1), (1, 1)] bX ⟨fun _ _ _ _ _ _ _ => obl rfl (mV va dR), fun _ _ _ _ _ _ _ => obl rfl (mV (Iw k) dR), ?_, fun _ _ _ _ _ _ aU => obl rfl (Wq (aU 2 dc) dR), ?_, fun _ _ _ _ _ _ _ => obl rfl (mV vb dR), fun _ _ _ _ _ _ _ => obl rfl (mV (Iw k) dR), ?_, fun _ _ _ _ _ _ aV => obl rfl (Wq (aV 7 dc) dR), ?_, ?_, ?_, fun _ _ _ _ _ _ aW => obl rfl (zt (v := .bool (!aC)) (aW 11 dc) dR), ?_, ?_, ?_, ?_, ?_, ?_, ?_, ?_, ?_, ?_, ?_, fun _ _ _ _ _ _ af => obl rfl (zy (b := !aC) (b' := !cb) (af 12 dc) (fun hbp => (Eq.trans (af 23 dc) (if_pos hbp))) dR), fun _ _ _ _ _ _ aX => obl rfl (zt (v := .bool ((!aC) || (!cb))) (aX 24 dc) dR), ?_, ?_, ?_, ?_, ?_, ?_, ?_, ?_, ?_, ?_, ?_, fun _ _ _ _ _ _ ag => obl rfl (zy (b := (!aC) || (!cb)) (b' := !decide (bZ.byO = ca.byO ∧ bZ.byS = ca.byS)) (ag 25 dc) (fun hbp => (Eq.trans (ag 36 dc) (if_pos hbp))) dR), trivial⟩ ?_
 refine ob1 0 fun _ _ _ ah => (obl rfl ?_)
 have aY : k < a.length := bo
 exact ze (k := 13) (i := k) mT nT (ah 0 dc) ha.sl (ah 1 dc) aY dR
 refine ob1 0 fun _ _ (aZ : Sep _ _ _ _) ba => (obl rfl ?_)
 have ai : k < a.length := bo
 obtain ⟨aD, X, hoke431⟩ := ha.entD ai
 have hsm433 : ((a.getD k default).ev.deps).length * 8 ≤ 140737488355328 := X.small
 have aE := aZ.cells aD (ha.foot (ne_of_lt ai))
 exact zg (k := 10) (cs := [Iv (bZ.ev.origin), Iv (bZ.ev.seq), Iv (bZ.ev.lam), cc, Iv (bZ.ev.typ), Iv (bZ.ev.agg), Iv (bZ.ev.field), Iv (bZ.ev.op), Iv (bZ.ev.arg), Iv (bZ.ev.key)]) oT lT rfl (ba 3 dc) (CellsAt.sub aE 0 (cs2 := [Iv (bZ.ev.origin), Iv (bZ.ev.seq), Iv (bZ.ev.lam), cc, Iv (bZ.ev.typ), Iv (bZ.ev.agg), Iv (bZ.ev.field), Iv (bZ.ev.op), Iv (bZ.ev.arg), Iv (bZ.ev.key)]) rfl) dR
 refine ob1 0 fun _ _ _ aj => (obl rfl ?_)
 have bb : k < b.length := bo
 exact ze (k := 13) (i := k) mT nT (aj 5 dc) hb.sl (aj 6 dc) bb dR
 refine ob1 0 fun _ _ (bc : Sep _ _ _ _) bd => (obl rfl ?_)
 have ak : k < b.length := bo
 obtain ⟨aF, Y, hoke472⟩ := hb.entD ak
 have hsm474 : ((b.getD k default).ev.deps).length * 8 ≤ 140737488355328 := Y.small
 have aG := bc.cells aF (hb.foot (ne_of_lt ak))
 exact zg (k := 10) (cs := [Iv (ca.ev.origin), Iv (ca.ev.seq), Iv (ca.ev.lam), cd, Iv (ca.ev.typ), Iv (ca.ev.agg), Iv (ca.ev.field), Iv (ca.ev.op), Iv (ca.ev.arg), Iv (ca.ev.key)]) oT lT rfl (bd 8 dc) (CellsAt.sub aG 0 (cs2 := [Iv (ca.ev.origin), Iv (ca.ev.seq), Iv (ca.ev.lam), cd, Iv (ca.ev.typ), Iv (ca.ev.agg), Iv (ca.ev.field), Iv (ca.ev.op), Iv (ca.ev.arg), Iv (ca.ev.key)]) rfl) dR
 refine ob1 0 fun vals _ (Z : Sep _ _ _ _) aH => (obl rfl ?_)
 have aI : k < a.length := bo
 obtain ⟨be, O, aJ⟩ := ha.entD aI
 have hsm100 : ((a.getD k default).ev.deps).length * 8 ≤ 140737488355328 := O.small
 have hcw101 := Z.cells be (ha.foot (ne_of_lt aI))
 have al : k < b.length := bo
 obtain ⟨aK, N, aB⟩ := hb.entD al
 have hsm104 : ((b.getD k default).ev.deps).length * 8 ≤ 140737488355328 := N.small
 have hcw105 := Z.cells aK (hb.foot (ne_of_lt al))
 refine (zK (f := 47) (vals := [.agg ((bZ.ev).cells cc).toArray, .agg ((ca.ev).cells cd).toArray]) (cap := []) rfl (yI ⟨(aH 4 dc), (aH 9 dc), trivial⟩) Tryz.call47 (VD (a := (bZ.ev)) (b := (ca.ev)) O aJ.ev N aB.ev Z) ?_)
 rintro _ w106 ⟨rfl, bf⟩
 exact fun c d hv' => ⟨(And.intro d bf), trivial⟩
 refine ob1 1 fun _ _ bg _ => ?_
 obtain ⟨g, hS482⟩ := bg
 exact obl rfl (yF (a := decide ((bZ.ev) = (ca.ev))) g dR)
 refine fun _ _ _ _ _ _ bh => (zz rfl rfl (bh 12 dc) (fun D => ?_) (fun D => fun c d _ => ⟨trivial, d.trans (if_neg D).symm⟩))
 have hl498 := zA D
 exact mV va (fun c d _ => ⟨rfl, d.trans (if_pos D).symm⟩)
 refine fun _ _ _ _ _ _ bi => (zz rfl rfl (bi 12 dc) (fun E => ?_) (fun E => fun c d _ => ⟨trivial, d.trans (if_neg E).symm⟩))
 have hl507 := zA E
 exact mV (Iw k) (fun c d _ => ⟨rfl, d.trans (if_pos E).symm⟩)
 refine ob1 1 fun _ _ bj P => ?_
 obtain ⟨g, hS514⟩ := bj
 refine zz rfl rfl (P 12 dc) (fun l => ?_) (fun l => fun c d _ => ⟨trivial, d.trans (if_neg l).symm⟩)
 have hl519 := zA l
 have bk : k < a.length := bo
 exact ze (k := 13) (i := k) mT nT (Eq.trans (P 13 dc) (if_pos l)) ha.sl (Eq.trans (P 14 dc) (if_pos l)) bk (fun c d _ => ⟨rfl, d.trans (if_pos l).symm⟩)
 refine fun _ _ _ _ _ _ am => (zz rfl rfl (am 12 dc) (fun t => ?_) (fun t => fun c d _ => ⟨trivial, d.trans (if_neg t).symm⟩))
 have hl530 := zA t
 exact Kq (Eq.trans (am 15 dc) (if_pos t)) (fun c d _ => ⟨rfl, d.trans (if_pos t).symm⟩)
 refine ob1 1 fun _ _ bl an => ?_
 obtain ⟨g, bm⟩ := bl
 refine zz rfl rfl (an 12 dc) (fun u => ?_) (fun u => fun c d _ => ⟨trivial, d.trans (if_neg u).symm⟩)
 have hl541 := zA u
 have ao : k < a.length := bo
 obtain ⟨aL, aa, hoke542⟩ := ha.entD ao
 have hsm544 : ((a.getD k default).ev.deps).length * 8 ≤ 140737488355328 := aa.small
 have aM := bm.cells aL (ha.foot (ne_of_lt ao))
 exact lD (.bool (bZ.void)) oY (Eq.trans (an 16 dc) (if_pos u)) (aM.get (j := 10) rfl) (fun c d _ => ⟨rfl, d.trans (if_pos u).symm⟩)
 refine fun _ _ _ _ _ _ bn => (zz rfl rfl (bn 12 dc) (fun F => ?_) (fun F => fun c d _ => ⟨trivial, d.trans (if_neg F).symm⟩))
 have hl554 := zA F
 exact mV vb (fun c d _ => ⟨rfl, d.trans (if_pos F).symm⟩)
 refine fun _ _ _ _ _ _ bp => (zz rfl rfl (bp 12 dc) (fun H => ?_) (fun H => fun c d _ => ⟨trivial, d.trans (if_neg H).symm⟩))
 have hl563 := zA H
 exact mV (Iw k) (fun c d _ => ⟨rfl, d.trans (if_pos H).symm⟩)
 refine ob1 1 fun _ _ bq Q => ?_
 obtain ⟨g, hS570⟩ := bq
 refine zz rfl rfl (Q 12 dc) (fun m => ?_) (fun m => fun c d _ => ⟨trivial, d.trans (if_neg m).symm⟩)
 have hl575 := zA m
 have br : k < b.length := bo
 exact ze (k := 13) (i := k) mT nT (Eq.trans (Q 18 dc) (if_pos m)) hb.sl (Eq.trans (Q 19 dc) (if_pos m)) br (fun c d _ => ⟨rfl, d.trans (if_pos m).symm⟩)
 refine fun _ _ _ _ _ _ ap => (zz rfl rfl (ap 12 dc) (fun x => ?_) (fun x => fun c d _ => ⟨trivial, d.trans (if_neg x).symm⟩))
 have hl586 := zA x
 exact Kq (Eq.trans (ap 20 dc) (if_pos x)) (fun c d _ => ⟨rfl, d.trans (if_pos x).symm⟩)
 refine ob1 1 fun _ _ bs aq => ?_
 obtain ⟨g, bt⟩ := bs
 refine zz rfl rfl (aq 12 dc) (fun y => ?_) (fun y => fun c d _ => ⟨trivial, d.trans (if_neg y).symm⟩)
 have hl597 := zA y
 have ar : k < b.length := bo
 obtain ⟨aN, ab, hoke598⟩ := hb.entD ar
 have hsm600 : ((b.getD k default).ev.deps).length * 8 ≤ 140737488355328 := ab.small
 have aO := bt.cells aN (hb.foot (ne_of_lt ar))
 exact lD (.bool (ca.void)) oY (Eq.trans (aq 21 dc) (if_pos y)) (aO.get (j := 10) rfl) (fun c d _ => ⟨rfl, d.trans (if_pos y).symm⟩)
 refine ob1 1 fun _ _ bu R => ?_
 obtain ⟨g, hS608⟩ := bu
 refine zz rfl rfl (R 12 dc) (fun o => ?_) (fun o => fun c d _ => ⟨trivial, d.trans (if_neg o).symm⟩)
 have hl613 := zA o
 exact UP (a := bZ.void) (b := ca.void) Tryz.underlying4 (Eq.trans (R 17 dc) (if_pos o)) (Eq.trans (R 22 dc) (if_pos o)) (fun c d _ => ⟨rfl, d.trans (if_pos o).symm⟩)
 refine fun _ _ _ _ _ _ bv => (zz rfl rfl (bv 25 dc) (fun I => ?_) (fun I => fun c d _ => ⟨trivial, d.trans (if_neg I).symm⟩))
 have bw := I
 try simp only [zi] at bw
 exact mV va (fun c d _ => ⟨rfl, d.trans (if_pos I).symm⟩)
 refine fun _ _ _ _ _ _ bx => (zz rfl rfl (bx 25 dc) (fun J => ?_) (fun J => fun c d _ => ⟨trivial, d.trans (if_neg J).symm⟩))
 have bz := J
 try simp only [zi] at bz
 exact mV (Iw k) (fun c d _ => ⟨rfl, d.trans (if_pos J).symm⟩)
 refine ob1 1 fun _ _ bA S => ?_
 obtain ⟨g, hS653⟩ := bA
 refine zz rfl rfl (S 25 dc) (fun p => ?_) (fun p => fun c d _ => ⟨trivial, d.trans (if_neg p).symm⟩)
 have bB := p
 try simp only [zi] at bB
 have bC : k < a.length := bo
 exact ze (k := 13) (i := k) mT nT (Eq.trans (S 26 dc) (if_pos p)) ha.sl (Eq.trans (S 27 dc) (if_pos p)) bC (fun c d _ => ⟨rfl, d.trans (if_pos p).symm⟩)
 refine fun _ _ _ _ _ _ au => (zz rfl rfl (au 25 dc) (fun z => ?_) (fun z => fun c d _ => ⟨trivial, d.trans (if_neg z).symm⟩))
 have bD := z
 try simp only [zi] at bD
 exact KE (Eq.trans (au 28 dc) (if_pos z)) (fun c d _ => ⟨rfl, d.trans (if_pos z).symm⟩)
 refine ob1 1 fun _ _ bE av => ?_
 obtain ⟨g, bF⟩ := bE
 refine zz rfl rfl (av 25 dc) (fun A => ?_) (fun A => fun c d _ => ⟨trivial, d.trans (if_neg A).symm⟩)
 have bG := A
 try simp only [zi] at bG
 have aw : k < a.length := bo
 obtain ⟨aP, ac, hoke681⟩ := ha.entD aw
 have hsm683 : ((a.getD k default).ev.deps).length * 8 ≤ 140737488355328 := ac.small
 have aQ := bF.cells aP (ha.foot (ne_of_lt aw))
 exact zg (k := 2) (cs := [Iv (bZ.byO), Iv (bZ.byS)]) qT pT rfl (Eq.trans (av 29 dc) (if_pos A)) (CellsAt.sub aQ 11 (cs2 := [Iv (bZ.byO), Iv (bZ.byS)]) rfl) (fun c d _ => ⟨rfl, d.trans (if_pos A).symm⟩)
 refine fun _ _ _ _ _ _ bH => (zz rfl rfl (bH 25 dc) (fun K => ?_) (fun K => fun c d _ => ⟨trivial, d.trans (if_neg K).symm⟩))
 have bI := K
 try simp only [zi] at bI
 exact mV vb (fun c d _ => ⟨rfl, d.trans (if_pos K).symm⟩)
 refine fun _ _ _ _ _ _ bJ => (zz rfl rfl (bJ 25 dc) (fun L => ?_) (fun L => fun c d _ => ⟨trivial, d.trans (if_neg L).symm⟩))
 have bK := L
 try simp only [zi] at bK
 exact mV (Iw k) (fun c d _ => ⟨rfl, d.trans (if_pos L).symm⟩)
 refine ob1 1 fun _ _ bL T => ?_
 obtain ⟨g, hS709⟩ := bL
 refine zz rfl rfl (T 25 dc) (fun q => ?_) (fun q => fun c d _ => ⟨trivial, d.trans (if_neg q).symm⟩)
 have bM := q
 try simp only [zi] at bM
 have bN : k < b.length := bo
 exact ze (k := 13) (i := k) mT nT (Eq.trans (T 31 dc) (if_pos q)) hb.sl (Eq.trans (T 32 dc) (if_pos q)) bN (fun c d _ => ⟨rfl, d.trans (if_pos q).symm⟩)
 refine fun _ _ _ _ _ _ ax => (zz rfl rfl (ax 25 dc) (fun B => ?_) (fun B => fun c d _ => ⟨trivial, d.trans (if_neg B).symm⟩))
 have bO := B
 try simp only [zi] at bO
 exact KE (Eq.trans (ax 33 dc) (if_pos B)) (fun c d _ => ⟨rfl, d.trans (if_pos B).symm⟩)
 refine ob1 1 fun _ _ bP ay => ?_
 obtain ⟨g, bQ⟩ := bP
 refine zz rfl rfl (ay 25 dc) (fun C => ?_) (fun C => fun c d _ => ⟨trivial, d.trans (if_neg C).symm⟩)
 have bR := C
 try simp only [zi] at bR
 have az : k < b.length := bo
 obtain ⟨aR, ad, hoke737⟩ := hb.entD az
 have hsm739 : ((b.getD k default).ev.deps).length * 8 ≤ 140737488355328 := ad.small
 have aT := bQ.cells aR (hb.foot (ne_of_lt az))
 exact zg (k := 2) (cs := [Iv (ca.byO), Iv (ca.byS)]) qT pT rfl (Eq.trans (ay 34 dc) (if_pos C)) (CellsAt.sub aT 11 (cs2 := [Iv (ca.byO), Iv (ca.byS)]) rfl) (fun c d _ => ⟨rfl, d.trans (if_pos C).symm⟩)
 refine ob1 1 fun _ _ bS U => ?_
 obtain ⟨g, hS747⟩ := bS
 refine zz rfl rfl (U 25 dc) (fun s => ?_) (fun s => fun c d _ => ⟨trivial, d.trans (if_neg s).symm⟩)
 have bT := s
 try simp only [zi] at bT
 exact Yp (e := decide (bZ.byO = ca.byO ∧ bZ.byS = ca.byS)) (xs := #[Iv (bZ.byO), Iv (bZ.byS)]) (ys := #[Iv (ca.byO), Iv (ca.byS)]) Jc (Eq.trans (U 30 dc) (if_pos s)) (Eq.trans (U 35 dc) (if_pos s)) (fun c d _ => ⟨rfl, d.trans (if_pos s).symm⟩)
 intro vals w761 bU bV
 obtain ⟨g, aA⟩ := bU
 have bY := bV 37 dc
 refine zX (kv := [(0, va), (1, vb), (5, Iw k), (11, Iw k), (12, va), (13, Iw a.length), (14, .bool true), (54, .bool (((!aC) || (!cb)) || (!decide (bZ.byO = ca.byO ∧ bZ.byS = ca.byS))))]) ⟨rfl, rfl, rfl, rfl, rfl, rfl, rfl, (by exact bY), trivial⟩ (fun ρw761 => (zb ?_))
 cases M : ((!(decide (((a.getD k default).ev) = ((b.getD k default).ev)))) || (!(((a.getD k default).void) == ((b.getD k default).void)))) || (!decide ((a.getD k default).byO = (b.getD k default).byO ∧ (a.getD k default).byS = (b.getD k default).byS))
 try simp only [zi] at M
 refine zf rfl (zp (R0 fun _ => st (mV (Iw k) ?_)))
 have bW : InR ((k + 1 : Nat) : Int) := bo
 refine st (zQ (r := ((k + 1 : Nat) : Int)) (k := .i64) (a := ((k : Nat) : Int)) (b := 1) rfl rfl (by rw [show (((k : Nat) : Int) + 1 : Int) = ((k + 1 : Nat) : Int) from bo]; exact zC bW) (st (aS (Iw (k + 1)) (zb ?_))))
 exact ⟨_, by omega, k + 1, _, rfl, sSf, by omega, (yP hm (KV M)), aA⟩
 try simp only [zi] at M
 refine zh rfl (za (R0 fun _ => st (aS (.bool false) (zb (zo (zR uR (show _ = (.bool false : Value) from rfl) ?_))))))
 refine ⟨?_, aA⟩
 rw [decide_eq_false (fun e => by subst e; first | omega | (simp at M))]
 have V := zV V
 refine zh rfl (za (R0 fun _ => st (aS (.bool false) (zb (zo (zR uR (show _ = (.bool false : Value) from rfl) ?_))))))
 refine ⟨?_, hS0⟩
 rw [decide_eq_false (fun e => by subst e; first | omega | (simp at V))]

theorem QE {a b : Cel} (h1 : a.n = b.n) (h2 : a.set = b.set) : a = b := by cases a; cases b; simp_all
theorem JM {a b : Sta} (h1 : a.ver = b.ver) (h2 : a.cls = b.cls) : a = b := by cases a; cases b; simp_all
theorem Vx {G : Nat → Prop} {W w : World} {Rs : List HP} {x : Sta} {dx0 : Value} (hdx0 : RdS W G dx0 x.cls) (ox : x.Ok) {y : Sta} {dy0 : Value} (hdy0 : RdS W G dy0 y.cls) (oy : y.Ok) (hS0 : Sep G W Rs w) : Ret Tryz.prog 27 [.agg (x.cells dx0).toArray, .agg (y.cells dy0).toArray] w (fun r w' => r = (.bool (decide (x = y)) : Value) ∧ Sep G W Rs w') := by
 let bx := ((x.cls.length : Nat) : Int)
 have hdx0s : _ * 32 ≤ _ := hdx0.small
 have hdy0s : _ * 32 ≤ _ := hdy0.small
 refine zl (args := [.agg (x.cells dx0).toArray, .agg (y.cells dy0).toArray]) Tryz.func27 rfl rfl ?_
 refine za (R0 fun _ => st (zT (v := .agg (x.cells dx0).toArray) rfl ?_))
 intro w3 b2 bq
 refine st (zT (v := .agg (y.cells dy0).toArray) rfl ?_)
 intro w7 O br
 have J := (hS0.new bq).new br
 refine st (aS (.bool false) (zb (za (za (zI kr (st (VV rfl (st (lD (Iv (x.ver)) kT rfl (zd (J.b1) rfl) (st (VV rfl (st (lD (Iv (y.ver)) kT rfl (zd (J.b0) rfl) (st (yu (k := .i64) (a := x.ver) (b := y.ver) rfl rfl (st (mV (.bool (!decide (x.ver = y.ver))) (stc (V := Ix b2 1) rfl rfl (fun bs => ?_) ?_))))))))))))))))))
 have hl10 := zA bs
 exact yY rfl ⟨rfl, rfl⟩
 refine stc (V := dx0) rfl rfl (fun aq => ?_) ?_
 have hl12 := zA aq
 exact lD dx0 uT (if_pos aq) (zd (J.b1) rfl) ⟨rfl, rfl⟩
 refine stc (V := Iw x.cls.length) rfl rfl (fun ar => ?_) ?_
 have hl14 := zA ar
 exact zB (n := x.cls.length) vT (if_pos ar) hdx0.sl ⟨rfl, rfl⟩
 refine stc (V := Ix O 1) rfl rfl (fun bm => ?_) ?_
 have hl16 := zA bm
 exact yY rfl ⟨rfl, rfl⟩
 refine stc (V := dy0) rfl rfl (fun au => ?_) ?_
 have hl18 := zA au
 exact lD dy0 uT (if_pos au) (zd (J.b0) rfl) ⟨rfl, rfl⟩
 refine stc (V := Iw y.cls.length) rfl rfl (fun av => ?_) ?_
 have hl20 := zA av
 exact zB (n := y.cls.length) vT (if_pos av) hdy0.sl ⟨rfl, rfl⟩
 refine stc (V := .bool (!decide (bx = ((y.cls.length : Nat) : Int)))) rfl rfl (fun P => ?_) ?_
 have hl22 := zA P
 exact yu (k := .i64) (a := bx) (b := ((y.cls.length : Nat) : Int)) (if_pos P) (if_pos P) ⟨rfl, rfl⟩
 refine st (zy (b := !decide (x.ver = y.ver)) (b' := !decide (bx = ((y.cls.length : Nat) : Int))) rfl (fun hbp => (if_pos hbp)) (zb ?_))
 cases Q : (!decide (x.ver = y.ver)) || (!decide (((x.cls.length : Nat) : Int) = ((y.cls.length : Nat) : Int)))
 try simp only [zi] at Q
 refine zf rfl (zp (za (za (R0 fun _ => st (aS (Iv 0) (zb (zr (zZ (fun mq σ wq => ∃ (k : Nat) (ρ : Env), mq = x.cls.length - k ∧ σ = yc ρ [(2, Ix b2 0), (3, Ix O 0), (5, Iw k)] ∧ (k ≤ x.cls.length) ∧ (∀ i, i < k → x.cls.getD i default = y.cls.getD i default) ∧ Sep G W ((Blk O (y.cells dy0).toArray 57) :: (Blk b2 (x.cells dx0).toArray 57) :: Rs) wq) ⟨0, _, rfl, sSf, Nat.zero_le _, (fun i h => absurd h (Nat.not_lt_zero i)), J⟩ ?_))))))))
 rintro m25 σ26 w24 ⟨k, ρl1, rfl, rfl, hkk, hm, R⟩
 let bw := zG W (sb dy0) (so dy0 + k * 2 + 1)
 let bv := zG W (sb dx0) (so dx0 + k * 2 + 1)
 let bu := ((x.cls.getD k default).set) = ((y.cls.getD k default).set)
 let aw := ((x.cls.getD k default).n) = ((y.cls.getD k default).n)
 refine za (za (R0 fun _ => st (mV (Iw k) (st (yY rfl (st (lD dx0 uT rfl (zd (R.b1) rfl) (st (zB (n := x.cls.length) vT rfl hdx0.sl (st (zL (k := .i64) (a := ((k : Nat) : Int)) (b := bx) rfl rfl (zb ?_))))))))))))
 cases K : decide (((k : Nat) : Int) < ((x.cls.length : Nat) : Int))
 have K := fD K
 refine zf rfl (ya (zS (za (R0 fun _ => st (aS (.bool true) (zb (zo (zR vR (show _ = (.bool true : Value) from rfl) ?_))))))))
 refine ⟨?_, (R.s2_)⟩
 rw [decide_eq_true (JM (by omega) (Ye (by omega) (fun i hi => hm i (by omega))))]
 have K := tD K
 refine zh rfl (zp (za (zr (za ?_))))
 refine WD4 ((fun TT bl => WF [fun vals wq => Sep G W (bl :: TT) wq, fun vals wq => (vals 26 = (if (!decide aw) = false then (.bool (decide bu) : Value) else undef)) ∧ Sep G W (bl :: TT) wq]) ((Blk b2 (x.cells dx0).toArray 57) :: Rs) (Blk O (y.cells dy0).toArray 57)) (AF [Vl 0 (Ix b2 1), Vl 1 (dx0), Vl 2 (Iw k), Vl 3 (Ix (sb dx0) (so dx0 + k * 2)), Vl 4 (Ix (sb dx0) (so dx0 + k * 2)), Vl 5 (Iv ((x.cls.getD k default).n)), Vl 6 (Ix O 1), Vl 7 (dy0), Vl 8 (Iw k), Vl 9 (Ix (sb dy0) (so dy0 + k * 2)), Vl 10 (Ix (sb dy0) (so dy0 + k * 2)), Vl 11 (Iv ((y.cls.getD k default).n)), Vl 12 (.bool (!decide aw)), Vl 13 (.bool (!decide aw)), Vl 14 (if (!decide aw) = false then Ix b2 1 else undef), Vl 15 (if (!decide aw) = false then dx0 else undef), Vl 16 (if (!decide aw) = false then Iw k else undef), Vl 17 (if (!decide aw) = false then Ix (sb dx0) (so dx0 + k * 2) else undef), Vl 18 (if (!decide aw) = false then Ix (sb dx0) (so dx0 + k * 2 + 1) else undef), Vl 19 (if (!decide aw) = false then bv else undef), Vl 20 (if (!decide aw) = false then Ix O 1 else undef), Vl 21 (if (!decide aw) = false then dy0 else undef), Vl 22 (if (!decide aw) = false then Iw k else undef), Vl 23 (if (!decide aw) = false then Ix (sb dy0) (so dy0 + k * 2) else undef), Vl 24 (if (!decide aw) = false then Ix (sb dy0) (so dy0 + k * 2 + 1) else undef), Vl 25 (if (!decide aw) = false then bw else undef), fun _ => True, Vl 27 (if (!decide aw) = false then .bool (!(decide bu)) else undef), Vl 28 (.bool ((!decide aw) || (!(decide bu))))]) [[], [0], [], [0, 1, 2], (rg 4), (rg 5), [], [6], [], [6, 7, 8], [6, 7, 8, 9], [6, 7, 8, 9, 10], (rg 12), (rg 13), (rg 14), (rg 15), (rg 14), (rg 17), (rg 18), (rg 19), (rg 14), [0, 1, 2, 3, 4, 5, 6, 7, 8, 9, 10, 11, 12, 13, 20], (rg 14), [0, 1, 2, 3, 4, 5, 6, 7, 8, 9, 10, 11, 12, 13, 20, 21, 22], [0, 1, 2, 3, 4, 5, 6, 7, 8, 9, 10, 11, 12, 13, 20, 21, 22, 23], [0, 1, 2, 3, 4, 5, 6, 7, 8, 9, 10, 11, 12, 13, 20, 21, 22, 23, 24], (rg 26), (rg 27), (rg 28)] [26] [(0, 0), (0, 0), (0, 0), (0, 0), (0, 0), (0, 0), (0, 0), (0, 0), (0, 0), (0, 0), (0, 0), (0, 0), (0, 0), (0, 0), (0, 0), (0, 0), (0, 0), (0, 0), (0, 0), (0, 0), (0, 0), (0, 0), (0, 0), (0, 0), (0, 0), (0, 0), (0, 0), (1, 1), (1, 1)] R ⟨fun _ _ _ _ _ _ _ => obl rfl (yY rfl dR), ob1 0 fun _ _ (aH : Sep _ _ _ _) aI => obl rfl (lD dx0 uT (aI 0 dc) (zd (aH.b1) rfl) dR), fun _ _ _ _ _ _ _ => obl rfl (mV (Iw k) dR), ?_, fun _ _ _ _ _ _ aJ => obl rfl (xx (aJ 3 dc) dR), ?_, fun _ _ _ _ _ _ _ => obl rfl (yY rfl dR), ob1 0 fun _ _ (aK : Sep _ _ _ _) aL => obl rfl (lD dy0 uT (aL 6 dc) (zd (aK.b0) rfl) dR), fun _ _ _ _ _ _ _ => obl rfl (mV (Iw k) dR), ?_, fun _ _ _ _ _ _ aM => obl rfl (xx (aM 9 dc) dR), ?_, ob1 0 fun _ _ _ Y => obl rfl (yu (k := .i64) (a := (x.cls.getD k default).n) (b := (y.cls.getD k default).n) (Y 5 dc) (Y 11 dc) dR), fun _ _ _ _ _ _ aN => obl rfl (zt (v := .bool (!decide aw)) (aN 12 dc) dR), ?_, ?_, ?_, ?_, ?_, ?_, ?_, ?_, ?_, ?_, ?_, ?_, ?_, ?_, fun _ _ _ _ _ _ Z => obl rfl (zy (b := !decide aw) (b' := !(decide bu)) (Z 13 dc) (fun hbp => (Eq.trans (Z 27 dc) (if_pos hbp))) dR), trivial⟩ ?_
 refine ob1 0 fun _ _ _ aa => (obl rfl ?_)
 have aO : k < x.cls.length := bo
 exact ze (k := 2) (i := k) vT pR (aa 1 dc) hdx0.sl (aa 2 dc) aO dR
 refine ob1 0 fun _ _ (aP : Sep _ _ _ _) aQ => (obl rfl ?_)
 have ab : k < x.cls.length := bo
 obtain ⟨ax, S, hoke364⟩ := hdx0.celD ab
 have hsm366 : ((x.cls.getD k default).set).length * 8 ≤ 140737488355328 := S.small
 have ay := aP.cells ax (hdx0.foot (ne_of_lt ab))
 exact lD (Iv ((x.cls.getD k default).n)) kT (aQ 4 dc) (ay.get (j := 0) rfl) dR
 refine ob1 0 fun _ _ _ ac => (obl rfl ?_)
 have aR : k < y.cls.length := bo
 exact ze (k := 2) (i := k) vT pR (ac 7 dc) hdy0.sl (ac 8 dc) aR dR
 refine ob1 0 fun _ _ (aT : Sep _ _ _ _) aU => (obl rfl ?_)
 have ad : k < y.cls.length := bo
 obtain ⟨az, T, hoke413⟩ := hdy0.celD ad
 have hsm415 : ((y.cls.getD k default).set).length * 8 ≤ 140737488355328 := T.small
 have aA := aT.cells az (hdy0.foot (ne_of_lt ad))
 exact lD (Iv ((y.cls.getD k default).n)) kT (aU 10 dc) (aA.get (j := 0) rfl) dR
 refine fun _ _ _ _ _ _ aV => (zz rfl rfl (aV 13 dc) (fun B => ?_) (fun B => fun c d _ => ⟨trivial, d.trans (if_neg B).symm⟩))
 have hl441 := zA B
 exact yY rfl (fun c d _ => ⟨rfl, d.trans (if_pos B).symm⟩)
 refine ob1 0 fun _ _ (aW : Sep _ _ _ _) ae => (zz rfl rfl (ae 13 dc) (fun o => ?_) (fun o => fun c d _ => ⟨trivial, d.trans (if_neg o).symm⟩))
 have hl452 := zA o
 exact lD dx0 uT (Eq.trans (ae 14 dc) (if_pos o)) (zd (aW.b1) rfl) (fun c d _ => ⟨rfl, d.trans (if_pos o).symm⟩)
 refine fun _ _ _ _ _ _ aX => (zz rfl rfl (aX 13 dc) (fun C => ?_) (fun C => fun c d _ => ⟨trivial, d.trans (if_neg C).symm⟩))
 have hl461 := zA C
 exact mV (Iw k) (fun c d _ => ⟨rfl, d.trans (if_pos C).symm⟩)
 refine ob1 0 fun _ _ _ L => (zz rfl rfl (L 13 dc) (fun g => ?_) (fun g => fun c d _ => ⟨trivial, d.trans (if_neg g).symm⟩))
 have hl473 := zA g
 have aY : k < x.cls.length := bo
 exact ze (k := 2) (i := k) vT pR (Eq.trans (L 15 dc) (if_pos g)) hdx0.sl (Eq.trans (L 16 dc) (if_pos g)) aY (fun c d _ => ⟨rfl, d.trans (if_pos g).symm⟩)
 refine fun _ _ _ _ _ _ af => (zz rfl rfl (af 13 dc) (fun p => ?_) (fun p => fun c d _ => ⟨trivial, d.trans (if_neg p).symm⟩))
 have hl484 := zA p
 exact yU (Eq.trans (af 17 dc) (if_pos p)) (fun c d _ => ⟨rfl, d.trans (if_pos p).symm⟩)
 refine ob1 0 fun _ _ (aZ : Sep _ _ _ _) ag => (zz rfl rfl (ag 13 dc) (fun q => ?_) (fun q => fun c d _ => ⟨trivial, d.trans (if_neg q).symm⟩))
 have hl495 := zA q
 have ah : k < x.cls.length := bo
 obtain ⟨aB, U, hoke496⟩ := hdx0.celD ah
 have hsm498 : ((x.cls.getD k default).set).length * 8 ≤ 140737488355328 := U.small
 have aC := aZ.cells aB (hdx0.foot (ne_of_lt ah))
 exact lD bv sT (Eq.trans (ag 18 dc) (if_pos q)) (aC.get (j := 1) rfl) (fun c d _ => ⟨rfl, d.trans (if_pos q).symm⟩)
 refine fun _ _ _ _ _ _ ba => (zz rfl rfl (ba 13 dc) (fun D => ?_) (fun D => fun c d _ => ⟨trivial, d.trans (if_neg D).symm⟩))
 have hl508 := zA D
 exact yY rfl (fun c d _ => ⟨rfl, d.trans (if_pos D).symm⟩)
 refine ob1 0 fun _ _ (bb : Sep _ _ _ _) ai => (zz rfl rfl (ai 13 dc) (fun s => ?_) (fun s => fun c d _ => ⟨trivial, d.trans (if_neg s).symm⟩))
 have hl519 := zA s
 exact lD dy0 uT (Eq.trans (ai 20 dc) (if_pos s)) (zd (bb.b0) rfl) (fun c d _ => ⟨rfl, d.trans (if_pos s).symm⟩)
 refine fun _ _ _ _ _ _ bc => (zz rfl rfl (bc 13 dc) (fun E => ?_) (fun E => fun c d _ => ⟨trivial, d.trans (if_neg E).symm⟩))
 have hl528 := zA E
 exact mV (Iw k) (fun c d _ => ⟨rfl, d.trans (if_pos E).symm⟩)
 refine ob1 0 fun _ _ _ M => (zz rfl rfl (M 13 dc) (fun l => ?_) (fun l => fun c d _ => ⟨trivial, d.trans (if_neg l).symm⟩))
 have hl540 := zA l
 have bd : k < y.cls.length := bo
 exact ze (k := 2) (i := k) vT pR (Eq.trans (M 21 dc) (if_pos l)) hdy0.sl (Eq.trans (M 22 dc) (if_pos l)) bd (fun c d _ => ⟨rfl, d.trans (if_pos l).symm⟩)
 refine fun _ _ _ _ _ _ aj => (zz rfl rfl (aj 13 dc) (fun t => ?_) (fun t => fun c d _ => ⟨trivial, d.trans (if_neg t).symm⟩))
 have hl551 := zA t
 exact yU (Eq.trans (aj 23 dc) (if_pos t)) (fun c d _ => ⟨rfl, d.trans (if_pos t).symm⟩)
 refine ob1 0 fun _ _ (be : Sep _ _ _ _) ak => (zz rfl rfl (ak 13 dc) (fun u => ?_) (fun u => fun c d _ => ⟨trivial, d.trans (if_neg u).symm⟩))
 have hl562 := zA u
 have al : k < y.cls.length := bo
 obtain ⟨aD, X, hoke563⟩ := hdy0.celD al
 have hsm565 : ((y.cls.getD k default).set).length * 8 ≤ 140737488355328 := X.small
 have aE := be.cells aD (hdy0.foot (ne_of_lt al))
 exact lD bw sT (Eq.trans (ak 24 dc) (if_pos u)) (aE.get (j := 1) rfl) (fun c d _ => ⟨rfl, d.trans (if_pos u).symm⟩)
 refine ob1 0 fun vals bn (F : Sep _ _ _ _) N => (zz rfl rfl (N 13 dc) (fun m => ?_) (fun m c d bt => ?_))
 have hl289 := zA m
 have am : k < x.cls.length := bo
 obtain ⟨aF, H, hoke290⟩ := hdx0.celD am
 have hsm292 : ((x.cls.getD k default).set).length * 8 ≤ 140737488355328 := H.small
 have hcw293 := F.cells aF (hdx0.foot (ne_of_lt am))
 have an : k < y.cls.length := bo
 obtain ⟨aG, I, hoke294⟩ := hdy0.celD an
 have hsm296 : ((y.cls.getD k default).set).length * 8 ≤ 140737488355328 := I.small
 have hcw297 := F.cells aG (hdy0.foot (ne_of_lt an))
 refine (zK (f := 54) (vals := [bv, bw]) (cap := []) rfl (yI ⟨(Eq.trans (N 19 dc) (if_pos m)), (Eq.trans (N 25 dc) (if_pos m)), trivial⟩) nY (Xc (a := (x.cls.getD k default).set) (va := bv) (b := (y.cls.getD k default).set) (vb := bw) H I F) ?_)
 rintro _ w298 ⟨rfl, bf⟩
 exact fun c d bt => ⟨(And.intro (d.trans (if_pos m).symm) bf), trivial⟩
 refine ⟨?_, trivial⟩
 show (c 26 = (if (!decide aw) = false then (.bool (decide bu) : Value) else undef)) ∧ Sep G W ((Blk O (y.cells dy0).toArray 57) :: (Blk b2 (x.cells dx0).toArray 57) :: Rs) bn
 exact ⟨(d.trans (if_neg m).symm), F⟩
 refine ob1 1 fun _ _ bg bh => ?_
 obtain ⟨ao, hS573⟩ := bg
 refine zz rfl rfl (bh 13 dc) (fun z => ?_) (fun z => fun c d _ => ⟨trivial, d.trans (if_neg z).symm⟩)
 have hl576 := zA z
 exact yF (a := decide bu) (Eq.trans ao (if_pos z)) (fun c d _ => ⟨rfl, d.trans (if_pos z).symm⟩)
 intro vals w585 bi bj
 obtain ⟨ao, ap⟩ := bi
 have bp := bj 28 dc
 refine zX (kv := [(2, Ix b2 0), (3, Ix O 0), (5, Iw k), (20, Iw k), (21, Ix b2 1), (22, dx0), (23, Iw x.cls.length), (24, .bool true), (55, .bool ((!decide aw) || (!(decide bu))))]) ⟨rfl, rfl, rfl, rfl, rfl, rfl, rfl, rfl, (by exact bp), trivial⟩ (fun ρw585 => (zb ?_))
 cases A : (!decide (((x.cls.getD k default).n) = ((y.cls.getD k default).n))) || (!(decide (((x.cls.getD k default).set) = ((y.cls.getD k default).set))))
 try simp only [zi] at A
 refine zf rfl (zp (R0 fun _ => st (mV (Iw k) ?_)))
 have bk : InR ((k + 1 : Nat) : Int) := bo
 refine st (zQ (r := ((k + 1 : Nat) : Int)) (k := .i64) (a := ((k : Nat) : Int)) (b := 1) rfl rfl (by rw [show (((k : Nat) : Int) + 1 : Int) = ((k + 1 : Nat) : Int) from bo]; exact zC bk) (st (aS (Iw (k + 1)) (zb ?_))))
 exact ⟨_, by omega, k + 1, _, rfl, sSf, by omega, (yP hm (QE A.1 A.2)), ap⟩
 try simp only [zi] at A
 refine zh rfl (za (R0 fun _ => st (aS (.bool false) (zb (zo (zR vR (show _ = (.bool false : Value) from rfl) ?_))))))
 refine ⟨?_, (ap.s2_)⟩
 rw [decide_eq_false (fun e => by subst e; first | omega | (simp at A))]
 try simp only [zi] at Q
 refine zh rfl (za (R0 fun _ => st (aS (.bool false) (zb (zo (zR vR (show _ = (.bool false : Value) from rfl) ?_))))))
 refine ⟨?_, (J.s2_)⟩
 rw [decide_eq_false (fun e => by subst e; first | omega | (simp at Q))]

theorem KM {d : Dcl} {k : Int × Int} {L : List Ent} (h : L.length ≤ 1000000) : Sta.Ok (yp d k L) := ⟨show InR ((yn k L : Nat) : Int) by have := Wz k L; omega⟩
theorem zau : Elem Tryz.prog 41 44 3 24 := ⟨Tryz.underlying41, _, _, rfl, rfl, rfl, rfl, rfl⟩
def zq (p : Prj) (e : Ev) (reg : Int) : Option Int := if p.pgroup = 1 then some e.agg else if p.pgroup = 2 then some e.arg else if p.pgroup = 3 then some reg else none
theorem YQ {p : Prj} {e : Ev} {reg : Int} (oe : e.Ok) (hr : InR reg) : InR ((zq p e reg).getD 0) := by
  unfold zq
  split
  · exact oe.agg
  · split
    · exact oe.arg
    · split
      · exact hr
      · decide
def xd (p : Prj) (r : Row) (arg : Int) : Int := if p.pmake = 1 then r.count else if p.pmake = 2 then IntKind.i64.wrap (r.value + arg) else if p.pmake = 5 ∨ (r.count = 1 ∧ (p.pmake = 3 ∨ p.pmake = 4)) then arg else if p.pmake = 3 then min r.value arg else if p.pmake = 4 then max r.value arg else 0
def Zu (p : Prj) (L : List (Int × Row)) (e : Ent) (reg : Int) : List (Int × Row) := match zq p e.ev reg with
  | none => L
  | some g => if e.void = true ∨ e.ev.typ ≠ p.ptyp ∨ e.ev.field ≠ p.pfield then L else
      xi L g ⟨g, xd p ⟨g, ((zO L g).getD ⟨0, 0, 0⟩).value, ((zO L g).getD ⟨0, 0, 0⟩).count + 1⟩ e.ev.arg, ((zO L g).getD ⟨0, 0, 0⟩).count + 1⟩

theorem xy {d : Option Tmp} {ty : TypeId} {pos : String} {af : Array Edge} {g : Option (Nat × Bool)} {σ : Env} {w : World} {K : Value → World → Prop} {x : Operand} {b o : Nat} (hx : ev σ x = .pointer (some ⟨b, o, none⟩)) (h : K (.pointer (some ⟨b, o + 0, none⟩)) w) : opV Tryz.prog ⟨d, .fieldAddr 122 x 0, ty, pos, af, g⟩ σ w K := zk Tryz.underlying122 rfl rfl (fun w => ⟨4, Tryz.sizeOf46 w⟩) hx h
theorem zaz {d : Option Tmp} {ty : TypeId} {pos : String} {af : Array Edge} {g : Option (Nat × Bool)} {σ : Env} {w : World} {K : Value → World → Prop} {x : Operand} {b o : Nat} (hx : ev σ x = .pointer (some ⟨b, o, none⟩)) (h : K (.pointer (some ⟨b, o + 2, none⟩)) w) : opV Tryz.prog ⟨d, .fieldAddr 46 x 2, ty, pos, af, g⟩ σ w K := zk pY rfl rfl (fun w => ⟨0, tT w⟩) hx h
theorem QH {d : Option Tmp} {ty : TypeId} {pos : String} {af : Array Edge} {g : Option (Nat × Bool)} {σ : Env} {w : World} {K : Value → World → Prop} {x : Operand} {b o : Nat} (hx : ev σ x = .pointer (some ⟨b, o, none⟩)) (h : K (.pointer (some ⟨b, o + 8, none⟩)) w) : opV Tryz.prog ⟨d, .fieldAddr 64 x 7, ty, pos, af, g⟩ σ w K := zk qY rfl rfl (fun w => ⟨0, tT w⟩) hx h
theorem zat {d : Option Tmp} {ty : TypeId} {pos : String} {af : Array Edge} {g : Option (Nat × Bool)} {σ : Env} {w : World} {K : Value → World → Prop} {x : Operand} {b o : Nat} (hx : ev σ x = .pointer (some ⟨b, o, none⟩)) (h : K (.pointer (some ⟨b, o + 5, none⟩)) w) : opV Tryz.prog ⟨d, .fieldAddr 64 x 4, ty, pos, af, g⟩ σ w K := zk qY rfl rfl (fun w => ⟨0, tT w⟩) hx h
theorem JU {w : World} {a m : Nat} {p : Prj} (ha : w.heap[a]? = some (.cells #[.int .i64 (p.ptyp), .int .i64 (p.pfield), .int .i64 (p.pgroup), .int .i64 (p.pby), .int .i64 (p.pmake), .map (some m)] 122)) (op : p.Ok) {Fe : Nat → Prop} {e : Ev} {de0 : Value} (he0 : RdS w Fe de0 e.deps) (oe : e.Ok) {reg : Int} (hreg : InR reg) : Ret Tryz.prog 85 [.pointer (some ⟨a, 0, none⟩), .agg (e.cells de0).toArray, .int .i64 (reg)] w (fun r w' => r = .tuple #[.int .i64 ((zq p e reg).getD 0), .bool (zq p e reg).isSome] ∧ Ext w w') := by
  have he0s : _ * 8 ≤ _ := he0.small
  refine zl (args := [.pointer (some ⟨a, 0, none⟩), .agg (e.cells de0).toArray, .int .i64 (reg)]) Tryz.func85 rfl rfl ?_
  refine za ?_
  refine zu (by kernel_rfl) (fun _ => ?_)
  refine st (zT (v := .agg (e.cells de0).toArray) rfl (fun w1 b2 hn1 => ?_))
  have hb3 : w1.heap[b2]? = some (.cells (e.cells de0).toArray 64) := hn1.at_
  have hs4 := hn1.size; have hs4e := hn1.eq
  refine st (zv (v := .int .i64 (0)) rfl ?_)
  refine st (zv (v := .bool false) rfl ?_)
  refine zb ?_
  refine za ?_
  refine za ?_
  refine zu (by kernel_rfl) (fun _ => ?_)
  refine st (zt (v := .pointer (some ⟨a, 0, none⟩)) rfl ?_)
  refine st (zm (b := a) (o := 0) rfl ?_)
  refine st (xy rfl ?_)
  refine st (zaz rfl ?_)
  have h5 := hn1.ext.keep ha (fun h => h)
  refine st (yf (v := .int .i64 (p.pgroup)) kT rfl (zd h5 rfl) ?_)
  refine zb ?_
  refine zr ?_
  refine za ?_
  refine zu (by kernel_rfl) (fun _ => ?_)
  refine st (zY (k := .i64) (a := p.pgroup) (b := 1) rfl rfl ?_)
  refine st (zv (v := .bool (decide (p.pgroup = 1))) rfl ?_)
  refine zb ?_
  cases hc6 : decide (p.pgroup = 1)
  · skip
    have hc6 := of_decide_eq_false hc6
    refine zf rfl ?_
    refine za ?_
    refine zu (by kernel_rfl) (fun _ => ?_)
    refine st (zY (k := .i64) (a := p.pgroup) (b := 2) rfl rfl ?_)
    refine st (zv (v := .bool (decide (p.pgroup = 2))) rfl ?_)
    refine zb ?_
    cases hc7 : decide (p.pgroup = 2)
    · skip
      have hc7 := of_decide_eq_false hc7
      refine zf rfl ?_
      refine za ?_
      refine zu (by kernel_rfl) (fun _ => ?_)
      refine st (zY (k := .i64) (a := p.pgroup) (b := 3) rfl rfl ?_)
      refine st (zv (v := .bool (decide (p.pgroup = 3))) rfl ?_)
      refine zb ?_
      cases hc8 : decide (p.pgroup = 3)
      · skip
        have hc8 := of_decide_eq_false hc8
        refine zf rfl ?_
        refine zp ?_
        refine za ?_
        refine zu (by kernel_rfl) (fun _ => ?_)
        refine st (zv (v := .int .i64 (0)) rfl ?_)
        refine st (zv (v := .bool false) rfl ?_)
        refine zb ?_
        refine zo ?_
        refine VY qR (show _ = (.int .i64 (0) : Value) from rfl) (show _ = (.bool false : Value) from rfl) ?_
        refine ⟨?_, hn1.ext⟩
        unfold zq
        (repeat (first | rw [if_pos (by omega)] | rw [if_neg (by omega)]))
        rfl
      · skip
        have hc8 := of_decide_eq_true hc8
        refine zh rfl ?_
        refine za ?_
        refine zu (by kernel_rfl) (fun _ => ?_)
        refine st (zt (v := .int .i64 (reg)) rfl ?_)
        refine st (zv (v := .int .i64 (reg)) rfl ?_)
        refine st (zv (v := .bool true) rfl ?_)
        refine zb ?_
        refine zo ?_
        refine VY qR (show _ = (.int .i64 (reg) : Value) from rfl) (show _ = (.bool true : Value) from rfl) ?_
        refine ⟨?_, hn1.ext⟩
        unfold zq
        (repeat (first | rw [if_pos (by omega)] | rw [if_neg (by omega)]))
        rfl
    · skip
      have hc7 := of_decide_eq_true hc7
      refine zh rfl ?_
      refine za ?_
      refine zu (by kernel_rfl) (fun _ => ?_)
      refine st (QH rfl ?_)
      refine st (yf (v := .int .i64 (e.arg)) kT rfl (zd hb3 rfl) ?_)
      refine st (zv (v := .int .i64 (e.arg)) rfl ?_)
      refine st (zv (v := .bool true) rfl ?_)
      refine zb ?_
      refine zo ?_
      refine VY qR (show _ = (.int .i64 (e.arg) : Value) from rfl) (show _ = (.bool true : Value) from rfl) ?_
      refine ⟨?_, hn1.ext⟩
      unfold zq
      (repeat (first | rw [if_pos (by omega)] | rw [if_neg (by omega)]))
      rfl
  · skip
    have hc6 := of_decide_eq_true hc6
    refine zh rfl ?_
    refine za ?_
    refine zu (by kernel_rfl) (fun _ => ?_)
    refine st (zat rfl ?_)
    refine st (yf (v := .int .i64 (e.agg)) kT rfl (zd hb3 rfl) ?_)
    refine st (zv (v := .int .i64 (e.agg)) rfl ?_)
    refine st (zv (v := .bool true) rfl ?_)
    refine zb ?_
    refine zo ?_
    refine VY qR (show _ = (.int .i64 (e.agg) : Value) from rfl) (show _ = (.bool true : Value) from rfl) ?_
    refine ⟨?_, hn1.ext⟩
    unfold zq
    (repeat (first | rw [if_pos (by omega)] | rw [if_neg (by omega)]))
    rfl

theorem Ws {d : Option Tmp} {ty : TypeId} {pos : String} {af : Array Edge} {g : Option (Nat × Bool)} {σ : Env} {w : World} {K : Value → World → Prop} {x : Operand} {b o : Nat} (hx : ev σ x = .pointer (some ⟨b, o, none⟩)) (h : K (.pointer (some ⟨b, o + 2, none⟩)) w) : opV Tryz.prog ⟨d, .fieldAddr 44 x 2, ty, pos, af, g⟩ σ w K := zk rY rfl rfl (fun w => ⟨0, tT w⟩) hx h
theorem ZT {d : Option Tmp} {ty : TypeId} {pos : String} {af : Array Edge} {g : Option (Nat × Bool)} {σ : Env} {w : World} {K : Value → World → Prop} {x : Operand} {b o : Nat} (hx : ev σ x = .pointer (some ⟨b, o, none⟩)) (h : K (.pointer (some ⟨b, o + 4, none⟩)) w) : opV Tryz.prog ⟨d, .fieldAddr 46 x 4, ty, pos, af, g⟩ σ w K := zk pY rfl rfl (fun w => ⟨0, tT w⟩) hx h
theorem WG {d : Option Tmp} {ty : TypeId} {pos : String} {af : Array Edge} {g : Option (Nat × Bool)} {σ : Env} {w : World} {K : Value → World → Prop} {x : Operand} {b o : Nat} (hx : ev σ x = .pointer (some ⟨b, o, none⟩)) (h : K (.pointer (some ⟨b, o + 1, none⟩)) w) : opV Tryz.prog ⟨d, .fieldAddr 44 x 1, ty, pos, af, g⟩ σ w K := zk rY rfl rfl (fun w => ⟨0, tT w⟩) hx h
theorem zah {w : World} {a m : Nat} {p : Prj} (ha : w.heap[a]? = some (.cells #[.int .i64 (p.ptyp), .int .i64 (p.pfield), .int .i64 (p.pgroup), .int .i64 (p.pby), .int .i64 (p.pmake), .map (some m)] 122)) (op : p.Ok) {q : Row} (oq : q.Ok) {arg : Int} (harg : InR arg) : Ret Tryz.prog 86 [.pointer (some ⟨a, 0, none⟩), .agg (q.cells).toArray, .int .i64 (arg)] w (fun r w' => r = .int .i64 (xd p q arg) ∧ Ext w w') := by
  refine zl (args := [.pointer (some ⟨a, 0, none⟩), .agg (q.cells).toArray, .int .i64 (arg)]) Tryz.func86 rfl rfl ?_
  refine za ?_
  refine zu (by kernel_rfl) (fun _ => ?_)
  refine st (zT (v := .agg (q.cells).toArray) rfl (fun w1 b2 hn1 => ?_))
  have hb3 : w1.heap[b2]? = some (.cells (q.cells).toArray 44) := hn1.at_
  have hs4 := hn1.size; have hs4e := hn1.eq
  refine st (zv (v := .int .i64 (0)) rfl ?_)
  refine zb ?_
  refine za ?_
  refine zu (by kernel_rfl) (fun _ => ?_)
  refine st (Ws rfl ?_)
  refine st (yf (v := .int .i64 (q.count)) kT rfl (zd hb3 rfl) ?_)
  refine st (zY (k := .i64) (a := q.count) (b := 1) rfl rfl ?_)
  refine st (zv (v := .bool (decide (q.count = 1))) rfl ?_)
  refine zb ?_
  refine za ?_
  refine zr ?_
  refine za ?_
  refine zu (by kernel_rfl) (fun _ => ?_)
  refine st (zt (v := .pointer (some ⟨a, 0, none⟩)) rfl ?_)
  refine st (zm (b := a) (o := 0) rfl ?_)
  refine st (xy rfl ?_)
  refine st (ZT rfl ?_)
  have h5 := hn1.ext.keep ha (fun h => h)
  refine st (yf (v := .int .i64 (p.pmake)) kT rfl (zd h5 rfl) ?_)
  refine st (zY (k := .i64) (a := p.pmake) (b := 1) rfl rfl ?_)
  refine st (zv (v := .bool (decide (p.pmake = 1))) rfl ?_)
  refine zb ?_
  cases hc6 : decide (p.pmake = 1)
  · skip
    have hc6 := of_decide_eq_false hc6
    refine zf rfl ?_
    refine za ?_
    refine zu (by kernel_rfl) (fun _ => ?_)
    refine st (zt (v := .pointer (some ⟨a, 0, none⟩)) rfl ?_)
    refine st (zm (b := a) (o := 0) rfl ?_)
    refine st (xy rfl ?_)
    refine st (ZT rfl ?_)
    refine st (yf (v := .int .i64 (p.pmake)) kT rfl (zd h5 rfl) ?_)
    refine st (zY (k := .i64) (a := p.pmake) (b := 2) rfl rfl ?_)
    refine st (zv (v := .bool (decide (p.pmake = 2))) rfl ?_)
    refine zb ?_
    cases hc7 : decide (p.pmake = 2)
    · skip
      have hc7 := of_decide_eq_false hc7
      refine zf rfl ?_
      refine za ?_
      refine za ?_
      refine zu (by kernel_rfl) (fun _ => ?_)
      refine st (zt (v := .pointer (some ⟨a, 0, none⟩)) rfl ?_)
      refine st (zm (b := a) (o := 0) rfl ?_)
      refine st (xy rfl ?_)
      refine st (ZT rfl ?_)
      refine st (yf (v := .int .i64 (p.pmake)) kT rfl (zd h5 rfl) ?_)
      refine st (zY (k := .i64) (a := p.pmake) (b := 5) rfl rfl ?_)
      refine st (zv (v := .bool (decide (p.pmake = 5))) rfl ?_)
      refine zb ?_
      cases hc8 : decide (p.pmake = 5)
      · skip
        have hc8 := of_decide_eq_false hc8
        refine zf rfl ?_
        refine zI (by kernel_rfl) ?_
        refine st (zt (v := .bool (decide (q.count = 1))) rfl ?_)
        refine st (zt (v := .bool (decide (q.count = 1))) rfl ?_)
        refine stc (V := .pointer (some ⟨a, 0, none⟩)) rfl rfl (fun hb9 => ?_) ?_
        · have hl10 : (decide (q.count = 1)) = true := hb9
          have hl10 := of_decide_eq_true hl10
          exact zt (v := .pointer (some ⟨a, 0, none⟩)) rfl ⟨rfl, rfl⟩
        refine stc (V := .pointer (some ⟨a, 0, none⟩)) rfl rfl (fun hb11 => ?_) ?_
        · have hl12 : (decide (q.count = 1)) = true := hb11
          have hl12 := of_decide_eq_true hl12
          exact zm (b := a) (o := 0) (show _ = (.pointer (some ⟨a, 0, none⟩) : Value) from (if_pos hb11)) ⟨rfl, rfl⟩
        refine stc (V := .pointer (some ⟨a, 0, none⟩)) rfl rfl (fun hb13 => ?_) ?_
        · have hl14 : (decide (q.count = 1)) = true := hb13
          have hl14 := of_decide_eq_true hl14
          exact xy (show _ = (.pointer (some ⟨a, 0, none⟩) : Value) from (if_pos hb13)) ⟨rfl, rfl⟩
        refine stc (V := .pointer (some ⟨a, 4, none⟩)) rfl rfl (fun hb15 => ?_) ?_
        · have hl16 : (decide (q.count = 1)) = true := hb15
          have hl16 := of_decide_eq_true hl16
          exact ZT (show _ = (.pointer (some ⟨a, 0, none⟩) : Value) from (if_pos hb15)) ⟨rfl, rfl⟩
        refine stc (V := .int .i64 (p.pmake)) rfl rfl (fun hb17 => ?_) ?_
        · have hl18 : (decide (q.count = 1)) = true := hb17
          have hl18 := of_decide_eq_true hl18
          exact yf (v := .int .i64 (p.pmake)) kT (show _ = (.pointer (some ⟨a, 4, none⟩) : Value) from (if_pos hb17)) (zd h5 rfl) ⟨rfl, rfl⟩
        refine stc (V := .bool (decide (p.pmake = 3))) rfl rfl (fun hb19 => ?_) ?_
        · have hl20 : (decide (q.count = 1)) = true := hb19
          have hl20 := of_decide_eq_true hl20
          exact zY (k := .i64) (a := p.pmake) (b := 3) (show _ = (.int .i64 (p.pmake) : Value) from (if_pos hb19)) rfl ⟨rfl, rfl⟩
        refine stc (V := .bool (decide (p.pmake = 3))) rfl rfl (fun hb21 => ?_) ?_
        · have hl22 : (decide (q.count = 1)) = true := hb21
          have hl22 := of_decide_eq_true hl22
          exact zt (v := .bool (decide (p.pmake = 3))) (show _ = (.bool (decide (p.pmake = 3)) : Value) from (if_pos hb21)) ⟨rfl, rfl⟩
        refine yL (V := .pointer (some ⟨a, 0, none⟩)) rfl rfl (fun hb23 => ?_) ?_
        · have hl24 : (decide (q.count = 1)) = true := hb23.1
          have hl24 := of_decide_eq_true hl24
          have hl25 : (decide (p.pmake = 3)) = false := hb23.2
          have hl25 := of_decide_eq_false hl25
          exact zt (v := .pointer (some ⟨a, 0, none⟩)) rfl ⟨rfl, rfl⟩
        refine yL (V := .pointer (some ⟨a, 0, none⟩)) rfl rfl (fun hb26 => ?_) ?_
        · have hl27 : (decide (q.count = 1)) = true := hb26.1
          have hl27 := of_decide_eq_true hl27
          have hl28 : (decide (p.pmake = 3)) = false := hb26.2
          have hl28 := of_decide_eq_false hl28
          exact zm (b := a) (o := 0) (show _ = (.pointer (some ⟨a, 0, none⟩) : Value) from (if_pos ⟨hb26.1, hb26.2⟩)) ⟨rfl, rfl⟩
        refine yL (V := .pointer (some ⟨a, 0, none⟩)) rfl rfl (fun hb29 => ?_) ?_
        · have hl30 : (decide (q.count = 1)) = true := hb29.1
          have hl30 := of_decide_eq_true hl30
          have hl31 : (decide (p.pmake = 3)) = false := hb29.2
          have hl31 := of_decide_eq_false hl31
          exact xy (show _ = (.pointer (some ⟨a, 0, none⟩) : Value) from (if_pos ⟨hb29.1, hb29.2⟩)) ⟨rfl, rfl⟩
        refine yL (V := .pointer (some ⟨a, 4, none⟩)) rfl rfl (fun hb32 => ?_) ?_
        · have hl33 : (decide (q.count = 1)) = true := hb32.1
          have hl33 := of_decide_eq_true hl33
          have hl34 : (decide (p.pmake = 3)) = false := hb32.2
          have hl34 := of_decide_eq_false hl34
          exact ZT (show _ = (.pointer (some ⟨a, 0, none⟩) : Value) from (if_pos ⟨hb32.1, hb32.2⟩)) ⟨rfl, rfl⟩
        refine yL (V := .int .i64 (p.pmake)) rfl rfl (fun hb35 => ?_) ?_
        · have hl36 : (decide (q.count = 1)) = true := hb35.1
          have hl36 := of_decide_eq_true hl36
          have hl37 : (decide (p.pmake = 3)) = false := hb35.2
          have hl37 := of_decide_eq_false hl37
          exact yf (v := .int .i64 (p.pmake)) kT (show _ = (.pointer (some ⟨a, 4, none⟩) : Value) from (if_pos ⟨hb35.1, hb35.2⟩)) (zd h5 rfl) ⟨rfl, rfl⟩
        refine yL (V := .bool (decide (p.pmake = 4))) rfl rfl (fun hb38 => ?_) ?_
        · have hl39 : (decide (q.count = 1)) = true := hb38.1
          have hl39 := of_decide_eq_true hl39
          have hl40 : (decide (p.pmake = 3)) = false := hb38.2
          have hl40 := of_decide_eq_false hl40
          exact zY (k := .i64) (a := p.pmake) (b := 4) (show _ = (.int .i64 (p.pmake) : Value) from (if_pos ⟨hb38.1, hb38.2⟩)) rfl ⟨rfl, rfl⟩
        refine stc (V := .bool ((decide (p.pmake = 3)) || (decide (p.pmake = 4)))) rfl rfl (fun hb41 => ?_) ?_
        · have hl42 : (decide (q.count = 1)) = true := hb41
          have hl42 := of_decide_eq_true hl42
          exact zy (b := decide (p.pmake = 3)) (b' := decide (p.pmake = 4)) (show _ = (.bool (decide (p.pmake = 3)) : Value) from (if_pos hb41)) (fun hbp => (show _ = (.bool (decide (p.pmake = 4)) : Value) from (if_pos ⟨hb41, hbp⟩))) ⟨rfl, rfl⟩
        refine st (zD (b := decide (q.count = 1)) (b' := (decide (p.pmake = 3)) || (decide (p.pmake = 4))) rfl (fun hbp => (show _ = (.bool ((decide (p.pmake = 3)) || (decide (p.pmake = 4))) : Value) from (if_pos hbp))) ?_)
        refine st (zv (v := .bool ((decide (q.count = 1)) && ((decide (p.pmake = 3)) || (decide (p.pmake = 4))))) rfl ?_)
        refine zb ?_
        cases hc43 : (decide (q.count = 1)) && ((decide (p.pmake = 3)) || (decide (p.pmake = 4)))
        · skip
          simp only [Bool.and_eq_true, Bool.or_eq_true, Bool.and_eq_false_iff, Bool.or_eq_false_iff, decide_eq_true_eq, decide_eq_false_iff_not, Bool.not_eq_true', Bool.not_eq_false', Int.not_lt, Int.not_le] at hc43
          refine zf rfl ?_
          refine za ?_
          refine zu (by kernel_rfl) (fun _ => ?_)
          refine st (zt (v := .pointer (some ⟨a, 0, none⟩)) rfl ?_)
          refine st (zm (b := a) (o := 0) rfl ?_)
          refine st (xy rfl ?_)
          refine st (ZT rfl ?_)
          refine st (yf (v := .int .i64 (p.pmake)) kT rfl (zd h5 rfl) ?_)
          refine st (zY (k := .i64) (a := p.pmake) (b := 3) rfl rfl ?_)
          refine st (zv (v := .bool (decide (p.pmake = 3))) rfl ?_)
          refine zb ?_
          cases hc44 : decide (p.pmake = 3)
          · skip
            have hc44 := of_decide_eq_false hc44
            refine zf rfl ?_
            refine za ?_
            refine zu (by kernel_rfl) (fun _ => ?_)
            refine st (zt (v := .pointer (some ⟨a, 0, none⟩)) rfl ?_)
            refine st (zm (b := a) (o := 0) rfl ?_)
            refine st (xy rfl ?_)
            refine st (ZT rfl ?_)
            refine st (yf (v := .int .i64 (p.pmake)) kT rfl (zd h5 rfl) ?_)
            refine st (zY (k := .i64) (a := p.pmake) (b := 4) rfl rfl ?_)
            refine st (zv (v := .bool (decide (p.pmake = 4))) rfl ?_)
            refine zb ?_
            cases hc45 : decide (p.pmake = 4)
            · skip
              have hc45 := of_decide_eq_false hc45
              refine zf rfl ?_
              refine zp ?_
              refine za ?_
              refine zu (by kernel_rfl) (fun _ => ?_)
              refine st (zv (v := .int .i64 (0)) rfl ?_)
              refine zb ?_
              refine zo ?_
              refine zR wT (show _ = (.int .i64 (0) : Value) from rfl) ?_
              refine ⟨?_, hn1.ext⟩
              unfold xd
              (repeat (first | rw [if_pos (by omega)] | rw [if_neg (by omega)]))
            · skip
              have hc45 := of_decide_eq_true hc45
              refine zh rfl ?_
              refine za ?_
              refine zu (by kernel_rfl) (fun _ => ?_)
              refine st (WG rfl ?_)
              refine st (yf (v := .int .i64 (q.value)) kT rfl (zd hb3 rfl) ?_)
              refine st (zt (v := .int .i64 (arg)) rfl ?_)
              refine st (Uh (k := .i64) (a := q.value) (b := arg) rfl rfl ?_)
              refine st (zv (v := .int .i64 (max q.value arg)) rfl ?_)
              refine zb ?_
              refine zo ?_
              refine zR wT (show _ = (.int .i64 (max q.value arg) : Value) from rfl) ?_
              refine ⟨?_, hn1.ext⟩
              unfold xd
              (repeat (first | rw [if_pos (by omega)] | rw [if_neg (by omega)]))
          · skip
            have hc44 := of_decide_eq_true hc44
            refine zh rfl ?_
            refine za ?_
            refine zu (by kernel_rfl) (fun _ => ?_)
            refine st (WG rfl ?_)
            refine st (yf (v := .int .i64 (q.value)) kT rfl (zd hb3 rfl) ?_)
            refine st (zt (v := .int .i64 (arg)) rfl ?_)
            refine st (Qx (k := .i64) (a := q.value) (b := arg) rfl rfl ?_)
            refine st (zv (v := .int .i64 (min q.value arg)) rfl ?_)
            refine zb ?_
            refine zo ?_
            refine zR wT (show _ = (.int .i64 (min q.value arg) : Value) from rfl) ?_
            refine ⟨?_, hn1.ext⟩
            unfold xd
            (repeat (first | rw [if_pos (by omega)] | rw [if_neg (by omega)]))
        · skip
          simp only [Bool.and_eq_true, Bool.or_eq_true, Bool.and_eq_false_iff, Bool.or_eq_false_iff, decide_eq_true_eq, decide_eq_false_iff_not, Bool.not_eq_true', Bool.not_eq_false', Int.not_lt, Int.not_le] at hc43
          refine zh rfl ?_
          refine za ?_
          refine zu (by kernel_rfl) (fun _ => ?_)
          refine st (zt (v := .int .i64 (arg)) rfl ?_)
          refine st (zv (v := .int .i64 (arg)) rfl ?_)
          refine zb ?_
          refine zo ?_
          refine zR wT (show _ = (.int .i64 (arg) : Value) from rfl) ?_
          refine ⟨?_, hn1.ext⟩
          unfold xd
          (repeat (first | rw [if_pos (by omega)] | rw [if_neg (by omega)]))
      · skip
        have hc8 := of_decide_eq_true hc8
        refine zh rfl ?_
        refine zp ?_
        refine zh rfl ?_
        refine za ?_
        refine zu (by kernel_rfl) (fun _ => ?_)
        refine st (zt (v := .int .i64 (arg)) rfl ?_)
        refine st (zv (v := .int .i64 (arg)) rfl ?_)
        refine zb ?_
        refine zo ?_
        refine zR wT (show _ = (.int .i64 (arg) : Value) from rfl) ?_
        refine ⟨?_, hn1.ext⟩
        unfold xd
        (repeat (first | rw [if_pos (by omega)] | rw [if_neg (by omega)]))
    · skip
      have hc7 := of_decide_eq_true hc7
      refine zh rfl ?_
      refine za ?_
      refine zu (by kernel_rfl) (fun _ => ?_)
      refine st (WG rfl ?_)
      refine st (yf (v := .int .i64 (q.value)) kT rfl (zd hb3 rfl) ?_)
      refine st (zt (v := .int .i64 (arg)) rfl ?_)
      refine st (zQ (r := IntKind.i64.wrap (q.value + arg)) (k := .i64) (a := q.value) (b := arg) rfl rfl rfl ?_)
      refine st (zv (v := .int .i64 (IntKind.i64.wrap (q.value + arg))) rfl ?_)
      refine zb ?_
      refine zo ?_
      refine zR wT (show _ = (.int .i64 (IntKind.i64.wrap (q.value + arg)) : Value) from rfl) ?_
      refine ⟨?_, hn1.ext⟩
      unfold xd
      (repeat (first | rw [if_pos (by omega)] | rw [if_neg (by omega)]))
  · skip
    have hc6 := of_decide_eq_true hc6
    refine zh rfl ?_
    refine za ?_
    refine zu (by kernel_rfl) (fun _ => ?_)
    refine st (Ws rfl ?_)
    refine st (yf (v := .int .i64 (q.count)) kT rfl (zd hb3 rfl) ?_)
    refine st (zv (v := .int .i64 (q.count)) rfl ?_)
    refine zb ?_
    refine zo ?_
    refine zR wT (show _ = (.int .i64 (q.count) : Value) from rfl) ?_
    refine ⟨?_, hn1.ext⟩
    unfold xd
    (repeat (first | rw [if_pos (by omega)] | rw [if_neg (by omega)]))

end Go.Proofs.YtojlbibionhdjaaGreatDoor
