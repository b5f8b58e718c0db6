import Derived.Test.YtlblilbmpdejgaaDoorV7
import Derived.Test.YtlblilbmpdejgaaDoorV10
import Derived.Test.YtlblilbmpdejgaaDoorV9
set_option linter.unusedSimpArgs false
set_option linter.unusedVariables false
set_option linter.unusedSectionVars false
set_option linter.deprecated false
set_option maxRecDepth 8000
set_option maxHeartbeats 4000000
open Go.Proofs.Tryd renaming sizeOf59 → lT, isAgg3 → mT, isAgg59 → nT, underlying47 → oT, underlying40 → pT, sizeOf3 → qT, underlying66 → rT, sizeOf62 → sT, zeroValue59 → tT, isAgg4 → uT, call44 → vT, isAgg26 → wT, underlying26 → lR, sizeOf79 → mR, isAgg40 → nR, call32 → oR, zeroValue68 → pR, sizeOf42 → qR, zeroValue3 → rR, underlying51 → sR, call21 → tR, call28 → uR, sizeOf68 → vR, isAgg22 → wR, underlying22 → lY, sizeOf33 → mY, isAgg31 → nY, underlying31 → oY, isAgg79 → pY, call43 → qY, isAgg25 → rY, sizeOf25 → sY, call24 → tY, results6 → uY, call36 → vY, zeroValue62 → wY, isAgg57 → lA, sizeOf57 → mA
namespace Go.Proofs.YtlblilbmpdejgaaDoor
open Go.Proofs Go.RowKit

theorem Jn {d : Dcl} {K : Int × Int} {X : List Ent} {cn : Nat} (h : cn = yd K X) : (((!((zh d X K).isSome == decide (0 < ((cn : Nat) : Int)))) || !decide ((ye d K X).ver = ((cn : Nat) : Int))) || (!(zh d X K).isSome && decide (0 < (((stL d K X).length : Nat) : Int)))) = false := by
  subst h
  by_cases hv : yd K X = 0
  · have h1 : zh d X K = none := if_pos hv
    have h2 : stL d K X = [] := if_pos hv
    rw [h1, h2]; unfold ye; rw [hv]; simp
  · have h1 : zh d X K = some (yd K X, zT d K X) := if_neg hv
    rw [h1]; unfold ye; simp; omega
theorem KH {d : Dcl} {K : Int × Int} {X : List Ent} (h : (!(zh d X K).isSome) = false) : ¬ yd K X = 0 := fun hv => by
  have h1 : zh d X K = none := if_pos hv
  rw [h1] at h; cases h
theorem Kv {t : Typ} {C : List Cel} {i : Nat} (hR : Right t C) (hL : Led t C) (hi : i < C.length) : (((((t.fields.getD i default).floor && decide ((C.getD i default).n < 0)) || (decide ((t.fields.getD i default).kind = 4) && !Zw (t.fields.getD i default) (C.getD i default).n)) || decide (64 < (((C.getD i default).set.length : Nat) : Int))) || (!decide ((t.fields.getD i default).kind = 3) && decide (0 < (((C.getD i default).set.length : Nat) : Int)))) = false := by
  have h1 : ((t.fields.getD i default).floor && decide ((C.getD i default).n < 0)) = false := by
    cases hf : (t.fields.getD i default).floor
    · rfl
    · have := hR.floor i hi hf
      rw [decide_eq_false (by omega)]; rfl
  have h2 : (decide ((t.fields.getD i default).kind = 4) && !Zw (t.fields.getD i default) (C.getD i default).n) = false := by
    by_cases hk : (t.fields.getD i default).kind = 4
    · rw [hL i hi hk]; exact Bool.and_false _
    · rw [decide_eq_false hk]; rfl
  have h4 : (!decide ((t.fields.getD i default).kind = 3) && decide (0 < (((C.getD i default).set.length : Nat) : Int))) = false := by
    by_cases hk : (t.fields.getD i default).kind = 3
    · rw [decide_eq_true hk]; rfl
    · rw [hR.set i hi hk]; exact Bool.and_false _
  rw [h1, h2, h4, decide_eq_false (by have := hR.most i hi; omega)]; rfl
set_option maxHeartbeats 8000000 in
theorem Vv {G : Nat → Prop} {W w : World} {Rs : List HP} {d : Dcl} {dd0 : Value} (hdd0 : RdS W G dd0 d.types) {dd1 : Value} (hdd1 : RdS W G dd1 d.projs) (od : d.Ok) {n : Int} (hn : InR n) {vl : Value} {l : List Ev} (hl : RdS W G vl l) (hKN : RdS W G (.slice (some ⟨0, 0, none⟩) 6 6) kindsL) (hS0 : Sep G W Rs w) : Ret Tryd.prog 6 [.agg (d.cells dd0 dd1).toArray, .int .i64 (n), vl] w (fun r w' => r = (.bool true : Value) ∧ Sep G W Rs w') := by
 have hdd0s : _ * 24 ≤ _ := hdd0.small
 have hdd1s : _ * 40 ≤ _ := hdd1.small
 have hls : _ * 96 ≤ _ := hl.small
 have hKNs : _ * 8 ≤ _ := hKN.small
 refine zl (args := [.agg (d.cells dd0 dd1).toArray, Iv n, vl]) Tryd.func6 rfl rfl ?_
 refine za (R0 fun _ => st (zR (v := .agg (d.cells dd0 dd1).toArray) rfl ?_))
 intro w3 b2 kK
 let kN := Blk b2 (d.cells dd0 dd1).toArray 25
 have jK := hS0.new kK
 refine st (aS (.bool false) (zb (za (za (R0 fun _ => st (zg (k := 2) rY sY rfl rfl (CellsAt.all (jK.b0)) (st (cL Tryd.call20 (YV (d := d) hdd0 hdd1 od jK) ?_))))))))
 rintro _ w7 ⟨b5, rfl, kM, jL⟩
 refine st (yc (a := b5) rfl (zb ?_))
 cases dq : !b5
 have hc9r := dq
 try simp only [zf] at dq
 have hdo := kM dq
 refine zi rfl (zk (za (R0 fun _ => st (mV (Iv n) ?_))))
 refine st (cL Tryd.call13 (Xj (x := n) (n := 64) hn yqj jL) ?_)
 rintro _ w12 ⟨bA, rfl, hq11, jO⟩
 have eT : InR ((1 + bA : Nat) : Int) := bo
 refine st (zH (r := ((1 + bA : Nat) : Int)) (k := .i64) (a := 1) (b := ((bA : Nat) : Int)) rfl rfl (by rw [show (1 + ((bA : Nat) : Int) : Int) = ((1 + bA : Nat) : Int) from bo]; exact zz eT) (st (mV vl (st (cL Tryd.call22 (Yk (n := ((1 + bA : Nat) : Int)) (l := l) (vl := vl) eT hl jO) ?_)))))
 rintro A aA ⟨_, c, rfl, h6017, hft18, eU⟩
 have jP := eU.r0
 have hr21s : _ * 96 ≤ _ := jP.2
 refine st (aS A (zb (za ?_)))
 obtain ⟨aX, jQ, F, eV, jR⟩ := eU.lend
 have B := RowE.rdB jQ F
 have hrd28s : _ * 96 ≤ _ := B.small
 refine R0 fun _ => st (zg (k := 2) rY sY rfl rfl (CellsAt.all (eV.b0)) (st (cL tY (Ww (d := d) (RdS.base hdd0 F) (RdS.base hdd1 F) od eV) ?_)))
 rintro _ w30 ⟨J, rfl, jS⟩
 refine st (aS (Ix J 0) (zb (za (za (R0 fun _ => st (mV (Ix J 0) (st (xc (b := J) (o := 0) sR rfl (zb (zi rfl (zk (za (za (R0 fun _ => st (aS (Iv 0) (zb (zn (zX (fun mq σ N => ∃ (k : Nat) (ρ : Env), mq = c.length - k ∧ σ = yb ρ [(2, A), (3, Ix b2 0), (7, Ix J 0), (8, Iw k)] ∧ (k ≤ c.length) ∧ Sep aX aA ((ViewO J d (zY d (c.take k)) (zY d (c.take k))) :: (Blk b2 (d.cells dd0 dd1).toArray 25) :: Rs) N) ⟨0, _, rfl, sSf, Nat.zero_le _, jS⟩ ?_))))))))))))))))))
 rintro m33 σ34 w32 ⟨k, ρl1, rfl, rfl, hkk, da⟩
 let kX := Ix (sb A) (so A + k * 10)
 let kS := Ix (sb dd0) (so dd0 + (((c.getD k default).typ).toNat) * 1)
 refine za (za (R0 fun _ => st (mV (Iw k) (st (mV A (st (zA (n := c.length) oT rfl B.sl (st (zD (k := .i64) (a := ((k : Nat) : Int)) (b := ((c.length : Nat) : Int)) rfl rfl (zb ?_))))))))))
 cases bi : decide (((k : Nat) : Int) < ((c.length : Nat) : Int))
 have hc36r := bi
 have bi := fD bi
 refine zi rfl (zU (zI (za (R0 fun _ => st (cL tR (xj  (RdS.base hKN F) da) ?_)))))
 rintro _ w37 ⟨rfl, jT⟩
 refine st (aS (.bool true) (zb (zm (zL uY (show _ = (.bool true : Value) from rfl) ?_))))
 have jU := jR _ _ jT
 refine ⟨rfl, (jU.s3_)⟩
 have bi := tD bi
 refine zj rfl (zk (za (zn (za (R0 fun _ => st (mV (Ix J 0) (st (mV A (st (mV (Iw k) ?_))))))))))
 have jV : k < c.length := bo
 refine st (ze (k := 10) (i := k) oT lT rfl B.sl rfl jV ?_)
 have aV : k < c.length := bo
 obtain ⟨aB, bB, ad⟩ := B.evD aV
 have hsm44 : ((c.getD k default).deps).length * 8 ≤ 140737488355328 := bB.small
 have hG := da.cells aB (B.foot (ne_of_lt aV))
 refine st (zg (k := 10) nT lT rfl rfl hG (st (cL uR (WT (e := (c.getD k default)) bB ad (RdS.base hKN F) da (hdo) ((Inv.run hdo _)) ((YW om))) ?_)))
 rintro _ w47 ⟨av, rfl, db⟩
 let kT := RwI av ((c.getD k default).deps)
 have jW := db.r1
 have hr49s : _ * 8 ≤ _ := jW.2
 refine zb (za ?_)
 obtain ⟨X, hX⟩ : ∃ z, z = ((zY d (c.take k)) ++ [ya d (zY d (c.take k)) (c.getD k default)]) := ⟨_, rfl⟩
 rw [← hX] at db
 have bC : X = zY d (c.take (k + 1)) := hX.trans (Yw om).symm
 have hXl : X.length = k + 1 := by rw [bC, yq, List.length_take]; omega
 refine WD6 ((fun TT aC => WF [fun vals N => Sep aX aA (aC :: TT) N, fun vals N => ∃ (g : Value), (vals 11 = (.tuple #[.agg ((ye d (((c.getD k default).typ), ((c.getD k default).agg)) X).cells g).toArray, .bool ((zh d X (((c.getD k default).typ), ((c.getD k default).agg))).isSome)] : Value)) ∧ Sep aX aA (aC :: (RwC g (stL d (((c.getD k default).typ), ((c.getD k default).agg)) X)) :: TT) N, fun vals N => ∃ (y : Nat), (vals 15 = (Ix y 0 : Value)) ∧ Sep aX aA ((Blk y #[Iv 0, (Iz)] 68) :: aC :: TT) N, fun vals N => ∃ (g : Value) (y : Nat), (vals 11 = (.tuple #[.agg ((ye d (((c.getD k default).typ), ((c.getD k default).agg)) X).cells g).toArray, .bool ((zh d X (((c.getD k default).typ), ((c.getD k default).agg))).isSome)] : Value)) ∧ (vals 15 = (Ix y 0 : Value)) ∧ Sep aX aA ((Blk y #[Iv 0, (Iz)] 68) :: aC :: (RwC g (stL d (((c.getD k default).typ), ((c.getD k default).agg)) X)) :: TT) N, fun _ _ => True, fun _ _ => True, fun _ _ => True, fun vals N => ∃ (g : Value) (y : Nat), (vals 11 = (.tuple #[.agg ((ye d (((c.getD k default).typ), ((c.getD k default).agg)) X).cells g).toArray, .bool ((zh d X (((c.getD k default).typ), ((c.getD k default).agg))).isSome)] : Value)) ∧ (vals 15 = (Ix y 0 : Value)) ∧ Sep aX aA ((Blk y ((ye d (((c.getD k default).typ), ((c.getD k default).agg)) X).cells g).toArray 68) :: aC :: (RwC g (stL d (((c.getD k default).typ), ((c.getD k default).agg)) X)) :: TT) N]) (kT :: kN :: Rs) (ViewO J d X X)) (AF [Vl 0 (Ix J 0), Vl 1 (A), Vl 2 (Iw k), Vl 3 kX, Vl 4 (Ix (sb A) (so A + k * 10 + 4)), Vl 5 (Iv ((c.getD k default).typ)), Vl 6 (A), Vl 7 (Iw k), Vl 8 kX, Vl 9 (Ix (sb A) (so A + k * 10 + 5)), Vl 10 (Iv ((c.getD k default).agg)), fun _ => True, fun vals => ∀ (g : Value), vals 11 = (.tuple #[.agg ((ye d (((c.getD k default).typ), ((c.getD k default).agg)) X).cells g).toArray, .bool ((zh d X (((c.getD k default).typ), ((c.getD k default).agg))).isSome)] : Value) → vals 12 = (.tuple #[.agg ((ye d (((c.getD k default).typ), ((c.getD k default).agg)) X).cells g).toArray, .bool ((zh d X (((c.getD k default).typ), ((c.getD k default).agg))).isSome)] : Value), fun vals => ∀ (g : Value), vals 11 = (.tuple #[.agg ((ye d (((c.getD k default).typ), ((c.getD k default).agg)) X).cells g).toArray, .bool ((zh d X (((c.getD k default).typ), ((c.getD k default).agg))).isSome)] : Value) → vals 13 = (.agg ((ye d (((c.getD k default).typ), ((c.getD k default).agg)) X).cells g).toArray : Value), Vl 14 (.bool ((zh d X (((c.getD k default).typ), ((c.getD k default).agg))).isSome)), fun _ => True, fun _ => True, Vl 17 (.bool ((zh d X (((c.getD k default).typ), ((c.getD k default).agg))).isSome))]) [[], [], [], [1, 2], [1, 2, 3], [1, 2, 3, 4], [], [], [6, 7], [6, 7, 8], [6, 7, 8, 9], (rg 11), (rg 12), (rg 13), (rg 13), [], [0, 1, 2, 3, 4, 5, 6, 7, 8, 9, 10, 11, 12, 13, 15], (rg 17)] [11, 15, 16] [[0, 2], [0, 2], [0, 2], [0, 2], [0, 2], [0, 2], [0, 2], [0, 2], [0, 2], [0, 2], [0, 2], [0, 2], [1, 3], [1, 3], [1, 3, 7], [0, 1], [3], [7]] db ⟨fun _ _ _ _ _ _ => obl rfl (mV (Ix J 0) dR), fun _ _ _ _ _ _ => obl rfl (mV A dR), fun _ _ _ _ _ _ => obl rfl (mV (Iw k) dR), ?_, fun _ _ _ _ _ hH => obl rfl (yB (hH 3 dc) dR), ?_, fun _ _ _ _ _ _ => obl rfl (mV A dR), fun _ _ _ _ _ _ => obl rfl (mV (Iw k) dR), ?_, fun _ _ _ _ _ hI => obl rfl (xl (hI 8 dc) dR), ?_, ?_, ?_, ?_, ?_, ?_, ?_, fun _ _ _ _ _ hJ => obl rfl (ym (v := .bool ((zh d X (((c.getD k default).typ), ((c.getD k default).agg))).isSome)) (hJ 14 dc) dR), trivial⟩ ?_ (hlocA := yT ⟨dA, dA, dA, dA, dA, dA, dA, dA, dA, dA, dA, dT, fun vals p s h => fun g R => (s 12 (.inl rfl)).trans (h g ((s 11 (.inr dc)).symm.trans R)), fun vals p s h => fun g R => (s 13 (.inl rfl)).trans (h g ((s 11 (.inr dc)).symm.trans R)), dA, dT, dT, dA, trivial⟩)
 intro jX vals w206 hK dr aZ
 have bS : jX ∈ [0, 2] := hK
 simp only [List.mem_cons, List.not_mem_nil, or_false] at bS
 rcases bS with rfl | rfl
 have hS210 : Sep _ _ _ _ := dr
 refine obl rfl ?_
 have hL : k < c.length := bo
 exact ze (k := 10) (i := k) oT lT (aZ 1 dc) B.sl (aZ 2 dc) hL dR
 obtain ⟨y, K, hS214⟩ := dr
 refine obl rfl ?_
 have hM : k < c.length := bo
 exact ze (k := 10) (i := k) oT lT (aZ 1 dc) B.sl (aZ 2 dc) hM dR
 intro jY vals w225 hN ds dt
 have bT : jY ∈ [0, 2] := hN
 simp only [List.mem_cons, List.not_mem_nil, or_false] at bT
 rcases bT with rfl | rfl
 have hO : Sep _ _ _ _ := ds
 refine obl rfl ?_
 have eW := hO.cells aB (B.foot (ne_of_lt aV))
 exact lD (Iv ((c.getD k default).typ)) mT (dt 4 dc) (eW.get (j := 4) rfl) dR
 obtain ⟨y, K, hP⟩ := ds
 refine obl rfl ?_
 have eX := hP.cells aB (B.foot (ne_of_lt aV))
 exact lD (Iv ((c.getD k default).typ)) mT (dt 4 dc) (eX.get (j := 4) rfl) dR
 intro jZ vals w248 hQ du ba
 have bU : jZ ∈ [0, 2] := hQ
 simp only [List.mem_cons, List.not_mem_nil, or_false] at bU
 rcases bU with rfl | rfl
 have hS252 : Sep _ _ _ _ := du
 refine obl rfl ?_
 have hR : k < c.length := bo
 exact ze (k := 10) (i := k) oT lT (ba 6 dc) B.sl (ba 7 dc) hR dR
 obtain ⟨y, K, hS256⟩ := du
 refine obl rfl ?_
 have hS : k < c.length := bo
 exact ze (k := 10) (i := k) oT lT (ba 6 dc) B.sl (ba 7 dc) hS dR
 intro ka vals w267 hT dv dw
 have bV : ka ∈ [0, 2] := hT
 simp only [List.mem_cons, List.not_mem_nil, or_false] at bV
 rcases bV with rfl | rfl
 have hU : Sep _ _ _ _ := dv
 refine obl rfl ?_
 have eY := hU.cells aB (B.foot (ne_of_lt aV))
 exact lD (Iv ((c.getD k default).agg)) mT (dw 9 dc) (eY.get (j := 5) rfl) dR
 obtain ⟨y, K, hV⟩ := dv
 refine obl rfl ?_
 have eZ := hV.cells aB (B.foot (ne_of_lt aV))
 exact lD (Iv ((c.getD k default).agg)) mT (dw 9 dc) (eZ.get (j := 5) rfl) dR
 intro kb vals w280 hW dx au
 have bW : kb ∈ [0, 2] := hW
 simp only [List.mem_cons, List.not_mem_nil, or_false] at bW
 rcases bW with rfl | rfl
 have hY : Sep _ _ _ _ := dx
 refine obl rfl ((zV (f := 32) (vals := [Ix J 0, Iv ((c.getD k default).typ), Iv ((c.getD k default).agg)]) (cap := []) rfl (yH ⟨(au 0 dc), (au 5 dc), (au 10 dc), trivial⟩) oR (xw (ty := (c.getD k default).typ) (no := (c.getD k default).agg) ad.typ ad.agg hY) ?_))
 rintro _ w289 ⟨g, rfl, dy⟩
 have hZ := dy.r1
 have hr291s : _ * 32 ≤ _ := hZ.2
 exact fun p s O => ⟨(Exists.intro g (And.intro s dy)), trivial⟩
 obtain ⟨y, K, ia⟩ := dx
 refine obl rfl ((zV (f := 32) (vals := [Ix J 0, Iv ((c.getD k default).typ), Iv ((c.getD k default).agg)]) (cap := []) rfl (yH ⟨(au 0 dc), (au 5 dc), (au 10 dc), trivial⟩) oR (xw (ty := (c.getD k default).typ) (no := (c.getD k default).agg) ad.typ ad.agg (ia.mv1)) ?_))
 rintro _ w298 ⟨g, rfl, dz⟩
 have ib := dz.r1
 have hr300s : _ * 32 ≤ _ := ib.2
 exact fun p s O => ⟨(Exists.intro g (Exists.intro y (And.intro s (And.intro ((O 15 dc).trans K) (dz.mv2))))), trivial⟩
 intro kc vals w303 ic dB hA304
 have bX : kc ∈ [1, 3] := ic
 simp only [List.mem_cons, List.not_mem_nil, or_false] at bX
 rcases bX with rfl | rfl
 obtain ⟨g, D, hS307⟩ := dB
 refine obl rfl (zP (v := .tuple #[.agg ((ye d (((c.getD k default).typ), ((c.getD k default).agg)) X).cells g).toArray, .bool ((zh d X (((c.getD k default).typ), ((c.getD k default).agg))).isSome)]) D (fun p s O => ⟨rfl, ?_⟩))
 intro bD R
 rw [O 11 (by decide)] at R; cases D.symm.trans R
 exact s
 obtain ⟨g, y, D, K, hS308⟩ := dB
 refine obl rfl (zP (v := .tuple #[.agg ((ye d (((c.getD k default).typ), ((c.getD k default).agg)) X).cells g).toArray, .bool ((zh d X (((c.getD k default).typ), ((c.getD k default).agg))).isSome)]) D (fun p s O => ⟨rfl, ?_⟩))
 intro bD R
 rw [O 11 (by decide)] at R; cases D.symm.trans R
 exact s
 intro kd vals w310 id dC dD
 have bY : kd ∈ [1, 3] := id
 simp only [List.mem_cons, List.not_mem_nil, or_false] at bY
 rcases bY with rfl | rfl
 obtain ⟨g, D, hS314⟩ := dC
 let kU := (ye d (((c.getD k default).typ), ((c.getD k default).agg)) X).cells g
 have ke : vals 12 = (.tuple #[.agg kU.toArray, .bool ((zh d X (((c.getD k default).typ), ((c.getD k default).agg))).isSome)] : Value) := dD 12 dc g D
 refine obl rfl (zt (vs := [.agg kU.toArray, .bool ((zh d X (((c.getD k default).typ), ((c.getD k default).agg))).isSome)]) (i := 0) (v := .agg kU.toArray) ke rfl (fun p s O => ⟨rfl, ?_⟩))
 intro bD R
 rw [O 11 (by decide)] at R; cases D.symm.trans R
 exact s
 obtain ⟨g, y, D, K, hS316⟩ := dC
 let kV := (ye d (((c.getD k default).typ), ((c.getD k default).agg)) X).cells g
 have kf : vals 12 = (.tuple #[.agg kV.toArray, .bool ((zh d X (((c.getD k default).typ), ((c.getD k default).agg))).isSome)] : Value) := dD 12 dc g D
 refine obl rfl (zt (vs := [.agg kV.toArray, .bool ((zh d X (((c.getD k default).typ), ((c.getD k default).agg))).isSome)]) (i := 0) (v := .agg kV.toArray) kf rfl (fun p s O => ⟨rfl, ?_⟩))
 intro bD R
 rw [O 11 (by decide)] at R; cases D.symm.trans R
 exact s
 intro kg vals w319 ie bE bF
 have bZ : kg ∈ [1, 3, 7] := ie
 simp only [List.mem_cons, List.not_mem_nil, or_false] at bZ
 rcases bZ with rfl | rfl | rfl
 obtain ⟨g, D, hS323⟩ := bE
 let kY := (ye d (((c.getD k default).typ), ((c.getD k default).agg)) X).cells g
 have kh : vals 12 = (.tuple #[.agg kY.toArray, .bool ((zh d X (((c.getD k default).typ), ((c.getD k default).agg))).isSome)] : Value) := bF 12 dc g D
 exact obl rfl (zt (vs := [.agg kY.toArray, .bool ((zh d X (((c.getD k default).typ), ((c.getD k default).agg))).isSome)]) (i := 1) (v := .bool ((zh d X (((c.getD k default).typ), ((c.getD k default).agg))).isSome)) kh rfl dR)
 obtain ⟨g, y, D, K, hS325⟩ := bE
 let kZ := (ye d (((c.getD k default).typ), ((c.getD k default).agg)) X).cells g
 have ki : vals 12 = (.tuple #[.agg kZ.toArray, .bool ((zh d X (((c.getD k default).typ), ((c.getD k default).agg))).isSome)] : Value) := bF 12 dc g D
 exact obl rfl (zt (vs := [.agg kZ.toArray, .bool ((zh d X (((c.getD k default).typ), ((c.getD k default).agg))).isSome)]) (i := 1) (v := .bool ((zh d X (((c.getD k default).typ), ((c.getD k default).agg))).isSome)) ki rfl dR)
 obtain ⟨g, y, D, K, hS327⟩ := bE
 let la := (ye d (((c.getD k default).typ), ((c.getD k default).agg)) X).cells g
 have kj : vals 12 = (.tuple #[.agg la.toArray, .bool ((zh d X (((c.getD k default).typ), ((c.getD k default).agg))).isSome)] : Value) := bF 12 dc g D
 exact obl rfl (zt (vs := [.agg la.toArray, .bool ((zh d X (((c.getD k default).typ), ((c.getD k default).agg))).isSome)]) (i := 1) (v := .bool ((zh d X (((c.getD k default).typ), ((c.getD k default).agg))).isSome)) kj rfl dR)
 intro kk vals w330 ig dE hA331
 have ca : kk ∈ [0, 1] := ig
 simp only [List.mem_cons, List.not_mem_nil, or_false] at ca
 rcases ca with rfl | rfl
 have ih : Sep _ _ _ _ := dE
 refine obl rfl ((zr pR ?_))
 intro w337 y ii
 exact fun p s O => ⟨(Exists.intro y (And.intro s (ih.new ii))), trivial⟩
 obtain ⟨g, D, ij⟩ := dE
 refine obl rfl ((zr pR ?_))
 intro w342 y ik
 exact fun p s O => ⟨(Exists.intro g (Exists.intro y (And.intro ((O 11 dc).trans D) (And.intro s (ij.new ik))))), trivial⟩
 intro kl vals w345 il im io
 have cb : kl ∈ [3] := il
 simp only [List.mem_cons, List.not_mem_nil, or_false] at cb
 subst cb
 obtain ⟨g, y, D, K, bG⟩ := im
 let kW := (ye d (((c.getD k default).typ), ((c.getD k default).agg)) X).cells g
 refine obl rfl ?_
 have km : vals 13 = (.agg kW.toArray : Value) := io 13 dc g D
 have dF := bG.r2
 have hr353s : _ * 32 ≤ _ := dF.2
 refine (zp (v := .agg kW.toArray) (c' := kW.toArray) vR K km (bG.b0) (zW ⟨rfl, dF.1.one, trivial⟩) yqc rfl ?_)
 intro w351 ip
 exact fun p s O => ⟨(Exists.intro g (Exists.intro y (And.intro ((O 11 dc).trans D) (And.intro ((O 15 dc).trans K) (bG.pt0 ip))))), trivial⟩
 intro vals w361 iq ir
 obtain ⟨g, y, D, K, it⟩ := iq
 let lb := RwC g (stL d (((c.getD k default).typ), ((c.getD k default).agg)) X)
 let hv := Blk y ((ye d (((c.getD k default).typ), ((c.getD k default).agg)) X).cells g).toArray 68
 have kn := ir 17 dc
 refine zZ (kv := [(2, A), (3, Ix b2 0), (7, Ix J 0), (8, Iw k), (31, Iw k), (32, A), (33, Iw c.length), (34, .bool true), (37, Ix J 0), (38, A), (39, Iw k), (40, Ix (sb A) (so A + k * 10)), (41, .agg ((c.getD k default).cells (zy aA (sb A) (so A + k * 10 + 3))).toArray), (42, .agg ((ya d (zY d (c.take k)) (c.getD k default)).cells av).toArray), (9, Ix y 0), (10, .bool ((zh d X (((c.getD k default).typ), ((c.getD k default).agg))).isSome))]) ⟨rfl, rfl, rfl, rfl, rfl, rfl, rfl, rfl, rfl, rfl, rfl, rfl, rfl, rfl, (by exact K), (by exact kn), trivial⟩ (fun ρw361 => (zb (za (R0 fun _ => st (aS (Iv 0) (zb (za (R0 fun _ => st (mV (Ix J 0) (st (cL vY (yW  (it.mv1)) ?_)))))))))))
 rintro E bj ⟨_, rfl, dG⟩
 have iu := dG.r1
 have hr370s : _ * 120 ≤ _ := iu.2
 refine st (aS E (zb (za (za ?_))))
 obtain ⟨dd, iv, u, iw, dH⟩ := (dG.mv1).lend
 have L := RowE.rd iv
 have hrd378s : _ * 120 ≤ _ := L.small
 refine R0 fun _ => st (aS (Iv 0) (zb (zn (zX (fun mq σ N => ∃ (j : Nat) (cn : Nat) (ρ : Env), mq = X.length - j ∧ σ = yb ρ [(2, A), (3, Ix b2 0), (7, Ix J 0), (8, Iw k), (9, Ix y 0), (10, .bool ((zh d X (((c.getD k default).typ), ((c.getD k default).agg))).isSome)), (12, E), (13, Iw j), (11, Iw cn)] ∧ (j ≤ X.length) ∧ (cn = yd ((c.getD k default).typ, (c.getD k default).agg) (X.take j)) ∧ (cn ≤ j) ∧ Sep dd bj ((ViewO J d X X) :: (Blk y ((ye d (((c.getD k default).typ), ((c.getD k default).agg)) X).cells g).toArray 68) :: (RwC g (stL d (((c.getD k default).typ), ((c.getD k default).agg)) X)) :: (RwI av ((c.getD k default).deps)) :: (Blk b2 (d.cells dd0 dd1).toArray 25) :: Rs) N) ⟨0, 0, _, rfl, sSf, Nat.zero_le _, rfl, Nat.le_refl _, iw⟩ ?_))))
 rintro m380 σ381 ko ⟨j, cn, ρl2, rfl, rfl, hkj, hcn, hcl, ac⟩
 refine za (za (R0 fun _ => st (mV (Iw j) (st (mV E (st (zA (n := X.length) rT rfl L.sl (st (zD (k := .i64) (a := ((j : Nat) : Int)) (b := ((X.length : Nat) : Int)) rfl rfl (zb ?_))))))))))
 cases aD : decide (((j : Nat) : Int) < ((X.length : Nat) : Int))
 have hc383r := aD
 have aD := fD aD
 refine zi rfl (zU (zI (za (za (zw kr (st (mV (.bool ((zh d X (((c.getD k default).typ), ((c.getD k default).agg))).isSome)) (st (mV (Iw cn) (st (yM (k := .i64) (a := ((cn : Nat) : Int)) (b := 0) rfl rfl (st (Wm (a := (zh d X (((c.getD k default).typ), ((c.getD k default).agg))).isSome) (b := decide (0 < ((cn : Nat) : Int))) Tryd.underlying4 rfl rfl (st (mV (.bool (!(((zh d X (((c.getD k default).typ), ((c.getD k default).agg))).isSome) == (decide (0 < ((cn : Nat) : Int)))))) (stc (V := Ix y 0) rfl rfl (fun ix => ?_) ?_))))))))))))))))
 have iy := ix
 try simp only [zf] at iy
 exact Zm rfl ⟨rfl, rfl⟩
 refine stc (V := Iv ((ye d (((c.getD k default).typ), ((c.getD k default).agg)) X).ver)) rfl rfl (fun dI => ?_) ?_
 have iz := dI
 try simp only [zf] at iz
 exact lD (Iv ((ye d (((c.getD k default).typ), ((c.getD k default).agg)) X).ver)) mT (if_pos dI) (zd (ac.b1) rfl) ⟨rfl, rfl⟩
 refine stc (V := Iw cn) rfl rfl (fun iA => ?_) ?_
 have iB := iA
 try simp only [zf] at iB
 exact mV (Iw cn) ⟨rfl, rfl⟩
 refine stc (V := .bool (!decide (((ye d (((c.getD k default).typ), ((c.getD k default).agg)) X).ver) = ((cn : Nat) : Int)))) rfl rfl (fun bH => ?_) ?_
 have iC := bH
 try simp only [zf] at iC
 exact yh (k := .i64) (a := (ye d (((c.getD k default).typ), ((c.getD k default).agg)) X).ver) (b := ((cn : Nat) : Int)) (if_pos bH) (if_pos bH) ⟨rfl, rfl⟩
 refine st (zx (b := !(((zh d X (((c.getD k default).typ), ((c.getD k default).agg))).isSome) == (decide (0 < ((cn : Nat) : Int))))) (b' := !decide (((ye d (((c.getD k default).typ), ((c.getD k default).agg)) X).ver) = ((cn : Nat) : Int))) rfl (fun hbp => (if_pos hbp)) (st (mV (.bool ((!(((zh d X (((c.getD k default).typ), ((c.getD k default).agg))).isSome) == (decide (0 < ((cn : Nat) : Int))))) || (!decide (((ye d (((c.getD k default).typ), ((c.getD k default).agg)) X).ver) = ((cn : Nat) : Int))))) (stc (V := .bool ((zh d X (((c.getD k default).typ), ((c.getD k default).agg))).isSome)) rfl rfl (fun iD => ?_) ?_))))
 have iE := iD
 try simp only [zf] at iE
 exact mV (.bool ((zh d X (((c.getD k default).typ), ((c.getD k default).agg))).isSome)) ⟨rfl, rfl⟩
 refine stc (V := .bool (!((zh d X (((c.getD k default).typ), ((c.getD k default).agg))).isSome))) rfl rfl (fun dJ => ?_) ?_
 have iF := dJ
 try simp only [zf] at iF
 exact yc (a := (zh d X (((c.getD k default).typ), ((c.getD k default).agg))).isSome) (if_pos dJ) ⟨rfl, rfl⟩
 refine stc (V := .bool (!((zh d X (((c.getD k default).typ), ((c.getD k default).agg))).isSome))) rfl rfl (fun dK => ?_) ?_
 have iG := dK
 try simp only [zf] at iG
 exact zP (v := .bool (!((zh d X (((c.getD k default).typ), ((c.getD k default).agg))).isSome))) (if_pos dK) ⟨rfl, rfl⟩
 refine yz (V := Ix y 1) rfl rfl (fun dL => ?_) ?_
 have iH := dL.1
 try simp only [zf] at iH
 have iI := dL.2
 try simp only [zf] at iI
 exact yw rfl ⟨rfl, rfl⟩
 refine yz (V := g) rfl rfl (fun bb => ?_) ?_
 have iJ := bb.1
 try simp only [zf] at iJ
 have iK := bb.2
 try simp only [zf] at iK
 exact lD g wT (if_pos ⟨bb.1, bb.2⟩) (zd (ac.b1) rfl) ⟨rfl, rfl⟩
 refine yz (V := Iw ((stL d (((c.getD k default).typ), ((c.getD k default).agg)) X).length)) rfl rfl (fun bc => ?_) ?_
 have iL := bc.1
 try simp only [zf] at iL
 have iM := bc.2
 try simp only [zf] at iM
 have dM := ac.r2
 have hr407s : _ * 32 ≤ _ := dM.2
 exact zA (n := (stL d (((c.getD k default).typ), ((c.getD k default).agg)) X).length) lR (if_pos ⟨bc.1, bc.2⟩) dM.1 ⟨rfl, rfl⟩
 refine yz (V := .bool (decide (0 < (((stL d (((c.getD k default).typ), ((c.getD k default).agg)) X).length : Nat) : Int)))) rfl rfl (fun bd => ?_) ?_
 have iN := bd.1
 try simp only [zf] at iN
 have iO := bd.2
 try simp only [zf] at iO
 exact yM (k := .i64) (a := (((stL d (((c.getD k default).typ), ((c.getD k default).agg)) X).length : Nat) : Int)) (b := 0) (if_pos ⟨bd.1, bd.2⟩) rfl ⟨rfl, rfl⟩
 refine stc (V := .bool ((!((zh d X (((c.getD k default).typ), ((c.getD k default).agg))).isSome)) && (decide (0 < (((stL d (((c.getD k default).typ), ((c.getD k default).agg)) X).length : Nat) : Int))))) rfl rfl (fun bI => ?_) ?_
 have iP := bI
 try simp only [zf] at iP
 exact zo (b := !((zh d X (((c.getD k default).typ), ((c.getD k default).agg))).isSome)) (b' := decide (0 < (((stL d (((c.getD k default).typ), ((c.getD k default).agg)) X).length : Nat) : Int))) (if_pos bI) (fun hbp => (if_pos ⟨bI, hbp⟩)) ⟨rfl, rfl⟩
 refine st (zx (b := (!(((zh d X (((c.getD k default).typ), ((c.getD k default).agg))).isSome) == (decide (0 < ((cn : Nat) : Int))))) || (!decide (((ye d (((c.getD k default).typ), ((c.getD k default).agg)) X).ver) = ((cn : Nat) : Int)))) (b' := (!((zh d X (((c.getD k default).typ), ((c.getD k default).agg))).isSome)) && (decide (0 < (((stL d (((c.getD k default).typ), ((c.getD k default).agg)) X).length : Nat) : Int)))) rfl (fun hbp => (if_pos hbp)) ?_)
 have fa : (((!(((zh d X (((c.getD k default).typ), ((c.getD k default).agg))).isSome) == (decide (0 < ((cn : Nat) : Int))))) || (!decide (((ye d (((c.getD k default).typ), ((c.getD k default).agg)) X).ver) = ((cn : Nat) : Int)))) || ((!((zh d X (((c.getD k default).typ), ((c.getD k default).agg))).isSome)) && (decide (0 < (((stL d (((c.getD k default).typ), ((c.getD k default).agg)) X).length : Nat) : Int))))) = false := (Jn (hcn.trans (by rw [List.take_of_length_le (by omega)])))
 rw [fa]
 refine zb (zi rfl (zk (za (za (R0 fun _ => st (mV (.bool ((zh d X (((c.getD k default).typ), ((c.getD k default).agg))).isSome)) (st (yc (a := (zh d X (((c.getD k default).typ), ((c.getD k default).agg))).isSome) rfl (zb ?_)))))))))
 cases bJ : !((zh d X (((c.getD k default).typ), ((c.getD k default).agg))).isSome)
 have fb := bJ
 try simp only [zf] at bJ
 have dN := ac.r2
 have hr415s : _ * 32 ≤ _ := dN.2
 have jM := KH fb
 have hty := Uq (c.take (k + 1)) (by rw [← bC]; exact jM)
 have jN : stL d ((c.getD k default).typ, (c.getD k default).agg) X = zT d ((c.getD k default).typ, (c.getD k default).agg) X := if_neg jM
 have fc : Right (xB d (c.getD k default).typ) (stL d ((c.getD k default).typ, (c.getD k default).agg) X) := by rw [jN, bC]; exact Inv.run hdo _ _ _ hty.1 hty.2
 have kO : Led (xB d (c.getD k default).typ) (stL d ((c.getD k default).typ, (c.getD k default).agg) X) := by rw [jN, bC]; exact InvL.run _ _ _
 have kP : (stL d ((c.getD k default).typ, (c.getD k default).agg) X).length = ((d.types.getD (c.getD k default).typ.toNat default).fields).length := fc.len
 refine zi rfl (zk (za (za ?_)))
 refine WD4 (WF [fun vals N => Sep dd bj ((ViewO J d X X) :: hv :: lb :: kT :: kN :: Rs) N]) (AF [Vl 0 (Ix y 1), Vl 1 (g), Vl 2 (Iw ((stL d (((c.getD k default).typ), ((c.getD k default).agg)) X).length)), Vl 3 (Ix b2 0), Vl 4 (dd0), Vl 5 (A), Vl 6 (Iw k), Vl 7 kX, Vl 8 (Ix (sb A) (so A + k * 10 + 4)), Vl 9 (Iv ((c.getD k default).typ)), Vl 10 kS, Vl 11 kS, Vl 12 ((zy bj (sb dd0) (so dd0 + (((c.getD k default).typ).toNat) * 1 + 0))), Vl 13 (Iw (((d.types.getD (((c.getD k default).typ).toNat) default).fields).length)), Vl 14 (.bool false)]) [[], [0], [0, 1], [], [3], [], [], [5, 6], [5, 6, 7], [5, 6, 7, 8], [3, 4, 5, 6, 7, 8, 9], [3, 4, 5, 6, 7, 8, 9, 10], [3, 4, 5, 6, 7, 8, 9, 10, 11], [3, 4, 5, 6, 7, 8, 9, 10, 11, 12], (rg 14)] [] [(0, 0), (0, 0), (0, 0), (0, 0), (0, 0), (0, 0), (0, 0), (0, 0), (0, 0), (0, 0), (0, 0), (0, 0), (0, 0), (0, 0), (0, 0)] ac ⟨fun _ _ _ _ _ _ _ => obl rfl (yw rfl dR), ob1 0 fun _ _ (iQ : Sep _ _ _ _) iR => obl rfl (lD g wT (iR 0 dc) (zd (iQ.b1) rfl) dR), ob1 0 fun _ _ _ iS => obl rfl (zA (n := (stL d (((c.getD k default).typ), ((c.getD k default).agg)) X).length) lR (iS 1 dc) dN.1 dR), fun _ _ _ _ _ _ _ => obl rfl (yn rfl dR), ob1 0 fun _ _ (iT : Sep _ _ _ _) iU => obl rfl (lD dd0 wR (iU 3 dc) (zd (iT.b4) rfl) dR), fun _ _ _ _ _ _ _ => obl rfl (mV A dR), fun _ _ _ _ _ _ _ => obl rfl (mV (Iw k) dR), ?_, fun _ _ _ _ _ _ iV => obl rfl (yB (iV 7 dc) dR), ?_, ?_, fun _ _ _ _ _ _ iW => obl rfl (yv (iW 10 dc) dR), ?_, ?_, ?_, trivial⟩ ?_
 refine ob1 0 fun _ _ _ dO => (obl rfl ?_)
 have iX : k < c.length := bo
 exact ze (k := 10) (i := k) oT lT (dO 5 dc) (RdS.base B u).sl (dO 6 dc) iX dR
 refine ob1 0 fun _ _ (iY : Sep _ _ _ _) iZ => (obl rfl ?_)
 have dP : k < c.length := bo
 obtain ⟨fd, de, hoke617⟩ := (RdS.base B u).evD dP
 have hsm619 : ((c.getD k default).deps).length * 8 ≤ 140737488355328 := de.small
 have fe := iY.cells fd ((RdS.base B u).foot (ne_of_lt dP))
 exact lD (Iv ((c.getD k default).typ)) mT (iZ 8 dc) (fe.get (j := 4) rfl) dR
 refine ob1 0 fun _ _ _ dQ => (obl rfl ?_)
 have hi630 : ((c.getD k default).typ).toNat < d.types.length := bo
 exact zq (k := 1) (i := (c.getD k default).typ) lY mY (dQ 4 dc) (RdS.base (RdS.base hdd0 F) u).sl (dQ 9 dc) ⟨by omega, by omega⟩ dR
 refine ob1 0 fun _ _ (ja : Sep _ _ _ _) jb => (obl rfl ?_)
 have dS : ((c.getD k default).typ).toNat < d.types.length := bo
 obtain ⟨ff, df, hoke646⟩ := (RdS.base (RdS.base hdd0 F) u).typD dS
 have hsm648 : ((d.types.getD (((c.getD k default).typ).toNat) default).fields).length * 48 ≤ 140737488355328 := df.small
 have fg := ja.cells ff ((RdS.base (RdS.base hdd0 F) u).foot (ne_of_lt dS))
 exact lD (zy bj (sb dd0) (so dd0 + (((c.getD k default).typ).toNat) * 1 + 0)) nY (jb 11 dc) (fg.get (j := 0) rfl) dR
 refine ob1 0 fun _ _ (jc : Sep _ _ _ _) jd => (obl rfl ?_)
 have dU : ((c.getD k default).typ).toNat < d.types.length := bo
 obtain ⟨fh, bk, hoke658⟩ := (RdS.base (RdS.base hdd0 F) u).typD dU
 have hsm660 : ((d.types.getD (((c.getD k default).typ).toNat) default).fields).length * 48 ≤ 140737488355328 := bk.small
 have hcw661 := jc.cells fh ((RdS.base (RdS.base hdd0 F) u).foot (ne_of_lt dU))
 exact zA (n := ((d.types.getD (((c.getD k default).typ).toNat) default).fields).length) oY (jd 12 dc) bk.sl dR
 refine ob1 0 fun _ _ _ dV => (obl rfl ?_)
 have je : (!decide ((((stL d (((c.getD k default).typ), ((c.getD k default).agg)) X).length : Nat) : Int) = ((((d.types.getD (((c.getD k default).typ).toNat) default).fields).length : Nat) : Int))) = false := (by rw [kP]; simp)
 exact yh (k := .i64) (a := (((stL d (((c.getD k default).typ), ((c.getD k default).agg)) X).length : Nat) : Int)) (b := ((((d.types.getD (((c.getD k default).typ).toNat) default).fields).length : Nat) : Int)) (dV 2 dc) (dV 13 dc) (fun p s _ => ⟨rfl, s.trans (congrArg Value.bool je)⟩)
 intro vals t jf jg
 let ex := zy t (sb dd0) (so dd0 + (((c.getD k default).typ).toNat) * 1 + 0)
 have jh : Sep _ _ _ _ := jf
 have kp := jg 14 dc
 refine zZ (kv := [(2, A), (3, Ix b2 0), (7, Ix J 0), (8, Iw k), (9, Ix y 0), (10, .bool ((zh d X (((c.getD k default).typ), ((c.getD k default).agg))).isSome)), (12, E), (13, Iw j), (11, Iw cn), (60, Iw j), (61, E), (62, Iw X.length), (63, .bool false), (102, .bool ((zh d X (((c.getD k default).typ), ((c.getD k default).agg))).isSome)), (103, Iw cn), (104, .bool (decide (0 < ((cn : Nat) : Int)))), (105, .bool (!(((zh d X (((c.getD k default).typ), ((c.getD k default).agg))).isSome) == (decide (0 < ((cn : Nat) : Int)))))), (106, .bool (!(((zh d X (((c.getD k default).typ), ((c.getD k default).agg))).isSome) == (decide (0 < ((cn : Nat) : Int)))))), (111, .bool ((!(((zh d X (((c.getD k default).typ), ((c.getD k default).agg))).isSome) == (decide (0 < ((cn : Nat) : Int))))) || (!decide (((ye d (((c.getD k default).typ), ((c.getD k default).agg)) X).ver) = ((cn : Nat) : Int))))), (112, .bool ((!(((zh d X (((c.getD k default).typ), ((c.getD k default).agg))).isSome) == (decide (0 < ((cn : Nat) : Int))))) || (!decide (((ye d (((c.getD k default).typ), ((c.getD k default).agg)) X).ver) = ((cn : Nat) : Int))))), (121, .bool false), (122, .bool ((zh d X (((c.getD k default).typ), ((c.getD k default).agg))).isSome)), (123, .bool false), (138, .bool false)]) ⟨rfl, rfl, rfl, rfl, rfl, rfl, rfl, rfl, rfl, rfl, rfl, rfl, rfl, rfl, rfl, rfl, rfl, rfl, rfl, rfl, rfl, rfl, rfl, (by exact kp), trivial⟩ (fun ρw672 => ?_)
 refine zb (zi rfl (zk (za ?_)))
 obtain ⟨aw, ji, C, jj, jk⟩ := (jh.mv2).lend
 have ae := RowE.rd ji
 have hrd684s : _ * 32 ≤ _ := ae.small
 refine R0 fun _ => st (aS (Iv 0) (zb (zn (zX (fun mq σ N => ∃ (i : Nat) (ρ : Env), mq = (stL d ((c.getD k default).typ, (c.getD k default).agg) X).length - i ∧ σ = yb ρ [(2, A), (3, Ix b2 0), (7, Ix J 0), (8, Iw k), (9, Ix y 0), (14, Iw i)] ∧ (i ≤ (stL d ((c.getD k default).typ, (c.getD k default).agg) X).length) ∧ Sep aw t ((ViewO J d X X) :: (Blk y ((ye d (((c.getD k default).typ), ((c.getD k default).agg)) X).cells g).toArray 68) :: (RwI av ((c.getD k default).deps)) :: (Blk b2 (d.cells dd0 dd1).toArray 25) :: Rs) N) ⟨0, _, rfl, sSf, Nat.zero_le _, jj⟩ ?_))))
 rintro m686 σ687 kq ⟨i, ρl3, rfl, rfl, hki, bK⟩
 let kQ := zy t (sb ex) (so ex + i * 4 + 3)
 let kR := (((d.types.getD (((c.getD k default).typ).toNat) default).fields).getD i default).cells kQ
 let ey := zy t (sb g) (so g + i * 2 + 1)
 let kL := ((stL d (((c.getD k default).typ), ((c.getD k default).agg)) X).getD i default).cells ey
 refine za (za (R0 fun _ => st (mV (Iw i) (st (yw rfl (st (lD g wT rfl (zd (bK.b1) rfl) (st (zA (n := (stL d (((c.getD k default).typ), ((c.getD k default).agg)) X).length) lR rfl ae.sl (st (zD (k := .i64) (a := ((i : Nat) : Int)) (b := (((stL d (((c.getD k default).typ), ((c.getD k default).agg)) X).length : Nat) : Int)) rfl rfl (zb ?_))))))))))))
 cases aE : decide (((i : Nat) : Int) < (((stL d (((c.getD k default).typ), ((c.getD k default).agg)) X).length : Nat) : Int))
 have hc689r := aE
 have aE := fD aE
 refine zi rfl (zU (zI (R0 fun _ => st (mV (Iw k) ?_))))
 have jl : InR ((k + 1 : Nat) : Int) := bo
 refine st (zH (r := ((k + 1 : Nat) : Int)) (k := .i64) (a := ((k : Nat) : Int)) (b := 1) rfl rfl (by rw [show (((k : Nat) : Int) + 1 : Int) = ((k + 1 : Nat) : Int) from bo]; exact zz jl) (st (aS (Iw (k + 1)) (zb ?_))))
 have jm := jk _ _ bK
 have jn := dH _ _ jm
 have dW : Sep aX aA ((ViewO J d X X) :: kN :: Rs) kq := jn.sel 6 [2, 5] (Nat.le_add_left _ _) rfl rfl
 have jo : (zY d (c.take (k + 1))) = X := bC.symm
 rw [← jo] at dW
 exact ⟨_, by omega, k + 1, _, rfl, sSf, by omega, dW⟩
 have aE := tD aE
 have hil : i < ((d.types.getD (c.getD k default).typ.toNat default).fields).length := by omega
 refine zj rfl (zk (za (zn (za ?_))))
 refine WD4 ((fun TT aC => WF [fun vals N => Sep aw t (aC :: TT) N, fun vals N => ∃ (I : Nat), (vals 13 = (Ix I 0 : Value)) ∧ Sep aw t ((Blk I #[Iv 0, Iv 0, .bool false, (Iz)] 79) :: aC :: TT) N, fun vals N => ∃ (I : Nat), (vals 13 = (Ix I 0 : Value)) ∧ Sep aw t ((Blk I kR.toArray 79) :: aC :: TT) N]) (hv :: kT :: kN :: Rs) (ViewO J d X X)) (AF [Vl 0 (Ix b2 0), Vl 1 (dd0), Vl 2 (A), Vl 3 (Iw k), Vl 4 kX, Vl 5 (Ix (sb A) (so A + k * 10 + 4)), Vl 6 (Iv ((c.getD k default).typ)), Vl 7 kS, Vl 8 kS, Vl 9 (ex), Vl 10 (Iw i), Vl 11 (Ix (sb ex) (so ex + i * 4)), Vl 12 (.agg kR.toArray), fun _ => True, fun _ => True]) [[], [0], [], [], [2, 3], [2, 3, 4], [2, 3, 4, 5], (rg 7), (rg 8), (rg 9), [], (rg 11), (rg 12), [], (rg 14)] [13, 14] [(0, 1), (0, 1), (0, 1), (0, 1), (0, 1), (0, 1), (0, 1), (0, 1), (0, 1), (0, 1), (0, 1), (0, 1), (0, 1), (0, 0), (1, 1)] bK ⟨fun _ _ _ _ _ _ _ => obl rfl (yn rfl dR), ?_, fun _ _ _ _ _ _ _ => obl rfl (mV A dR), fun _ _ _ _ _ _ _ => obl rfl (mV (Iw k) dR), ?_, fun _ _ _ _ _ _ jp => obl rfl (yB (jp 4 dc) dR), ?_, ?_, fun _ _ _ _ _ _ jq => obl rfl (yv (jq 7 dc) dR), ?_, fun _ _ _ _ _ _ _ => obl rfl (mV (Iw i) dR), ?_, ?_, ?_, ?_, trivial⟩ ?_
 refine fun bL _ _ ks kt dX dY => ?_
 have hkk : bL = 0 ∨ bL = 1 := by have h1 : 0 ≤ bL := ks; have h2 : bL ≤ 1 := kt; omega
 rcases hkk with rfl | rfl
 have jr : Sep _ _ _ _ := dX
 exact obl rfl (lD dd0 wR (dY 0 dc) (zd (jr.b3) rfl) dR)
 obtain ⟨I, P, js⟩ := dX
 exact obl rfl (lD dd0 wR (dY 0 dc) (zd (js.b4) rfl) dR)
 refine fun bM _ _ ku kw dZ be => ?_
 have hkk : bM = 0 ∨ bM = 1 := by have h1 : 0 ≤ bM := ku; have h2 : bM ≤ 1 := kw; omega
 rcases hkk with rfl | rfl
 have hS880 : Sep _ _ _ _ := dZ
 refine obl rfl ?_
 have jt : k < c.length := bo
 exact ze (k := 10) (i := k) oT lT (be 2 dc) (RdS.base (RdS.base B u) C).sl (be 3 dc) jt dR
 obtain ⟨I, P, hS884⟩ := dZ
 refine obl rfl ?_
 have ju : k < c.length := bo
 exact ze (k := 10) (i := k) oT lT (be 2 dc) (RdS.base (RdS.base B u) C).sl (be 3 dc) ju dR
 refine fun bN _ _ kA kB ea eb => ?_
 have hkk : bN = 0 ∨ bN = 1 := by have h1 : 0 ≤ bN := kA; have h2 : bN ≤ 1 := kB; omega
 rcases hkk with rfl | rfl
 have jv : Sep _ _ _ _ := ea
 refine obl rfl ?_
 have ec : k < c.length := bo
 obtain ⟨fi, dg, hoke903⟩ := (RdS.base (RdS.base B u) C).evD ec
 have hsm905 : ((c.getD k default).deps).length * 8 ≤ 140737488355328 := dg.small
 have fj := jv.cells fi ((RdS.base (RdS.base B u) C).foot (ne_of_lt ec))
 exact lD (Iv ((c.getD k default).typ)) mT (eb 5 dc) (fj.get (j := 4) rfl) dR
 obtain ⟨I, P, jw⟩ := ea
 refine obl rfl ?_
 have ed : k < c.length := bo
 obtain ⟨fk, dh, hoke909⟩ := (RdS.base (RdS.base B u) C).evD ed
 have hsm911 : ((c.getD k default).deps).length * 8 ≤ 140737488355328 := dh.small
 have fl := jw.cells fk ((RdS.base (RdS.base B u) C).foot (ne_of_lt ed))
 exact lD (Iv ((c.getD k default).typ)) mT (eb 5 dc) (fl.get (j := 4) rfl) dR
 refine fun bO _ _ kC kD ee bf => ?_
 have hkk : bO = 0 ∨ bO = 1 := by have h1 : 0 ≤ bO := kC; have h2 : bO ≤ 1 := kD; omega
 rcases hkk with rfl | rfl
 have hS919 : Sep _ _ _ _ := ee
 refine obl rfl ?_
 have hi922 : ((c.getD k default).typ).toNat < d.types.length := bo
 exact zq (k := 1) (i := (c.getD k default).typ) lY mY (bf 1 dc) (RdS.base (RdS.base (RdS.base hdd0 F) u) C).sl (bf 6 dc) ⟨by omega, by omega⟩ dR
 obtain ⟨I, P, hS923⟩ := ee
 refine obl rfl ?_
 have hi926 : ((c.getD k default).typ).toNat < d.types.length := bo
 exact zq (k := 1) (i := (c.getD k default).typ) lY mY (bf 1 dc) (RdS.base (RdS.base (RdS.base hdd0 F) u) C).sl (bf 6 dc) ⟨by omega, by omega⟩ dR
 refine fun bP _ _ kE kF ef eg => ?_
 have hkk : bP = 0 ∨ bP = 1 := by have h1 : 0 ≤ bP := kE; have h2 : bP ≤ 1 := kF; omega
 rcases hkk with rfl | rfl
 have jx : Sep _ _ _ _ := ef
 refine obl rfl ?_
 have eh : ((c.getD k default).typ).toNat < d.types.length := bo
 obtain ⟨fm, di, hoke942⟩ := (RdS.base (RdS.base (RdS.base hdd0 F) u) C).typD eh
 have hsm944 : ((d.types.getD (((c.getD k default).typ).toNat) default).fields).length * 48 ≤ 140737488355328 := di.small
 have fn := jx.cells fm ((RdS.base (RdS.base (RdS.base hdd0 F) u) C).foot (ne_of_lt eh))
 exact lD ex nY (eg 8 dc) (fn.get (j := 0) rfl) dR
 obtain ⟨I, P, jy⟩ := ef
 refine obl rfl ?_
 have ei : ((c.getD k default).typ).toNat < d.types.length := bo
 obtain ⟨fo, dj, hoke948⟩ := (RdS.base (RdS.base (RdS.base hdd0 F) u) C).typD ei
 have hsm950 : ((d.types.getD (((c.getD k default).typ).toNat) default).fields).length * 48 ≤ 140737488355328 := dj.small
 have fp := jy.cells fo ((RdS.base (RdS.base (RdS.base hdd0 F) u) C).foot (ne_of_lt ei))
 exact lD ex nY (eg 8 dc) (fp.get (j := 0) rfl) dR
 refine fun bQ _ _ kG kH ej bg => ?_
 have hkk : bQ = 0 ∨ bQ = 1 := by have h1 : 0 ≤ bQ := kG; have h2 : bQ ≤ 1 := kH; omega
 rcases hkk with rfl | rfl
 have jz : Sep _ _ _ _ := ej
 refine obl rfl ?_
 have ek : ((c.getD k default).typ).toNat < d.types.length := bo
 obtain ⟨fq, bl, hoke967⟩ := (RdS.base (RdS.base (RdS.base hdd0 F) u) C).typD ek
 have hsm969 : ((d.types.getD (((c.getD k default).typ).toNat) default).fields).length * 48 ≤ 140737488355328 := bl.small
 have hcw970 := jz.cells fq ((RdS.base (RdS.base (RdS.base hdd0 F) u) C).foot (ne_of_lt ek))
 have jA : i < ((d.types.getD (((c.getD k default).typ).toNat) default).fields).length := bo
 exact ze (k := 4) (i := i) oY mR (bg 9 dc) bl.sl (bg 10 dc) jA dR
 obtain ⟨I, P, jB⟩ := ej
 refine obl rfl ?_
 have el : ((c.getD k default).typ).toNat < d.types.length := bo
 obtain ⟨fr, bm, hoke975⟩ := (RdS.base (RdS.base (RdS.base hdd0 F) u) C).typD el
 have hsm977 : ((d.types.getD (((c.getD k default).typ).toNat) default).fields).length * 48 ≤ 140737488355328 := bm.small
 have hcw978 := jB.cells fr ((RdS.base (RdS.base (RdS.base hdd0 F) u) C).foot (ne_of_lt el))
 have jC : i < ((d.types.getD (((c.getD k default).typ).toNat) default).fields).length := bo
 exact ze (k := 4) (i := i) oY mR (bg 9 dc) bm.sl (bg 10 dc) jC dR
 refine fun bR _ _ kI kJ em en => ?_
 have hkk : bR = 0 ∨ bR = 1 := by have h1 : 0 ≤ bR := kI; have h2 : bR ≤ 1 := kJ; omega
 rcases hkk with rfl | rfl
 have eo : Sep _ _ _ _ := em
 refine obl rfl ?_
 have er : ((c.getD k default).typ).toNat < d.types.length := bo
 obtain ⟨fs, ax, hoke989⟩ := (RdS.base (RdS.base (RdS.base hdd0 F) u) C).typD er
 have hsm991 : ((d.types.getD (((c.getD k default).typ).toNat) default).fields).length * 48 ≤ 140737488355328 := ax.small
 have hcw992 := eo.cells fs ((RdS.base (RdS.base (RdS.base hdd0 F) u) C).foot (ne_of_lt er))
 have es : i < ((d.types.getD (((c.getD k default).typ).toNat) default).fields).length := bo
 obtain ⟨ft, dk, hoke988⟩ := ax.fldD es
 have hsm994 : ((((d.types.getD (((c.getD k default).typ).toNat) default).fields).getD i default).moves).length * 32 ≤ 140737488355328 := dk.small
 have fu := eo.cells ft (ax.foot (ne_of_lt es))
 exact zg (k := 4) pY mR rfl (en 11 dc) fu dR
 obtain ⟨I, P, et⟩ := em
 refine obl rfl ?_
 have cc : ((c.getD k default).typ).toNat < d.types.length := bo
 obtain ⟨fv, ay, hoke999⟩ := (RdS.base (RdS.base (RdS.base hdd0 F) u) C).typD cc
 have hsm1001 : ((d.types.getD (((c.getD k default).typ).toNat) default).fields).length * 48 ≤ 140737488355328 := ay.small
 have hcw1002 := et.cells fv ((RdS.base (RdS.base (RdS.base hdd0 F) u) C).foot (ne_of_lt cc))
 have cd : i < ((d.types.getD (((c.getD k default).typ).toNat) default).fields).length := bo
 obtain ⟨fw, dl, hoke998⟩ := ay.fldD cd
 have hsm1004 : ((((d.types.getD (((c.getD k default).typ).toNat) default).fields).getD i default).moves).length * 32 ≤ 140737488355328 := dl.small
 have ez := et.cells fw (ay.foot (ne_of_lt cd))
 exact zg (k := 4) pY mR rfl (en 11 dc) ez dR
 refine ob1 0 fun _ _ (jD : Sep _ _ _ _) _ => (obl rfl ((zr Tryd.zeroValue79 ?_)))
 intro w824 I jE
 exact fun p s O => ⟨(Exists.intro I (And.intro s (jD.new jE))), trivial⟩
 refine ob1 1 fun _ _ jF jG => ?_
 obtain ⟨I, P, bh⟩ := jF
 refine obl rfl ?_
 have eu : ((c.getD k default).typ).toNat < d.types.length := bo
 obtain ⟨fx, az, hoke838⟩ := (RdS.base (RdS.base (RdS.base hdd0 F) u) C).typD eu
 have hsm840 : ((d.types.getD (((c.getD k default).typ).toNat) default).fields).length * 48 ≤ 140737488355328 := az.small
 have hcw841 := bh.cells fx ((RdS.base (RdS.base (RdS.base hdd0 F) u) C).foot (ne_of_lt eu))
 have ew : i < ((d.types.getD (((c.getD k default).typ).toNat) default).fields).length := bo
 obtain ⟨fy, bn, hoke837⟩ := az.fldD ew
 have hsm843 : ((((d.types.getD (((c.getD k default).typ).toNat) default).fields).getD i default).moves).length * 32 ≤ 140737488355328 := bn.small
 have hcw844 := bh.cells fy (az.foot (ne_of_lt ew))
 refine (zp (v := .agg kR.toArray) (c' := kR.toArray) mR P (jG 12 dc) (bh.b0) (zW ⟨rfl, rfl, rfl, bn.sl.one, trivial⟩) yqc rfl ?_)
 intro w835 jH
 exact fun p s O => ⟨(Exists.intro I (And.intro ((O 13 dc).trans P) (bh.pt0 jH))), trivial⟩
 intro vals w1006 fz hA1008
 obtain ⟨I, P, bp⟩ := fz
 refine zZ (kv := [(2, A), (3, Ix b2 0), (7, Ix J 0), (8, Iw k), (9, Ix y 0), (14, Iw i), (139, Iw i), (140, Ix y 1), (141, g), (142, Iw ((stL d (((c.getD k default).typ), ((c.getD k default).agg)) X).length)), (143, .bool true), (15, Ix I 0)]) ⟨rfl, rfl, rfl, rfl, rfl, rfl, rfl, rfl, rfl, rfl, rfl, (by exact P), trivial⟩ (fun ρw1006 => (zb (za (R0 fun _ => st (yw rfl (st (lD g wT rfl (zd (bp.b2) rfl) (st (mV (Iw i) ?_)))))))))
 have fA : i < (stL d (((c.getD k default).typ), ((c.getD k default).agg)) X).length := bo
 refine st (ze (k := 2) (i := i) lR qR rfl ae.sl rfl fA ?_)
 have ce : i < (stL d (((c.getD k default).typ), ((c.getD k default).agg)) X).length := bo
 obtain ⟨eA, H, dm⟩ := ae.celD ce
 have hsm1013 : (((stL d (((c.getD k default).typ), ((c.getD k default).agg)) X).getD i default).set).length * 8 ≤ 140737488355328 := H.small
 have eB := bp.cells eA (ae.foot (ne_of_lt ce))
 refine st (zg (k := 2) Tryd.isAgg42 qR rfl rfl eB (st (zr Tryd.zeroValue42 ?_)))
 intro w1017 M fB
 have cf := bp.new fB
 refine stn (zp (v := .agg kL.toArray) (c' := kL.toArray) qR rfl rfl (cf.b0) (zW ⟨rfl, H.sl.one, trivial⟩) yqc rfl ?_)
 intro w1019 fC
 have Q := cf.pt0 fC
 refine zb (za (za (zw kr (st (Xk rfl (st (lD (.bool ((((d.types.getD (((c.getD k default).typ).toNat) default).fields).getD i default).floor)) uT rfl (zd (Q.b1) rfl) (st (mV (.bool ((((d.types.getD (((c.getD k default).typ).toNat) default).fields).getD i default).floor)) (stc (V := Ix M 0) rfl rfl (fun hb1022 => ?_) ?_))))))))))
 exact yL rfl ⟨rfl, rfl⟩
 refine stc (V := Iv (((stL d (((c.getD k default).typ), ((c.getD k default).agg)) X).getD i default).n)) rfl rfl (fun fE => ?_) ?_
 exact lD (Iv (((stL d (((c.getD k default).typ), ((c.getD k default).agg)) X).getD i default).n)) mT (if_pos fE) (zd (Q.b0) rfl) ⟨rfl, rfl⟩
 refine stc (V := .bool (decide ((((stL d (((c.getD k default).typ), ((c.getD k default).agg)) X).getD i default).n) < 0))) rfl rfl (fun fF => ?_) ?_
 exact zD (k := .i64) (a := ((stL d (((c.getD k default).typ), ((c.getD k default).agg)) X).getD i default).n) (b := 0) (if_pos fF) rfl ⟨rfl, rfl⟩
 refine st (zo (b := (((d.types.getD (((c.getD k default).typ).toNat) default).fields).getD i default).floor) (b' := decide ((((stL d (((c.getD k default).typ), ((c.getD k default).agg)) X).getD i default).n) < 0)) rfl (fun hbp => (if_pos hbp)) (st (mV (.bool (((((d.types.getD (((c.getD k default).typ).toNat) default).fields).getD i default).floor) && (decide ((((stL d (((c.getD k default).typ), ((c.getD k default).agg)) X).getD i default).n) < 0)))) (stc (V := Ix I 0) rfl rfl (fun fG => ?_) ?_))))
 have fH := fG
 try simp only [zf] at fH
 exact yX rfl ⟨rfl, rfl⟩
 refine stc (V := Iv ((((d.types.getD (((c.getD k default).typ).toNat) default).fields).getD i default).kind)) rfl rfl (fun cg => ?_) ?_
 have fI := cg
 try simp only [zf] at fI
 exact lD (Iv ((((d.types.getD (((c.getD k default).typ).toNat) default).fields).getD i default).kind)) mT (if_pos cg) (zd (Q.b1) rfl) ⟨rfl, rfl⟩
 refine stc (V := .bool (decide (((((d.types.getD (((c.getD k default).typ).toNat) default).fields).getD i default).kind) = 4))) rfl rfl (fun ch => ?_) ?_
 have fJ := ch
 try simp only [zf] at fJ
 exact zF (k := .i64) (a := (((d.types.getD (((c.getD k default).typ).toNat) default).fields).getD i default).kind) (b := 4) (if_pos ch) rfl ⟨rfl, rfl⟩
 refine stc (V := .bool (decide (((((d.types.getD (((c.getD k default).typ).toNat) default).fields).getD i default).kind) = 4))) rfl rfl (fun ci => ?_) ?_
 have fK := ci
 try simp only [zf] at fK
 exact zP (v := .bool (decide (((((d.types.getD (((c.getD k default).typ).toNat) default).fields).getD i default).kind) = 4))) (if_pos ci) ⟨rfl, rfl⟩
 refine yz (V := .agg kR.toArray) rfl rfl (fun cj => ?_) ?_
 have fL := cj.1
 try simp only [zf] at fL
 have hl1038 := tD cj.2
 exact zg (k := 4) pY mR rfl rfl (CellsAt.all (Q.b1)) ⟨rfl, rfl⟩
 refine yz (V := Ix M 0) rfl rfl (fun ck => ?_) ?_
 have fM := ck.1
 try simp only [zf] at fM
 have hl1041 := tD ck.2
 exact yL rfl ⟨rfl, rfl⟩
 refine yz (V := Iv (((stL d (((c.getD k default).typ), ((c.getD k default).agg)) X).getD i default).n)) rfl rfl (fun aF => ?_) ?_
 have fN := aF.1
 try simp only [zf] at fN
 have hl1044 := tD aF.2
 exact lD (Iv (((stL d (((c.getD k default).typ), ((c.getD k default).agg)) X).getD i default).n)) mT (if_pos ⟨aF.1, aF.2⟩) (zd (Q.b0) rfl) ⟨rfl, rfl⟩
 refine stcwP (V := .bool ((Zw (((d.types.getD (((c.getD k default).typ).toNat) default).fields).getD i default) (((stL d (((c.getD k default).typ), ((c.getD k default).agg)) X).getD i default).n)))) (fun _ N => Sep aw t ((Blk M kL.toArray 42) :: (Blk I kR.toArray 79) :: (ViewO J d X X) :: hv :: kT :: kN :: Rs) N) Q rfl rfl (fun S => ?_) (fun w1058 aG => ?_)
 have fO := S.1
 try simp only [zf] at fO
 have hl1047 := tD S.2
 have cl : ((c.getD k default).typ).toNat < d.types.length := bo
 obtain ⟨eC, af, hoke1049⟩ := (RdS.base (RdS.base (RdS.base hdd0 F) u) C).typD cl
 have hsm1051 : ((d.types.getD (((c.getD k default).typ).toNat) default).fields).length * 48 ≤ 140737488355328 := af.small
 have hcw1052 := Q.cells eC ((RdS.base (RdS.base (RdS.base hdd0 F) u) C).foot (ne_of_lt cl))
 have cm : i < ((d.types.getD (((c.getD k default).typ).toNat) default).fields).length := bo
 obtain ⟨eD, aY, dp⟩ := af.fldD cm
 have hsm1054 : ((((d.types.getD (((c.getD k default).typ).toNat) default).fields).getD i default).moves).length * 32 ≤ 140737488355328 := aY.small
 have hcw1055 := Q.cells eD (af.foot (ne_of_lt cm))
 refine (zV (f := 42) (vals := [.agg kR.toArray, Iv (((stL d (((c.getD k default).typ), ((c.getD k default).agg)) X).getD i default).n)]) (cap := []) rfl (yH ⟨(if_pos ⟨S.1, S.2⟩), (if_pos ⟨S.1, S.2⟩), trivial⟩) Tryd.call42 (D_led (f := (((d.types.getD (((c.getD k default).typ).toNat) default).fields).getD i default)) (m := ((stL d (((c.getD k default).typ), ((c.getD k default).agg)) X).getD i default).n) aY dp dm.n Q) ?_)
 rintro _ w1056 ⟨rfl, fP⟩
 exact ⟨rfl, fP⟩
 refine yz (V := .bool (!(Zw (((d.types.getD (((c.getD k default).typ).toNat) default).fields).getD i default) (((stL d (((c.getD k default).typ), ((c.getD k default).agg)) X).getD i default).n)))) rfl rfl (fun aH => ?_) ?_
 have fQ := aH.1
 try simp only [zf] at fQ
 have hl1062 := tD aH.2
 exact yc (a := (Zw (((d.types.getD (((c.getD k default).typ).toNat) default).fields).getD i default) (((stL d (((c.getD k default).typ), ((c.getD k default).agg)) X).getD i default).n))) (if_pos ⟨aH.1, aH.2⟩) ⟨rfl, rfl⟩
 refine stc (V := .bool ((decide (((((d.types.getD (((c.getD k default).typ).toNat) default).fields).getD i default).kind) = 4)) && (!(Zw (((d.types.getD (((c.getD k default).typ).toNat) default).fields).getD i default) (((stL d (((c.getD k default).typ), ((c.getD k default).agg)) X).getD i default).n))))) rfl rfl (fun bq => ?_) ?_
 have fR := bq
 try simp only [zf] at fR
 exact zo (b := decide (((((d.types.getD (((c.getD k default).typ).toNat) default).fields).getD i default).kind) = 4)) (b' := !(Zw (((d.types.getD (((c.getD k default).typ).toNat) default).fields).getD i default) (((stL d (((c.getD k default).typ), ((c.getD k default).agg)) X).getD i default).n))) (if_pos bq) (fun hbp => (if_pos ⟨bq, hbp⟩)) ⟨rfl, rfl⟩
 refine st (zx (b := ((((d.types.getD (((c.getD k default).typ).toNat) default).fields).getD i default).floor) && (decide ((((stL d (((c.getD k default).typ), ((c.getD k default).agg)) X).getD i default).n) < 0))) (b' := (decide (((((d.types.getD (((c.getD k default).typ).toNat) default).fields).getD i default).kind) = 4)) && (!(Zw (((d.types.getD (((c.getD k default).typ).toNat) default).fields).getD i default) (((stL d (((c.getD k default).typ), ((c.getD k default).agg)) X).getD i default).n)))) rfl (fun hbp => (if_pos hbp)) (st (mV (.bool ((((((d.types.getD (((c.getD k default).typ).toNat) default).fields).getD i default).floor) && (decide ((((stL d (((c.getD k default).typ), ((c.getD k default).agg)) X).getD i default).n) < 0))) || ((decide (((((d.types.getD (((c.getD k default).typ).toNat) default).fields).getD i default).kind) = 4)) && (!(Zw (((d.types.getD (((c.getD k default).typ).toNat) default).fields).getD i default) (((stL d (((c.getD k default).typ), ((c.getD k default).agg)) X).getD i default).n)))))) (stc (V := Ix M 1) rfl rfl (fun fS => ?_) ?_))))
 have fT := fS
 try simp only [zf] at fT
 exact yC rfl ⟨rfl, rfl⟩
 refine stc (V := ey) rfl rfl (fun co => ?_) ?_
 have fU := co
 try simp only [zf] at fU
 exact lD ey nR (if_pos co) (zd (aG.b0) rfl) ⟨rfl, rfl⟩
 refine stc (V := Iw ((((stL d (((c.getD k default).typ), ((c.getD k default).agg)) X).getD i default).set).length)) rfl rfl (fun cp => ?_) ?_
 have fV := cp
 try simp only [zf] at fV
 exact zA (n := (((stL d (((c.getD k default).typ), ((c.getD k default).agg)) X).getD i default).set).length) pT (if_pos cp) H.sl ⟨rfl, rfl⟩
 refine stc (V := .bool (decide (64 < (((((stL d (((c.getD k default).typ), ((c.getD k default).agg)) X).getD i default).set).length : Nat) : Int)))) rfl rfl (fun cq => ?_) ?_
 have fW := cq
 try simp only [zf] at fW
 exact yM (k := .i64) (a := (((((stL d (((c.getD k default).typ), ((c.getD k default).agg)) X).getD i default).set).length : Nat) : Int)) (b := 64) (if_pos cq) rfl ⟨rfl, rfl⟩
 refine st (zx (b := (((((d.types.getD (((c.getD k default).typ).toNat) default).fields).getD i default).floor) && (decide ((((stL d (((c.getD k default).typ), ((c.getD k default).agg)) X).getD i default).n) < 0))) || ((decide (((((d.types.getD (((c.getD k default).typ).toNat) default).fields).getD i default).kind) = 4)) && (!(Zw (((d.types.getD (((c.getD k default).typ).toNat) default).fields).getD i default) (((stL d (((c.getD k default).typ), ((c.getD k default).agg)) X).getD i default).n))))) (b' := decide (64 < (((((stL d (((c.getD k default).typ), ((c.getD k default).agg)) X).getD i default).set).length : Nat) : Int))) rfl (fun hbp => (if_pos hbp)) ?_)
 refine st (mV (.bool (((((((d.types.getD (((c.getD k default).typ).toNat) default).fields).getD i default).floor) && (decide ((((stL d (((c.getD k default).typ), ((c.getD k default).agg)) X).getD i default).n) < 0))) || ((decide (((((d.types.getD (((c.getD k default).typ).toNat) default).fields).getD i default).kind) = 4)) && (!(Zw (((d.types.getD (((c.getD k default).typ).toNat) default).fields).getD i default) (((stL d (((c.getD k default).typ), ((c.getD k default).agg)) X).getD i default).n))))) || (decide (64 < (((((stL d (((c.getD k default).typ), ((c.getD k default).agg)) X).getD i default).set).length : Nat) : Int))))) (stc (V := Ix I 0) rfl rfl (fun fX => ?_) ?_))
 have fY := fX
 try simp only [zf] at fY
 exact yX rfl ⟨rfl, rfl⟩
 refine stc (V := Iv ((((d.types.getD (((c.getD k default).typ).toNat) default).fields).getD i default).kind)) rfl rfl (fun cr => ?_) ?_
 have fZ := cr
 try simp only [zf] at fZ
 exact lD (Iv ((((d.types.getD (((c.getD k default).typ).toNat) default).fields).getD i default).kind)) mT (if_pos cr) (zd (aG.b1) rfl) ⟨rfl, rfl⟩
 refine stc (V := .bool (!decide (((((d.types.getD (((c.getD k default).typ).toNat) default).fields).getD i default).kind) = 3))) rfl rfl (fun cs => ?_) ?_
 have ga := cs
 try simp only [zf] at ga
 exact yh (k := .i64) (a := (((d.types.getD (((c.getD k default).typ).toNat) default).fields).getD i default).kind) (b := 3) (if_pos cs) rfl ⟨rfl, rfl⟩
 refine stc (V := .bool (!decide (((((d.types.getD (((c.getD k default).typ).toNat) default).fields).getD i default).kind) = 3))) rfl rfl (fun ct => ?_) ?_
 have gc := ct
 try simp only [zf] at gc
 exact zP (v := .bool (!decide (((((d.types.getD (((c.getD k default).typ).toNat) default).fields).getD i default).kind) = 3))) (if_pos ct) ⟨rfl, rfl⟩
 refine yz (V := Ix M 1) rfl rfl (fun cu => ?_) ?_
 have gd := cu.1
 try simp only [zf] at gd
 have hl1083 := zM cu.2
 exact yC rfl ⟨rfl, rfl⟩
 refine yz (V := ey) rfl rfl (fun aI => ?_) ?_
 have ge := aI.1
 try simp only [zf] at ge
 have hl1086 := zM aI.2
 exact lD ey nR (if_pos ⟨aI.1, aI.2⟩) (zd (aG.b0) rfl) ⟨rfl, rfl⟩
 refine yz (V := Iw ((((stL d (((c.getD k default).typ), ((c.getD k default).agg)) X).getD i default).set).length)) rfl rfl (fun aJ => ?_) ?_
 have gf := aJ.1
 try simp only [zf] at gf
 have hl1089 := zM aJ.2
 exact zA (n := (((stL d (((c.getD k default).typ), ((c.getD k default).agg)) X).getD i default).set).length) pT (if_pos ⟨aJ.1, aJ.2⟩) H.sl ⟨rfl, rfl⟩
 refine yz (V := .bool (decide (0 < (((((stL d (((c.getD k default).typ), ((c.getD k default).agg)) X).getD i default).set).length : Nat) : Int)))) rfl rfl (fun aK => ?_) ?_
 have gg := aK.1
 try simp only [zf] at gg
 have hl1092 := zM aK.2
 exact yM (k := .i64) (a := (((((stL d (((c.getD k default).typ), ((c.getD k default).agg)) X).getD i default).set).length : Nat) : Int)) (b := 0) (if_pos ⟨aK.1, aK.2⟩) rfl ⟨rfl, rfl⟩
 refine stc (V := .bool ((!decide (((((d.types.getD (((c.getD k default).typ).toNat) default).fields).getD i default).kind) = 3)) && (decide (0 < (((((stL d (((c.getD k default).typ), ((c.getD k default).agg)) X).getD i default).set).length : Nat) : Int))))) rfl rfl (fun br => ?_) ?_
 have gh := br
 try simp only [zf] at gh
 exact zo (b := !decide (((((d.types.getD (((c.getD k default).typ).toNat) default).fields).getD i default).kind) = 3)) (b' := decide (0 < (((((stL d (((c.getD k default).typ), ((c.getD k default).agg)) X).getD i default).set).length : Nat) : Int))) (if_pos br) (fun hbp => (if_pos ⟨br, hbp⟩)) ⟨rfl, rfl⟩
 refine st (zx (b := ((((((d.types.getD (((c.getD k default).typ).toNat) default).fields).getD i default).floor) && (decide ((((stL d (((c.getD k default).typ), ((c.getD k default).agg)) X).getD i default).n) < 0))) || ((decide (((((d.types.getD (((c.getD k default).typ).toNat) default).fields).getD i default).kind) = 4)) && (!(Zw (((d.types.getD (((c.getD k default).typ).toNat) default).fields).getD i default) (((stL d (((c.getD k default).typ), ((c.getD k default).agg)) X).getD i default).n))))) || (decide (64 < (((((stL d (((c.getD k default).typ), ((c.getD k default).agg)) X).getD i default).set).length : Nat) : Int)))) (b' := (!decide (((((d.types.getD (((c.getD k default).typ).toNat) default).fields).getD i default).kind) = 3)) && (decide (0 < (((((stL d (((c.getD k default).typ), ((c.getD k default).agg)) X).getD i default).set).length : Nat) : Int)))) rfl (fun hbp => (if_pos hbp)) ?_)
 have eE : ((((((((d.types.getD (((c.getD k default).typ).toNat) default).fields).getD i default).floor) && (decide ((((stL d (((c.getD k default).typ), ((c.getD k default).agg)) X).getD i default).n) < 0))) || ((decide (((((d.types.getD (((c.getD k default).typ).toNat) default).fields).getD i default).kind) = 4)) && (!(Zw (((d.types.getD (((c.getD k default).typ).toNat) default).fields).getD i default) (((stL d (((c.getD k default).typ), ((c.getD k default).agg)) X).getD i default).n))))) || (decide (64 < (((((stL d (((c.getD k default).typ), ((c.getD k default).agg)) X).getD i default).set).length : Nat) : Int)))) || ((!decide (((((d.types.getD (((c.getD k default).typ).toNat) default).fields).getD i default).kind) = 3)) && (decide (0 < (((((stL d (((c.getD k default).typ), ((c.getD k default).agg)) X).getD i default).set).length : Nat) : Int))))) = false := (Kv fc kO om)
 rw [eE]
 refine zb (zi rfl (zk (za (R0 fun _ => st (aS (Iv 1) (zb (zn ?_)))))))
 refine zX (fun mq σ N => ∃ (q : Nat) (ρ : Env), mq = ((stL d ((c.getD k default).typ, (c.getD k default).agg) X).getD i default).set.length - q ∧ σ = yb ρ [(2, A), (3, Ix b2 0), (7, Ix J 0), (8, Iw k), (9, Ix y 0), (14, Iw i), (15, Ix I 0), (16, Ix M 0), (17, Iw q)] ∧ (1 ≤ q) ∧ Sep aw t ((Blk M (((stL d (((c.getD k default).typ), ((c.getD k default).agg)) X).getD i default).cells (zy t (sb g) (so g + i * 2 + 1))).toArray 42) :: (Blk I ((((d.types.getD (((c.getD k default).typ).toNat) default).fields).getD i default).cells (zy t (sb (zy t (sb dd0) (so dd0 + (((c.getD k default).typ).toNat) * 1 + 0))) (so (zy t (sb dd0) (so dd0 + (((c.getD k default).typ).toNat) * 1 + 0)) + i * 4 + 3))).toArray 79) :: (ViewO J d X X) :: (Blk y ((ye d (((c.getD k default).typ), ((c.getD k default).agg)) X).cells g).toArray 68) :: (RwI av ((c.getD k default).deps)) :: (Blk b2 (d.cells dd0 dd1).toArray 25) :: Rs) N) ⟨1, _, rfl, sSf, Nat.le_refl _, aG⟩ ?_
 rintro m1097 σ1098 w1096 ⟨q, ρl4, rfl, rfl, hq1, bs⟩
 refine za (za (R0 fun _ => st (mV (Iw q) (st (yC rfl (st (lD ey nR rfl (zd (bs.b0) rfl) (st (zA (n := (((stL d (((c.getD k default).typ), ((c.getD k default).agg)) X).getD i default).set).length) pT rfl H.sl (st (zD (k := .i64) (a := ((q : Nat) : Int)) (b := (((((stL d (((c.getD k default).typ), ((c.getD k default).agg)) X).getD i default).set).length : Nat) : Int)) rfl rfl (zb ?_))))))))))))
 cases ag : decide (((q : Nat) : Int) < (((((stL d (((c.getD k default).typ), ((c.getD k default).agg)) X).getD i default).set).length : Nat) : Int))
 have hc1100r := ag
 have ag := fD ag
 refine zi rfl (zU (zI (R0 fun _ => st (mV (Iw i) ?_))))
 have gi : InR ((i + 1 : Nat) : Int) := bo
 refine st (zH (r := ((i + 1 : Nat) : Int)) (k := .i64) (a := ((i : Nat) : Int)) (b := 1) rfl rfl (by rw [show (((i : Nat) : Int) + 1 : Int) = ((i + 1 : Nat) : Int) from bo]; exact zz gi) (st (aS (Iw (i + 1)) (zb ?_))))
 exact ⟨_, by omega, i + 1, _, rfl, sSf, by omega, (bs.s6_cdef)⟩
 have ag := tD ag
 refine zj rfl (zk (za (zn (za ?_))))
 refine WD4 (WF [fun vals N => Sep aw t ((Blk M kL.toArray 42) :: (Blk I kR.toArray 79) :: (ViewO J d X X) :: hv :: kT :: kN :: Rs) N]) (AF [Vl 0 (Ix M 1), Vl 1 (ey), Vl 2 (Iw q), Vl 3 (Iw (q - 1)), Vl 4 (Ix (sb ey) (so ey + (q - 1) * 1)), Vl 5 (Iv (((((stL d (((c.getD k default).typ), ((c.getD k default).agg)) X).getD i default).set).getD (q - 1) 0))), Vl 6 (Ix M 1), Vl 7 (ey), Vl 8 (Iw q), Vl 9 (Ix (sb ey) (so ey + q * 1)), Vl 10 (Iv (((((stL d (((c.getD k default).typ), ((c.getD k default).agg)) X).getD i default).set).getD q 0))), Vl 11 (.bool (decide (((((stL d (((c.getD k default).typ), ((c.getD k default).agg)) X).getD i default).set).getD q 0) ≤ ((((stL d (((c.getD k default).typ), ((c.getD k default).agg)) X).getD i default).set).getD (q - 1) 0))))]) [[], [0], [], [2], (rg 4), (rg 5), [], [6], [], [6, 7, 8], [6, 7, 8, 9], (rg 11)] [] [(0, 0), (0, 0), (0, 0), (0, 0), (0, 0), (0, 0), (0, 0), (0, 0), (0, 0), (0, 0), (0, 0), (0, 0)] bs ⟨fun _ _ _ _ _ _ _ => obl rfl (yC rfl dR), ob1 0 fun _ _ (gj : Sep _ _ _ _) gk => obl rfl (lD ey nR (gk 0 dc) (zd (gj.b0) rfl) dR), fun _ _ _ _ _ _ _ => obl rfl (mV (Iw q) dR), ?_, ?_, ?_, fun _ _ _ _ _ _ _ => obl rfl (yC rfl dR), ob1 0 fun _ _ (gl : Sep _ _ _ _) gm => obl rfl (lD ey nR (gm 6 dc) (zd (gl.b0) rfl) dR), fun _ _ _ _ _ _ _ => obl rfl (mV (Iw q) dR), ?_, ?_, ob1 0 fun _ _ _ cv => obl rfl (yV (k := .i64) (a := ((((stL d (((c.getD k default).typ), ((c.getD k default).agg)) X).getD i default).set).getD (q - 1) 0)) (b := ((((stL d (((c.getD k default).typ), ((c.getD k default).agg)) X).getD i default).set).getD q 0)) (cv 5 dc) (cv 10 dc) dR), trivial⟩ ?_
 refine ob1 0 fun _ _ _ gn => (obl rfl ?_)
 have go : InR ((q - 1 : Nat) : Int) := bo
 exact Zu (r := ((q - 1 : Nat) : Int)) (k := .i64) (a := ((q : Nat) : Int)) (b := 1) (gn 2 (by decide)) rfl (by rw [show (((q : Nat) : Int) - 1 : Int) = ((q - 1 : Nat) : Int) from bo]; exact zz go) dR
 refine ob1 0 fun _ _ _ cw => (obl rfl ?_)
 have gp : q - 1 < (((stL d (((c.getD k default).typ), ((c.getD k default).agg)) X).getD i default).set).length := bo
 exact ze (k := 1) (i := q - 1) pT qT (cw 1 dc) H.sl (cw 3 dc) gp dR
 refine ob1 0 fun _ _ (gq : Sep _ _ _ _) gr => (obl rfl ?_)
 have cx : q - 1 < (((stL d (((c.getD k default).typ), ((c.getD k default).agg)) X).getD i default).set).length := bo
 obtain ⟨eF, hxe1250⟩ := H.intD cx
 have eG := gq.cells eF (H.foot (ne_of_lt cx))
 exact lD (Iv (((((stL d (((c.getD k default).typ), ((c.getD k default).agg)) X).getD i default).set).getD (q - 1) 0))) mT (gr 4 dc) (eG.get (j := 0) rfl) dR
 refine ob1 0 fun _ _ _ cy => (obl rfl ?_)
 have gs : q < (((stL d (((c.getD k default).typ), ((c.getD k default).agg)) X).getD i default).set).length := bo
 exact ze (k := 1) (i := q) pT qT (cy 7 dc) H.sl (cy 8 dc) gs dR
 refine ob1 0 fun _ _ (gt : Sep _ _ _ _) gu => (obl rfl ?_)
 have cz : q < (((stL d (((c.getD k default).typ), ((c.getD k default).agg)) X).getD i default).set).length := bo
 obtain ⟨eH, hxe1291⟩ := H.intD cz
 have eI := gt.cells eH (H.foot (ne_of_lt cz))
 exact lD (Iv (((((stL d (((c.getD k default).typ), ((c.getD k default).agg)) X).getD i default).set).getD q 0))) mT (gu 9 dc) (eI.get (j := 0) rfl) dR
 intro vals w1303 gv gw
 have gx : Sep _ _ _ _ := gv
 have jI := gw 11 dc
 refine zZ (kv := [(2, A), (3, Ix b2 0), (7, Ix J 0), (8, Iw k), (9, Ix y 0), (14, Iw i), (15, Ix I 0), (16, Ix M 0), (17, Iw q), (200, Iw q), (201, Ix M 1), (202, (zy t (sb g) (so g + i * 2 + 1))), (203, Iw ((((stL d (((c.getD k default).typ), ((c.getD k default).agg)) X).getD i default).set).length)), (204, .bool true), (218, .bool (decide (((((stL d (((c.getD k default).typ), ((c.getD k default).agg)) X).getD i default).set).getD q 0) ≤ ((((stL d (((c.getD k default).typ), ((c.getD k default).agg)) X).getD i default).set).getD (q - 1) 0))))]) ⟨rfl, rfl, rfl, rfl, rfl, rfl, rfl, rfl, rfl, rfl, rfl, rfl, rfl, rfl, (by exact jI), trivial⟩ (fun ρw1303 => (zb ?_))
 cases ah : decide (((((stL d (((c.getD k default).typ), ((c.getD k default).agg)) X).getD i default).set).getD q 0) ≤ ((((stL d (((c.getD k default).typ), ((c.getD k default).agg)) X).getD i default).set).getD (q - 1) 0))
 have hc1308r := ah
 have ah := fD ah
 refine zi rfl (zk (R0 fun _ => st (mV (Iw q) ?_)))
 have gy : InR ((q + 1 : Nat) : Int) := bo
 refine st (zH (r := ((q + 1 : Nat) : Int)) (k := .i64) (a := ((q : Nat) : Int)) (b := 1) rfl rfl (by rw [show (((q : Nat) : Int) + 1 : Int) = ((q + 1 : Nat) : Int) from bo]; exact zz gy) (st (aS (Iw (q + 1)) (zb ?_))))
 exact ⟨_, by omega, q + 1, _, rfl, sSf, by omega, gx⟩
 have ah := tD ah
 exfalso
 have h9 := Xz (fc.asc i om) (i := q - 1) (j := q) om om
 omega
 try simp only [zf] at bJ
 refine zj rfl (zU (zI (R0 fun _ => st (mV (Iw k) ?_))))
 have gz : InR ((k + 1 : Nat) : Int) := bo
 refine st (zH (r := ((k + 1 : Nat) : Int)) (k := .i64) (a := ((k : Nat) : Int)) (b := 1) rfl rfl (by rw [show (((k : Nat) : Int) + 1 : Int) = ((k + 1 : Nat) : Int) from bo]; exact zz gz) (st (aS (Iw (k + 1)) (zb ?_))))
 have gA := dH _ _ ac
 have cA : Sep aX aA ((ViewO J d X X) :: kN :: Rs) ko := gA.sel 6 [1, 5] (Nat.le_add_left _ _) rfl rfl
 have gB : (zY d (c.take (k + 1))) = X := bC.symm
 rw [← gB] at cA
 exact ⟨_, by omega, k + 1, _, rfl, sSf, by omega, cA⟩
 have aD := tD aD
 refine zj rfl (zk (za (zn (za ?_))))
 refine WD4 (WF [fun vals N => Sep dd bj ((ViewO J d X X) :: hv :: lb :: kT :: kN :: Rs) N]) (AF [Vl 0 (E), Vl 1 (Iw j), Vl 2 (Ix (sb E) (so E + j * 13)), Vl 3 (Ix (sb E) (so E + j * 13 + 10)), Vl 4 (.bool ((X.getD j default).void)), Vl 5 (.bool (!((X.getD j default).void))), Vl 6 (.bool (!((X.getD j default).void))), Vl 7 (if (!((X.getD j default).void)) = true then E else undef), Vl 8 (if (!((X.getD j default).void)) = true then Iw j else undef), Vl 9 (if (!((X.getD j default).void)) = true then Ix (sb E) (so E + j * 13) else undef), Vl 10 (if (!((X.getD j default).void)) = true then Ix (sb E) (so E + j * 13) else undef), Vl 11 (if (!((X.getD j default).void)) = true then Ix (sb E) (so E + j * 13 + 4) else undef), Vl 12 (if (!((X.getD j default).void)) = true then Iv ((X.getD j default).ev.typ) else undef), Vl 13 (if (!((X.getD j default).void)) = true then A else undef), Vl 14 (if (!((X.getD j default).void)) = true then Iw k else undef), Vl 15 (if (!((X.getD j default).void)) = true then Ix (sb A) (so A + k * 10) else undef), Vl 16 (if (!((X.getD j default).void)) = true then Ix (sb A) (so A + k * 10 + 4) else undef), Vl 17 (if (!((X.getD j default).void)) = true then Iv ((c.getD k default).typ) else undef), Vl 18 (if (!((X.getD j default).void)) = true then .bool (decide (((X.getD j default).ev.typ) = ((c.getD k default).typ))) else undef), Vl 19 (.bool ((!((X.getD j default).void)) && (decide (((X.getD j default).ev.typ) = ((c.getD k default).typ))))), Vl 20 (.bool ((!((X.getD j default).void)) && (decide (((X.getD j default).ev.typ) = ((c.getD k default).typ))))), Vl 21 (if ((!((X.getD j default).void)) && (decide (((X.getD j default).ev.typ) = ((c.getD k default).typ)))) = true then E else undef), Vl 22 (if ((!((X.getD j default).void)) && (decide (((X.getD j default).ev.typ) = ((c.getD k default).typ)))) = true then Iw j else undef), Vl 23 (if ((!((X.getD j default).void)) && (decide (((X.getD j default).ev.typ) = ((c.getD k default).typ)))) = true then Ix (sb E) (so E + j * 13) else undef), Vl 24 (if ((!((X.getD j default).void)) && (decide (((X.getD j default).ev.typ) = ((c.getD k default).typ)))) = true then Ix (sb E) (so E + j * 13) else undef), Vl 25 (if ((!((X.getD j default).void)) && (decide (((X.getD j default).ev.typ) = ((c.getD k default).typ)))) = true then Ix (sb E) (so E + j * 13 + 5) else undef), Vl 26 (if ((!((X.getD j default).void)) && (decide (((X.getD j default).ev.typ) = ((c.getD k default).typ)))) = true then Iv ((X.getD j default).ev.agg) else undef), Vl 27 (if ((!((X.getD j default).void)) && (decide (((X.getD j default).ev.typ) = ((c.getD k default).typ)))) = true then A else undef), Vl 28 (if ((!((X.getD j default).void)) && (decide (((X.getD j default).ev.typ) = ((c.getD k default).typ)))) = true then Iw k else undef), Vl 29 (if ((!((X.getD j default).void)) && (decide (((X.getD j default).ev.typ) = ((c.getD k default).typ)))) = true then Ix (sb A) (so A + k * 10) else undef), Vl 30 (if ((!((X.getD j default).void)) && (decide (((X.getD j default).ev.typ) = ((c.getD k default).typ)))) = true then Ix (sb A) (so A + k * 10 + 5) else undef), Vl 31 (if ((!((X.getD j default).void)) && (decide (((X.getD j default).ev.typ) = ((c.getD k default).typ)))) = true then Iv ((c.getD k default).agg) else undef), Vl 32 (if ((!((X.getD j default).void)) && (decide (((X.getD j default).ev.typ) = ((c.getD k default).typ)))) = true then .bool (decide (((X.getD j default).ev.agg) = ((c.getD k default).agg))) else undef), Vl 33 (.bool (((!((X.getD j default).void)) && (decide (((X.getD j default).ev.typ) = ((c.getD k default).typ)))) && (decide (((X.getD j default).ev.agg) = ((c.getD k default).agg)))))]) [[], [], [0, 1], [0, 1, 2], (rg 4), (rg 5), (rg 6), (rg 7), (rg 7), (rg 9), (rg 10), (rg 11), (rg 12), (rg 7), (rg 7), [0, 1, 2, 3, 4, 5, 6, 13, 14], [0, 1, 2, 3, 4, 5, 6, 13, 14, 15], [0, 1, 2, 3, 4, 5, 6, 13, 14, 15, 16], (rg 18), (rg 19), (rg 20), (rg 21), (rg 21), (rg 23), (rg 24), (rg 25), (rg 26), (rg 21), (rg 21), [0, 1, 2, 3, 4, 5, 6, 7, 8, 9, 10, 11, 12, 13, 14, 15, 16, 17, 18, 19, 20, 27, 28], [0, 1, 2, 3, 4, 5, 6, 7, 8, 9, 10, 11, 12, 13, 14, 15, 16, 17, 18, 19, 20, 27, 28, 29], [0, 1, 2, 3, 4, 5, 6, 7, 8, 9, 10, 11, 12, 13, 14, 15, 16, 17, 18, 19, 20, 27, 28, 29, 30], (rg 32), (rg 33)] [] [(0, 0), (0, 0), (0, 0), (0, 0), (0, 0), (0, 0), (0, 0), (0, 0), (0, 0), (0, 0), (0, 0), (0, 0), (0, 0), (0, 0), (0, 0), (0, 0), (0, 0), (0, 0), (0, 0), (0, 0), (0, 0), (0, 0), (0, 0), (0, 0), (0, 0), (0, 0), (0, 0), (0, 0), (0, 0), (0, 0), (0, 0), (0, 0), (0, 0), (0, 0)] ac ⟨fun _ _ _ _ _ _ _ => obl rfl (mV E dR), fun _ _ _ _ _ _ _ => obl rfl (mV (Iw j) dR), ?_, fun _ _ _ _ _ _ gC => obl rfl (xa (gC 2 dc) dR), ?_, fun _ _ _ _ _ _ gD => obl rfl (yc (a := (X.getD j default).void) (gD 4 dc) dR), fun _ _ _ _ _ _ gE => obl rfl (zP (v := .bool (!((X.getD j default).void))) (gE 5 dc) dR), ?_, ?_, ?_, ?_, ?_, ?_, ?_, ?_, ?_, ?_, ?_, ?_, fun _ _ _ _ _ _ cB => obl rfl (zo (b := !((X.getD j default).void)) (b' := decide (((X.getD j default).ev.typ) = ((c.getD k default).typ))) (cB 6 dc) (fun hbp => (Eq.trans (cB 18 dc) (if_pos hbp))) dR), fun _ _ _ _ _ _ gF => obl rfl (zP (v := .bool ((!((X.getD j default).void)) && (decide (((X.getD j default).ev.typ) = ((c.getD k default).typ))))) (gF 19 dc) dR), ?_, ?_, ?_, ?_, ?_, ?_, ?_, ?_, ?_, ?_, ?_, ?_, fun _ _ _ _ _ _ cC => obl rfl (zo (b := (!((X.getD j default).void)) && (decide (((X.getD j default).ev.typ) = ((c.getD k default).typ)))) (b' := decide (((X.getD j default).ev.agg) = ((c.getD k default).agg))) (cC 20 dc) (fun hbp => (Eq.trans (cC 32 dc) (if_pos hbp))) dR), trivial⟩ ?_
 refine ob1 0 fun _ _ _ cD => (obl rfl ?_)
 have gG : j < X.length := bo
 exact ze (k := 13) (i := j) rT sT (cD 0 dc) L.sl (cD 1 dc) gG dR
 refine ob1 0 fun _ _ (gH : Sep _ _ _ _) gI => (obl rfl ?_)
 have cE : j < X.length := bo
 obtain ⟨eJ, cF, hoke1697⟩ := L.entD cE
 have hsm1699 : ((X.getD j default).ev.deps).length * 8 ≤ 140737488355328 := cF.small
 have eK := gH.cells eJ (L.foot (ne_of_lt cE))
 exact lD (.bool ((X.getD j default).void)) uT (gI 3 dc) (eK.get (j := 10) rfl) dR
 refine fun _ _ _ _ _ _ gJ => (zC rfl rfl (gJ 6 dc) (fun aL => ?_) (fun aL => fun p s _ => ⟨trivial, s.trans (if_neg aL).symm⟩))
 have gK := aL
 try simp only [zf] at gK
 exact mV E (fun p s _ => ⟨rfl, s.trans (if_pos aL).symm⟩)
 refine fun _ _ _ _ _ _ gL => (zC rfl rfl (gL 6 dc) (fun aM => ?_) (fun aM => fun p s _ => ⟨trivial, s.trans (if_neg aM).symm⟩))
 have gM := aM
 try simp only [zf] at gM
 exact mV (Iw j) (fun p s _ => ⟨rfl, s.trans (if_pos aM).symm⟩)
 refine ob1 0 fun _ _ _ bt => (zC rfl rfl (bt 6 dc) (fun T => ?_) (fun T => fun p s _ => ⟨trivial, s.trans (if_neg T).symm⟩))
 have gN := T
 try simp only [zf] at gN
 have gO : j < X.length := bo
 exact ze (k := 13) (i := j) rT sT (Eq.trans (bt 7 dc) (if_pos T)) L.sl (Eq.trans (bt 8 dc) (if_pos T)) gO (fun p s _ => ⟨rfl, s.trans (if_pos T).symm⟩)
 refine fun _ _ _ _ _ _ cG => (zC rfl rfl (cG 6 dc) (fun ai => ?_) (fun ai => fun p s _ => ⟨trivial, s.trans (if_neg ai).symm⟩))
 have gP := ai
 try simp only [zf] at gP
 exact xq (Eq.trans (cG 9 dc) (if_pos ai)) (fun p s _ => ⟨rfl, s.trans (if_pos ai).symm⟩)
 refine fun _ _ _ _ _ _ cH => (zC rfl rfl (cH 6 dc) (fun aj => ?_) (fun aj => fun p s _ => ⟨trivial, s.trans (if_neg aj).symm⟩))
 have gQ := aj
 try simp only [zf] at gQ
 exact yB (Eq.trans (cH 10 dc) (if_pos aj)) (fun p s _ => ⟨rfl, s.trans (if_pos aj).symm⟩)
 refine ob1 0 fun _ _ (gR : Sep _ _ _ _) cI => (zC rfl rfl (cI 6 dc) (fun ak => ?_) (fun ak => fun p s _ => ⟨trivial, s.trans (if_neg ak).symm⟩))
 have gS := ak
 try simp only [zf] at gS
 have cJ : j < X.length := bo
 obtain ⟨eL, cK, hoke1777⟩ := L.entD cJ
 have hsm1779 : ((X.getD j default).ev.deps).length * 8 ≤ 140737488355328 := cK.small
 have eM := gR.cells eL (L.foot (ne_of_lt cJ))
 exact lD (Iv ((X.getD j default).ev.typ)) mT (Eq.trans (cI 11 dc) (if_pos ak)) (eM.get (j := 4) rfl) (fun p s _ => ⟨rfl, s.trans (if_pos ak).symm⟩)
 refine fun _ _ _ _ _ _ gT => (zC rfl rfl (gT 6 dc) (fun aN => ?_) (fun aN => fun p s _ => ⟨trivial, s.trans (if_neg aN).symm⟩))
 have gU := aN
 try simp only [zf] at gU
 exact mV A (fun p s _ => ⟨rfl, s.trans (if_pos aN).symm⟩)
 refine fun _ _ _ _ _ _ gV => (zC rfl rfl (gV 6 dc) (fun aO => ?_) (fun aO => fun p s _ => ⟨trivial, s.trans (if_neg aO).symm⟩))
 have gW := aO
 try simp only [zf] at gW
 exact mV (Iw k) (fun p s _ => ⟨rfl, s.trans (if_pos aO).symm⟩)
 refine ob1 0 fun _ _ _ bu => (zC rfl rfl (bu 6 dc) (fun U => ?_) (fun U => fun p s _ => ⟨trivial, s.trans (if_neg U).symm⟩))
 have gX := U
 try simp only [zf] at gX
 have gY : k < c.length := bo
 exact ze (k := 10) (i := k) oT lT (Eq.trans (bu 13 dc) (if_pos U)) (RdS.base B u).sl (Eq.trans (bu 14 dc) (if_pos U)) gY (fun p s _ => ⟨rfl, s.trans (if_pos U).symm⟩)
 refine fun _ _ _ _ _ _ cM => (zC rfl rfl (cM 6 dc) (fun al => ?_) (fun al => fun p s _ => ⟨trivial, s.trans (if_neg al).symm⟩))
 have gZ := al
 try simp only [zf] at gZ
 exact yB (Eq.trans (cM 15 dc) (if_pos al)) (fun p s _ => ⟨rfl, s.trans (if_pos al).symm⟩)
 refine ob1 0 fun _ _ (ha : Sep _ _ _ _) cN => (zC rfl rfl (cN 6 dc) (fun am => ?_) (fun am => fun p s _ => ⟨trivial, s.trans (if_neg am).symm⟩))
 have hb := am
 try simp only [zf] at hb
 have cO : k < c.length := bo
 obtain ⟨eN, cP, hoke1833⟩ := (RdS.base B u).evD cO
 have hsm1835 : ((c.getD k default).deps).length * 8 ≤ 140737488355328 := cP.small
 have eO := ha.cells eN ((RdS.base B u).foot (ne_of_lt cO))
 exact lD (Iv ((c.getD k default).typ)) mT (Eq.trans (cN 16 dc) (if_pos am)) (eO.get (j := 4) rfl) (fun p s _ => ⟨rfl, s.trans (if_pos am).symm⟩)
 refine ob1 0 fun _ _ _ bv => (zC rfl rfl (bv 6 dc) (fun Y => ?_) (fun Y => fun p s _ => ⟨trivial, s.trans (if_neg Y).symm⟩))
 have hc := Y
 try simp only [zf] at hc
 exact zF (k := .i64) (a := (X.getD j default).ev.typ) (b := (c.getD k default).typ) (Eq.trans (bv 12 dc) (if_pos Y)) (Eq.trans (bv 17 dc) (if_pos Y)) (fun p s _ => ⟨rfl, s.trans (if_pos Y).symm⟩)
 refine fun _ _ _ _ _ _ hd => (zC rfl rfl (hd 20 dc) (fun aP => ?_) (fun aP => fun p s _ => ⟨trivial, s.trans (if_neg aP).symm⟩))
 have he := aP
 try simp only [zf] at he
 exact mV E (fun p s _ => ⟨rfl, s.trans (if_pos aP).symm⟩)
 refine fun _ _ _ _ _ _ hf => (zC rfl rfl (hf 20 dc) (fun aQ => ?_) (fun aQ => fun p s _ => ⟨trivial, s.trans (if_neg aQ).symm⟩))
 have hg := aQ
 try simp only [zf] at hg
 exact mV (Iw j) (fun p s _ => ⟨rfl, s.trans (if_pos aQ).symm⟩)
 refine ob1 0 fun _ _ _ bw => (zC rfl rfl (bw 20 dc) (fun Z => ?_) (fun Z => fun p s _ => ⟨trivial, s.trans (if_neg Z).symm⟩))
 have hh := Z
 try simp only [zf] at hh
 have hi : j < X.length := bo
 exact ze (k := 13) (i := j) rT sT (Eq.trans (bw 21 dc) (if_pos Z)) L.sl (Eq.trans (bw 22 dc) (if_pos Z)) hi (fun p s _ => ⟨rfl, s.trans (if_pos Z).symm⟩)
 refine fun _ _ _ _ _ _ cQ => (zC rfl rfl (cQ 20 dc) (fun an => ?_) (fun an => fun p s _ => ⟨trivial, s.trans (if_neg an).symm⟩))
 have hj := an
 try simp only [zf] at hj
 exact xq (Eq.trans (cQ 23 dc) (if_pos an)) (fun p s _ => ⟨rfl, s.trans (if_pos an).symm⟩)
 refine fun _ _ _ _ _ _ cR => (zC rfl rfl (cR 20 dc) (fun ao => ?_) (fun ao => fun p s _ => ⟨trivial, s.trans (if_neg ao).symm⟩))
 have hk := ao
 try simp only [zf] at hk
 exact xl (Eq.trans (cR 24 dc) (if_pos ao)) (fun p s _ => ⟨rfl, s.trans (if_pos ao).symm⟩)
 refine ob1 0 fun _ _ (hm : Sep _ _ _ _) cS => (zC rfl rfl (cS 20 dc) (fun ap => ?_) (fun ap => fun p s _ => ⟨trivial, s.trans (if_neg ap).symm⟩))
 have ho := ap
 try simp only [zf] at ho
 have cT : j < X.length := bo
 obtain ⟨eP, cU, hoke1926⟩ := L.entD cT
 have hsm1928 : ((X.getD j default).ev.deps).length * 8 ≤ 140737488355328 := cU.small
 have eQ := hm.cells eP (L.foot (ne_of_lt cT))
 exact lD (Iv ((X.getD j default).ev.agg)) mT (Eq.trans (cS 25 dc) (if_pos ap)) (eQ.get (j := 5) rfl) (fun p s _ => ⟨rfl, s.trans (if_pos ap).symm⟩)
 refine fun _ _ _ _ _ _ hp => (zC rfl rfl (hp 20 dc) (fun aR => ?_) (fun aR => fun p s _ => ⟨trivial, s.trans (if_neg aR).symm⟩))
 have hq := aR
 try simp only [zf] at hq
 exact mV A (fun p s _ => ⟨rfl, s.trans (if_pos aR).symm⟩)
 refine fun _ _ _ _ _ _ hr => (zC rfl rfl (hr 20 dc) (fun aT => ?_) (fun aT => fun p s _ => ⟨trivial, s.trans (if_neg aT).symm⟩))
 have hs := aT
 try simp only [zf] at hs
 exact mV (Iw k) (fun p s _ => ⟨rfl, s.trans (if_pos aT).symm⟩)
 refine ob1 0 fun _ _ _ bx => (zC rfl rfl (bx 20 dc) (fun aa => ?_) (fun aa => fun p s _ => ⟨trivial, s.trans (if_neg aa).symm⟩))
 have ht := aa
 try simp only [zf] at ht
 have hu : k < c.length := bo
 exact ze (k := 10) (i := k) oT lT (Eq.trans (bx 27 dc) (if_pos aa)) (RdS.base B u).sl (Eq.trans (bx 28 dc) (if_pos aa)) hu (fun p s _ => ⟨rfl, s.trans (if_pos aa).symm⟩)
 refine fun _ _ _ _ _ _ cV => (zC rfl rfl (cV 20 dc) (fun aq => ?_) (fun aq => fun p s _ => ⟨trivial, s.trans (if_neg aq).symm⟩))
 have hw := aq
 try simp only [zf] at hw
 exact xl (Eq.trans (cV 29 dc) (if_pos aq)) (fun p s _ => ⟨rfl, s.trans (if_pos aq).symm⟩)
 refine ob1 0 fun _ _ (hx : Sep _ _ _ _) cW => (zC rfl rfl (cW 20 dc) (fun ar => ?_) (fun ar => fun p s _ => ⟨trivial, s.trans (if_neg ar).symm⟩))
 have hy := ar
 try simp only [zf] at hy
 have cX : k < c.length := bo
 obtain ⟨eR, cY, hoke1982⟩ := (RdS.base B u).evD cX
 have hsm1984 : ((c.getD k default).deps).length * 8 ≤ 140737488355328 := cY.small
 have eS := hx.cells eR ((RdS.base B u).foot (ne_of_lt cX))
 exact lD (Iv ((c.getD k default).agg)) mT (Eq.trans (cW 30 dc) (if_pos ar)) (eS.get (j := 5) rfl) (fun p s _ => ⟨rfl, s.trans (if_pos ar).symm⟩)
 refine ob1 0 fun _ _ _ bz => (zC rfl rfl (bz 20 dc) (fun ab => ?_) (fun ab => fun p s _ => ⟨trivial, s.trans (if_neg ab).symm⟩))
 have hz := ab
 try simp only [zf] at hz
 exact zF (k := .i64) (a := (X.getD j default).ev.agg) (b := (c.getD k default).agg) (Eq.trans (bz 26 dc) (if_pos ab)) (Eq.trans (bz 31 dc) (if_pos ab)) (fun p s _ => ⟨rfl, s.trans (if_pos ab).symm⟩)
 intro vals w2006 hA hB
 have cZ : Sep _ _ _ _ := hA
 have jJ := hB 33 dc
 refine zZ (kv := [(2, A), (3, Ix b2 0), (7, Ix J 0), (8, Iw k), (9, Ix y 0), (10, .bool ((zh d X (((c.getD k default).typ), ((c.getD k default).agg))).isSome)), (12, E), (13, Iw j), (11, Iw cn), (60, Iw j), (61, E), (62, Iw X.length), (63, .bool true), (99, .bool (((!((X.getD j default).void)) && (decide (((X.getD j default).ev.typ) = ((c.getD k default).typ)))) && (decide (((X.getD j default).ev.agg) = ((c.getD k default).agg)))))]) ⟨rfl, rfl, rfl, rfl, rfl, rfl, rfl, rfl, rfl, rfl, rfl, rfl, rfl, (by exact jJ), trivial⟩ (fun ρw2006 => (zb ?_))
 cases aU : ((!((X.getD j default).void)) && (decide (((X.getD j default).ev.typ) = ((c.getD k default).typ)))) && (decide (((X.getD j default).ev.agg) = ((c.getD k default).agg)))
 have aW := aU
 try simp only [zf] at aU
 refine zi rfl (zk (R0 fun _ => st (mV (Iw j) ?_)))
 have hC : InR ((j + 1 : Nat) : Int) := bo
 refine st (zH (r := ((j + 1 : Nat) : Int)) (k := .i64) (a := ((j : Nat) : Int)) (b := 1) rfl rfl (by rw [show (((j : Nat) : Int) + 1 : Int) = ((j + 1 : Nat) : Int) from bo]; exact zz hC) (st (aS (Iw (j + 1)) (zb ?_))))
 exact ⟨_, by omega, j + 1, cn, _, rfl, sSf, by omega, (by rw [KO (by omega) ((onL_raw.trans aW)), hcn]), (by omega), cZ⟩
 have aW := aU
 try simp only [zf] at aU
 refine zj rfl (R0 fun _ => st (mV (Iw cn) ?_))
 have hD : InR ((cn + 1 : Nat) : Int) := bo
 refine st (zH (r := ((cn + 1 : Nat) : Int)) (k := .i64) (a := ((cn : Nat) : Int)) (b := 1) rfl rfl (by rw [show (((cn : Nat) : Int) + 1 : Int) = ((cn + 1 : Nat) : Int) from bo]; exact zz hD) (st (aS (Iw (cn + 1)) (zb (yD (by kernel_rfl) (fun _ => (st (mV (Iw j) ?_))))))))
 have hE : InR ((j + 1 : Nat) : Int) := bo
 refine st (zH (r := ((j + 1 : Nat) : Int)) (k := .i64) (a := ((j : Nat) : Int)) (b := 1) rfl rfl (by rw [show (((j : Nat) : Int) + 1 : Int) = ((j + 1 : Nat) : Int) from bo]; exact zz hE) (st (aS (Iw (j + 1)) (zb ?_))))
 exact ⟨_, by omega, j + 1, cn + 1, _, rfl, sSf, by omega, (by rw [KQ (by omega) ((onL_raw.trans aW)), hcn]), (by omega), cZ⟩
 try simp only [zf] at dq
 refine zj rfl (za (R0 fun _ => st (cL tR (xj  hKN jL) ?_)))
 rintro _ w2015 ⟨rfl, hF⟩
 refine st (aS (.bool true) (zb (zm (zL uY (show _ = (.bool true : Value) from rfl) ?_))))
 refine ⟨rfl, (hF.s1_)⟩

theorem yqk {p : Prop} (h : p := by first | omega | decide +kernel | (show _ < 3; omega)) : p := h

def evD : Ev := ⟨0, 1, 1, [0, 0], 0, 0, 0, 1, 1, 0⟩
def evE : Ev := ⟨0, 1, 1, [0, 0], 0, 0, 7, 2, 1, 0⟩
def kz : List Ent := zY (zS 3) [evA, evB, evC]
def kw1 : List Ent := [ya (zS 1) [] evD]
def kw2 : List Ent := kw1 ++ [ya (zS 1) kw1 evE]
theorem pk_in : ∀ k : Nat, InR ([1, 2, 3].getD k (0 : Int))
  | 0 => by decide
  | 1 => by decide
  | 2 => by decide
  | _ + 3 => by show InR 0; decide
theorem KI : Inv (zS 1) kw1 := (Inv.nil _).snoc (ZQ _)
set_option maxHeartbeats 8000000 in
set_option maxRecDepth 20000 in
theorem Vk {G : Nat → Prop} {W w : World} {Rs : List HP} (hKN : RdS W G (.slice (some ⟨0, 0, none⟩) 6 6) kindsL) (hS0 : Sep G W Rs w) : Ret Tryd.prog 8 [] w (fun r w' => r = (.bool true : Value) ∧ Sep G W Rs w') := by
 have hKNs : _ * 8 ≤ _ := hKN.small
 refine zl (args := []) Tryd.func8 rfl rfl ?_
 refine za (R0 fun _ => st (aS (.bool false) (zb (za (R0 fun _ => st (zu (k := 1) (parts' := [(0, Iv 0), (1, Iv 0)]) (c := #[Iv 0, Iv 0]) pT qT rR dc rfl kr ?_))))))
 intro w3 b2 hQ
 let ae := evA.cells (Iy b2 2 2)
 have gR : Sep G W ((RwI (Iy b2 2 2) [0, 0]) :: Rs) w3 := Sep.blkRow (src := own) (l := [0, 0]) (css := [[Iv 0], [Iv 0]]) (hS0.new hQ) rfl ⟨fun _ _ => ⟨rfl, (by decide)⟩, fun _ _ => ⟨rfl, (by decide)⟩, trivial⟩ yqa (show 2 ≤ maxLen by decide)
 have gS := gR.r0
 have hr6s : _ * 8 ≤ _ := gS.2
 obtain ⟨G7, hR, hB10, gT, gU⟩ := gR.lend
 have bl := RowE.rd hR
 have hrd13s : _ * 8 ≤ _ := bl.small
 refine st (cL qY (XZ (o := 0) (sq := 1) (lm := 1) (ar := 1) (dp := [0, 0]) (vdp := (Iy b2 2 2)) dc dc dc dc bl gT) ?_)
 rintro _ w15 ⟨rfl, dy, gV⟩
 have gW := gU _ _ gV
 refine st (zr tT ?_)
 intro w20 L gX
 let hX := Blk L ae.toArray 59
 have cu := gW.new gX
 refine stn (zp (v := .agg ((⟨0, 1, 1, [0, 0], 0, 0, 0, 2, 1, 0⟩ : Ev).cells (Iy b2 2 2)).toArray) (c' := ((⟨0, 1, 1, [0, 0], 0, 0, 0, 2, 1, 0⟩ : Ev).cells (Iy b2 2 2)).toArray) lT rfl rfl (cu.b0) (zW ⟨rfl, rfl, rfl, gS.1.one, rfl, rfl, rfl, rfl, rfl, rfl, trivial⟩) yqc rfl ?_)
 intro w22 gY
 refine zb (za (R0 fun _ => st (zu (k := 1) (parts' := [(0, Iv 0), (1, Iv 0)]) (c := #[Iv 0, Iv 0]) pT qT rR dc rfl kr ?_)))
 intro w27 t gZ
 let id := evB.cells (Iy t 2 2)
 let hY := ((⟨1, 1, 2, [0, 0], 0, 0, 0, 2, 2, 0⟩ : Ev).cells (Iy t 2 2))
 have cv : Sep _ _ ((RwI (Iy t 2 2) [0, 0]) :: _) _ := Sep.blkRow (src := own) (l := [0, 0]) (css := [[Iv 0], [Iv 0]]) ((cu.pt0 gY).new gZ) rfl ⟨fun _ _ => ⟨rfl, (by decide)⟩, fun _ _ => ⟨rfl, (by decide)⟩, trivial⟩ yqa (show 2 ≤ maxLen by decide)
 have cw := cv.r0
 have hr30s : _ * 8 ≤ _ := cw.2
 obtain ⟨G31, ha, hB34, hb, hc⟩ := cv.lend
 have bm := RowE.rd ha
 have hrd37s : _ * 8 ≤ _ := bm.small
 refine st (cL qY (XZ (o := 1) (sq := 1) (lm := 2) (ar := 2) (dp := [0, 0]) (vdp := (Iy t 2 2)) dc dc dc dc bm hb) ?_)
 rintro _ w39 ⟨rfl, dz, hd⟩
 have he := hc _ _ hd
 refine st (zr tT ?_)
 intro w44 M hf
 let aq := Blk M (evB.cells (Iy t 2 2)).toArray 59
 have cx := he.new hf
 refine stn (zp (v := .agg hY.toArray) (c' := hY.toArray) lT rfl rfl (cx.b0) (zW ⟨rfl, rfl, rfl, cw.1.one, rfl, rfl, rfl, rfl, rfl, rfl, trivial⟩) yqc rfl ?_)
 intro w46 hg
 refine zb (za (R0 fun _ => st (zu (k := 1) (parts' := [(0, Iv 0), (1, Iv 1)]) (c := #[Iv 0, Iv 1]) pT qT rR dc rfl kr ?_)))
 intro w51 u hh
 let hV := ((⟨1, 2, 3, [0, 1], 0, 0, 0, 2, 3, 0⟩ : Ev).cells (Iy u 2 2))
 have cy : Sep _ _ ((RwI (Iy u 2 2) [0, 1]) :: _) _ := Sep.blkRow (src := own) (l := [0, 1]) (css := [[Iv 0], [Iv 1]]) ((cx.pt0 hg).new hh) rfl ⟨fun _ _ => ⟨rfl, (by decide)⟩, fun _ _ => ⟨rfl, (by decide)⟩, trivial⟩ yqa (show 2 ≤ maxLen by decide)
 have cz := cy.r0
 have hr54s : _ * 8 ≤ _ := cz.2
 obtain ⟨G55, hi, hB58, hj, hk⟩ := cy.lend
 have bn := RowE.rd hi
 have hrd61s : _ * 8 ≤ _ := bn.small
 refine st (cL qY (XZ (o := 1) (sq := 2) (lm := 3) (ar := 3) (dp := [0, 1]) (vdp := (Iy u 2 2)) dc dc dc dc bn hj) ?_)
 rintro _ w63 ⟨rfl, dB, hl⟩
 have hm := hk _ _ hl
 refine st (zr tT ?_)
 intro w68 N hn
 let hT := Blk N (evC.cells (Iy u 2 2)).toArray 59
 have cA := hm.new hn
 refine stn (zp (v := .agg hV.toArray) (c' := hV.toArray) lT rfl rfl (cA.b0) (zW ⟨rfl, rfl, rfl, cz.1.one, rfl, rfl, rfl, rfl, rfl, rfl, trivial⟩) yqc rfl ?_)
 intro A ho
 refine zb (za ?_)
 have q : evA.Ok := dy
 have hp : Sep G W ((Blk N hV.toArray 59) :: (RwI (Iy u 2 2) [0, 1]) :: (Blk M hY.toArray 59) :: (RwI (Iy t 2 2) [0, 0]) :: hX :: (RwI (Iy b2 2 2) [0, 0]) :: Rs) A := (cA.pt0 ho)
 have av : evB.Ok := dz
 have hq : Sep G W ((Blk N hV.toArray 59) :: (RwI (Iy u 2 2) [0, 1]) :: aq :: (RwI (Iy t 2 2) [0, 0]) :: hX :: (RwI (Iy b2 2 2) [0, 0]) :: Rs) A := hp
 have bp : evC.Ok := dB
 have hr : Sep G W (hT :: (RwI (Iy u 2 2) [0, 1]) :: aq :: (RwI (Iy t 2 2) [0, 0]) :: hX :: (RwI (Iy b2 2 2) [0, 0]) :: Rs) A := hq
 obtain ⟨G80, hs, Q, ht, hu⟩ := (hr.mv1).lend
 have aw := RowE.rd hs
 have hrd86s : _ * 8 ≤ _ := aw.small
 obtain ⟨G88, hw, J, hx, hy⟩ := (ht.mv2).lend
 have am := RowE.rd hw
 have hrd94s : _ * 8 ≤ _ := am.small
 obtain ⟨C, hz, D, dC, dD⟩ := (hx.mv3).lend
 have E := RowE.rd hz
 have hrd102s : _ * 8 ≤ _ := E.small
 refine R0 fun _ => st (zu (k := 1) (parts' := [(0, Iv 1), (1, Iv 2), (2, Iv 3)]) (c := #[Iv 1, Iv 2, Iv 3]) pT qT rR dc rfl kr ?_)
 intro hA z dE
 let hU := (RwI (Iy z 3 3) ([1, 2, 3] : List Int))
 refine st (aS (Iy z 3 3) (zb (za (za ?_))))
 have bq : Sep _ _ ((RwI (Iy z 3 3) [1, 2, 3]) :: _) _ := Sep.blkRow (src := own) (l := [1, 2, 3]) (css := [[Iv 1], [Iv 2], [Iv 3]]) (dC.new dE) rfl ⟨fun _ _ => ⟨rfl, (by decide)⟩, fun _ _ => ⟨rfl, (by decide)⟩, fun _ _ => ⟨rfl, (by decide)⟩, trivial⟩ yqa (show 3 ≤ maxLen by decide)
 have ad := bq.r0
 have hr108s : _ * 8 ≤ _ := ad.2
 have dF : Sep C A (hU :: hT :: aq :: hX :: Rs) hA := bq
 refine R0 fun _ => st (aS (Iv 0) (zb (zn (zX (fun mq σ wq => ∃ (k : Nat) (ρ : Env), mq = 3 - k ∧ σ = yb ρ [(0, .bool false), (1, Ix L 0), (2, Ix M 0), (3, Ix N 0), (4, (Iy z 3 3)), (5, Iw k)] ∧ (k ≤ 3) ∧ Sep C A ((RwI (Iy z 3 3) ([1, 2, 3] : List Int)) :: (Blk N (evC.cells (Iy u 2 2)).toArray 59) :: (Blk M (evB.cells (Iy t 2 2)).toArray 59) :: (Blk L (evA.cells (Iy b2 2 2)).toArray 59) :: Rs) wq) ⟨0, _, rfl, sSf, Nat.zero_le _, dF⟩ ?_))))
 rintro m111 σ112 w110 ⟨k, ρl1, rfl, rfl, hkk, O⟩
 refine za (za (R0 fun _ => st (mV (Iw k) (st (zD (k := .i64) (a := ((k : Nat) : Int)) (b := 3) rfl rfl (zb ?_))))))
 cases an : decide (((k : Nat) : Int) < 3)
 have an := fD an
 refine zi rfl (zU (zI (za ?_)))
 refine WD6 ((fun TT aK => WF [fun vals wq => Sep C A (aK :: TT) wq, fun vals wq => ∃ (m : Nat) (g : Nat), (vals 0 = (.agg #[(Iy m 1 1), Iz] : Value)) ∧ Sep C A ((Blk m #[(Iy g 1 1)] 33) :: (Blk g #[Iv 2, Iv 3, .bool false, Iz] 79) :: aK :: TT) wq, fun vals wq => ∃ (x : Nat), (vals 4 = ((Iy x 3 3) : Value)) ∧ Sep C A ((Blk x (evA.cells (Iy b2 2 2) ++ evB.cells (Iy t 2 2) ++ evC.cells (Iy u 2 2)).toArray 59) :: aK :: TT) wq, fun vals wq => ∃ (m : Nat) (g : Nat) (x : Nat), (vals 0 = (.agg #[(Iy m 1 1), Iz] : Value)) ∧ (vals 4 = ((Iy x 3 3) : Value)) ∧ Sep C A ((Blk x (evA.cells (Iy b2 2 2) ++ evB.cells (Iy t 2 2) ++ evC.cells (Iy u 2 2)).toArray 59) :: (Blk m #[(Iy g 1 1)] 33) :: (Blk g #[Iv 2, Iv 3, .bool false, Iz] 79) :: aK :: TT) wq, fun _ _ => True, fun _ _ => True, fun _ _ => True, fun vals wq => ∃ (m : Nat) (g : Nat) (x : Nat) (s : Nat), (vals 0 = (.agg #[(Iy m 1 1), Iz] : Value)) ∧ (vals 4 = ((Iy x 3 3) : Value)) ∧ (vals 5 = (Ix s 0 : Value)) ∧ Sep C A ((RowE (α := Fld) (shr C A) 79 (Iy g 1 1) [(⟨2, 3, false, []⟩ : Fld)]) :: (ViewO s (zS 3) (zY (zS 3) [evA, evB, evC]) (zY (zS 3) [evA, evB, evC])) :: aK :: TT) wq]) (hT :: aq :: hX :: Rs) hU) (AF [fun _ => True, Vl 1 (.agg ae.toArray), Vl 2 (.agg id.toArray), Vl 3 (.agg (evC.cells (Iy u 2 2)).toArray), fun _ => True, fun _ => True, fun vals => ∀ (s : Nat), vals 5 = (Ix s 0 : Value) → vals 6 = (Ix s 0 : Value)]) [[], [], [], [], [1, 2, 3], (rg 5), (rg 6)] [0, 4, 5] [[0, 2], [0, 1], [0, 1], [0, 1], [0, 1], [3], [7]] O ⟨?_, ?_, ?_, ?_, ?_, ?_, ?_, trivial⟩ ?_ (hlocA := yT ⟨dT, dA, dA, dA, dT, dT, fun vals Z hv h => fun s br => (hv 6 (.inl rfl)).trans (h s ((hv 5 (.inr dc)).symm.trans br)), trivial⟩)
 intro hB vals w216 dG bs hA217
 have aL : hB ∈ [0, 2] := dG
 simp only [List.mem_cons, List.not_mem_nil, or_false] at aL
 rcases aL with rfl | rfl
 have dH : Sep _ _ _ _ := bs
 refine obl rfl ((cL vT (xA (p := 3) dc dH) ?_))
 rintro _ w223 ⟨m, g, rfl, dI⟩
 exact fun Z hv ac => ⟨(Exists.intro m (Exists.intro g (And.intro hv dI))), trivial⟩
 obtain ⟨x, aa, dJ⟩ := bs
 refine obl rfl ((cL vT (xA (p := 3) dc dJ) ?_))
 rintro _ w228 ⟨m, g, rfl, dK⟩
 exact fun Z hv ac => ⟨(Exists.intro m (Exists.intro g (Exists.intro x (And.intro hv (And.intro ((ac 4 dc).trans aa) (dK.mv2)))))), trivial⟩
 intro hC vals w232 dL bt hA233
 have aM : hC ∈ [0, 1] := dL
 simp only [List.mem_cons, List.not_mem_nil, or_false] at aM
 rcases aM with rfl | rfl
 have dM : Sep _ _ _ _ := bt
 exact obl rfl (zg (k := 10) nT lT rfl rfl (CellsAt.all (dM.b3)) dR)
 obtain ⟨m, g, H, dN⟩ := bt
 exact obl rfl (zg (k := 10) nT lT rfl rfl (CellsAt.all (dN.b5)) dR)
 intro hD vals w239 dO bu hA240
 have aN : hD ∈ [0, 1] := dO
 simp only [List.mem_cons, List.not_mem_nil, or_false] at aN
 rcases aN with rfl | rfl
 have dP : Sep _ _ _ _ := bu
 exact obl rfl (zg (k := 10) nT lT rfl rfl (CellsAt.all (dP.b2)) dR)
 obtain ⟨m, g, H, dQ⟩ := bu
 exact obl rfl (zg (k := 10) nT lT rfl rfl (CellsAt.all (dQ.b4)) dR)
 intro hE vals w246 dS bv hA247
 have aO : hE ∈ [0, 1] := dS
 simp only [List.mem_cons, List.not_mem_nil, or_false] at aO
 rcases aO with rfl | rfl
 have dU : Sep _ _ _ _ := bv
 exact obl rfl (zg (k := 10) nT lT rfl rfl (CellsAt.all (dU.b1)) dR)
 obtain ⟨m, g, H, dV⟩ := bv
 exact obl rfl (zg (k := 10) nT lT rfl rfl (CellsAt.all (dV.b3)) dR)
 intro hF vals w253 dW bw ab
 have aP : hF ∈ [0, 1] := dW
 simp only [List.mem_cons, List.not_mem_nil, or_false] at aP
 rcases aP with rfl | rfl
 have dX : Sep _ _ _ _ := bw
 refine obl rfl ((zu (k := 10) (parts' := [(0, .agg ae.toArray), (1, .agg id.toArray), (2, .agg (evC.cells (Iy u 2 2)).toArray)]) (c := (evA.cells (Iy b2 2 2) ++ evB.cells (Iy t 2 2) ++ evC.cells (Iy u 2 2)).toArray) oT lT tT dc (xF ⟨rfl, (ab 1 dc), rfl, (ab 2 dc), rfl, (ab 3 dc), trivial⟩) kr ?_))
 intro w263 x dY
 exact fun Z hv ac => ⟨(Exists.intro x (And.intro hv (dX.new dY))), trivial⟩
 obtain ⟨m, g, H, dZ⟩ := bw
 refine obl rfl ((zu (k := 10) (parts' := [(0, .agg ae.toArray), (1, .agg id.toArray), (2, .agg (evC.cells (Iy u 2 2)).toArray)]) (c := (evA.cells (Iy b2 2 2) ++ evB.cells (Iy t 2 2) ++ evC.cells (Iy u 2 2)).toArray) oT lT tT dc (xF ⟨rfl, (ab 1 dc), rfl, (ab 2 dc), rfl, (ab 3 dc), trivial⟩) kr ?_))
 intro w271 x ea
 exact fun Z hv ac => ⟨(Exists.intro m (Exists.intro g (Exists.intro x (And.intro ((ac 0 dc).trans H) (And.intro hv (dZ.new ea)))))), trivial⟩
 intro hG vals ax eb ec hA275
 have aQ : hG ∈ [3] := eb
 simp only [List.mem_cons, List.not_mem_nil, or_false] at aQ
 subst aQ
 obtain ⟨m, g, x, H, aa, ed⟩ := ec
 refine obl rfl ?_
 have bx : Sep _ _ ((RowE (α := Fld) (shr C A) 79 (Iy g 1 1) [(⟨2, 3, false, []⟩ : Fld)]) :: _) _ := Sep.blkRow (src := (shr C A)) (l := [(⟨2, 3, false, []⟩ : Fld)]) (css := [(⟨2, 3, false, []⟩ : Fld).cells (Iz)]) (ed.mv2) rfl ⟨fun _ _ => ⟨_, rfl, (RdS.nil _ _), (show Fld.Ok (⟨2, 3, false, []⟩ : Fld) from ⟨by decide, by decide⟩)⟩, trivial⟩ yqa (show 1 ≤ maxLen by decide)
 have ee := bx.r0
 have hr281s : _ * 48 ≤ _ := ee.2
 obtain ⟨cB, ef, af, eg, eh⟩ := bx.lend
 have aR := RowE.rdB ef af
 have hrd288s : _ * 48 ≤ _ := aR.small
 have bz : Sep _ _ ((RowE (α := Typ) (shr cB ax) 33 (Iy m 1 1) [(⟨[(⟨2, 3, false, []⟩ : Fld)]⟩ : Typ)]) :: _) _ := Sep.blkRow (src := (shr cB ax)) (l := [(⟨[(⟨2, 3, false, []⟩ : Fld)]⟩ : Typ)]) (css := [(⟨[(⟨2, 3, false, []⟩ : Fld)]⟩ : Typ).cells (Iy g 1 1)]) (eg.mv1) rfl ⟨fun _ _ => ⟨_, rfl, aR, (show Typ.Ok (⟨[(⟨2, 3, false, []⟩ : Fld)]⟩ : Typ) from ⟨⟩)⟩, trivial⟩ yqa (show 1 ≤ maxLen by decide)
 have ei := bz.r0
 have hr291s : _ * 24 ≤ _ := ei.2
 obtain ⟨cC, ej, ah, ek, el⟩ := bz.lend
 have aT := RowE.rdB ej ah
 have hrd298s : _ * 24 ≤ _ := aT.small
 have bA : Sep _ _ ((RowE (α := Ev) (shr cC ax) 59 (Iy x 3 3) [evA, evB, evC]) :: _) _ := Sep.blkRow (src := (shr cC ax)) (l := [evA, evB, evC]) (css := [evA.cells (Iy b2 2 2), evB.cells (Iy t 2 2), evC.cells (Iy u 2 2)]) ek rfl ⟨fun _ _ => ⟨_, rfl, (RdS.base (RdS.base E af) ah), q⟩, fun _ _ => ⟨_, rfl, (RdS.base (RdS.base (RdS.base am D) af) ah), av⟩, fun _ _ => ⟨_, rfl, (RdS.base (RdS.base (RdS.base (RdS.base aw J) D) af) ah), bp⟩, trivial⟩ yqa (show 3 ≤ maxLen by decide)
 have em := bA.r0
 have hr300s : _ * 96 ≤ _ := em.2
 obtain ⟨G301, en, ay, eo, er⟩ := bA.lend
 have aU := RowE.rdB en ay
 have hrd307s : _ * 96 ≤ _ := aU.small
 refine (zV (f := 38) (vals := [.agg ((zS 3).cells (Iy m 1 1) (Iz)).toArray, (Iy x 3 3)]) (cap := []) rfl (yH ⟨H, aa, trivial⟩) Tryd.call38 (YH (d := (zS 3)) (l := [evA, evB, evC]) (vl := (Iy x 3 3)) (RdS.base aT ay) (RdS.nil _ _) (show Dcl.Ok (zS 3) from ⟨⟩) aU (RdS.base (RdS.base (RdS.base (RdS.base (RdS.base (RdS.base hKN Q) J) D) af) ah) ay) eo ((ZQ _)) (dc)) ?_)
 rintro _ w309 ⟨s, rfl, es⟩
 have et := er _ _ es
 have eu := el _ _ et
 have ew := eh _ _ eu
 exact fun Z hv ac => ⟨(Exists.intro m (Exists.intro g (Exists.intro x (Exists.intro s (And.intro ((ac 0 dc).trans H) (And.intro ((ac 4 dc).trans aa) (And.intro hv (ew.s8_adefgh)))))))), trivial⟩
 intro hH vals w316 ex ey hA317
 have aV : hH ∈ [7] := ex
 simp only [List.mem_cons, List.not_mem_nil, or_false] at aV
 subst aV
 obtain ⟨m, g, x, s, H, aa, ao, hS320⟩ := ey
 refine obl rfl (ym (v := Ix s 0) ao (fun Z hv ac => ⟨rfl, ?_⟩))
 intro b201q br
 rw [ac 5 (by decide)] at br; cases ao.symm.trans br
 exact hv
 intro vals hI ez eA
 obtain ⟨m, g, x, s, H, aa, ao, eB⟩ := ez
 let ib := ViewO s (zS 3) kz kz
 have hJ : vals 6 = (Ix s 0 : Value) := eA 6 dc s ao
 refine zZ (kv := [(0, .bool false), (1, Ix L 0), (2, Ix M 0), (3, Ix N 0), (4, (Iy z 3 3)), (5, Iw k), (25, Iw k), (26, .bool false), (7, Ix s 0)]) ⟨rfl, rfl, rfl, rfl, rfl, rfl, rfl, rfl, (by exact hJ), trivial⟩ (fun ρw321 => (zb (za (za (R0 fun _ => st (mV (Ix s 0) (st (xc (b := s) (o := 0) sR rfl (zb (zi rfl (zk (za ?_))))))))))))
 have eC : Sep C A ((RowE (α := Fld) (shr C A) 79 (Iy g 1 1) [(⟨2, 3, false, []⟩ : Fld)]) :: ib :: hU :: hT :: aq :: hX :: Rs) hI := eB
 refine R0 fun _ => st (mV (Ix s 0) (st (cL vY (yW  (eC.mv1)) ?_)))
 rintro au w329 ⟨_, rfl, bB⟩
 have eD := bB.r1
 have hr331s : _ * 120 ≤ _ := eD.2
 refine st (aS au (zb (za (R0 fun _ => st (mV (Ix s 0) (st (cL oR (xw (ty := 0) (no := 0) dc dc bB) ?_)))))))
 rintro _ w333 ⟨F, rfl, bC⟩
 let hS := (ye (zS 3) (0, 0) kz).cells F
 have bD := bC.r1
 have hr335s : _ * 32 ≤ _ := bD.2
 refine st (mV (.tuple #[.agg hS.toArray, .bool ((zh (zS 3) kz (0, 0)).isSome)]) (st (zt (vs := [.agg hS.toArray, .bool ((zh (zS 3) kz (0, 0)).isSome)]) (i := 0) (v := .agg hS.toArray) rfl rfl (st (zt (vs := [.agg hS.toArray, .bool ((zh (zS 3) kz (0, 0)).isSome)]) (i := 1) (v := .bool ((zh (zS 3) kz (0, 0)).isSome)) rfl rfl ?_)))))
 have cD : ((zh (zS 3) kz (0, 0)).isSome) = true := yqi
 rw [cD]
 refine st (zr pR ?_)
 intro w339 az eE
 have bE := bC.new eE
 refine stn (zp (v := .agg hS.toArray) (c' := hS.toArray) vR rfl rfl (bE.b0) (zW ⟨rfl, bD.1.one, trivial⟩) yqc rfl ?_)
 intro R eF
 refine st (aS (.bool true) (zb (za (za ?_))))
 obtain ⟨G345, eG, P, eH, eI⟩ := ((bE.pt0 eF).mv2).lend
 have S := RowE.rd eG
 have hrd351s : _ * 32 ≤ _ := S.small
 obtain ⟨T, eJ, B, I, eK⟩ := (eH.mv2).lend
 have y := RowE.rd eJ
 have hrd359s : _ * 120 ≤ _ := y.small
 refine zw kr (st (mV au (st (zA (n := kz.length) rT rfl y.sl (st (yh (k := .i64) (a := ((kz.length : Nat) : Int)) (b := 3) rfl rfl ?_))))))
 have cE : (!decide (((kz.length : Nat) : Int) = 3)) = false := yqi
 rw [cE]
 refine st (mV (.bool false) (sty rfl rfl (mV au ?_)))
 have eL : 0 < kz.length := yqk
 refine sty rfl rfl (ze (k := 13) (i := 0) rT sT rfl y.sl rfl eL (sty rfl rfl (xa rfl ?_)))
 have bF : 0 < kz.length := yqk
 obtain ⟨cF, bg, hoke362⟩ := y.entD bF
 have hsm364 : ((kz.getD 0 default).ev.deps).length * 8 ≤ 140737488355328 := bg.small
 have cG := I.cells cF (y.foot (ne_of_lt bF))
 refine sty rfl rfl (lD (.bool ((kz.getD 0 default).void)) uT rfl (cG.get (j := 10) rfl) ?_)
 have cH : ((kz.getD 0 default).void) = false := yqi
 rw [cH]
 refine st (zO (v := .bool false) rfl rfl (st (mV (.bool false) (sty rfl rfl (mV au ?_)))))
 have eM : 1 < kz.length := yqk
 refine sty rfl rfl (ze (k := 13) (i := 1) rT sT rfl y.sl rfl eM (sty rfl rfl (xa rfl ?_)))
 have bG : 1 < kz.length := yqk
 obtain ⟨cI, bh, hoke368⟩ := y.entD bG
 have hsm370 : ((kz.getD 1 default).ev.deps).length * 8 ≤ 140737488355328 := bh.small
 have cJ := I.cells cI (y.foot (ne_of_lt bG))
 refine sty rfl rfl (lD (.bool ((kz.getD 1 default).void)) uT rfl (cJ.get (j := 10) rfl) ?_)
 have cK : ((kz.getD 1 default).void) = false := yqi
 rw [cK]
 refine st (zO (v := .bool false) rfl rfl (st (mV (.bool false) (sty rfl rfl (mV au ?_)))))
 have eN : 2 < kz.length := yqk
 refine sty rfl rfl (ze (k := 13) (i := 2) rT sT rfl y.sl rfl eN (sty rfl rfl (xa rfl ?_)))
 have bH : 2 < kz.length := yqk
 obtain ⟨cM, bi, hoke374⟩ := y.entD bH
 have hsm376 : ((kz.getD 2 default).ev.deps).length * 8 ≤ 140737488355328 := bi.small
 have cN := I.cells cM (y.foot (ne_of_lt bH))
 refine sty rfl rfl (lD (.bool ((kz.getD 2 default).void)) uT rfl (cN.get (j := 10) rfl) ?_)
 have cO : ((kz.getD 2 default).void) = false := yqi
 rw [cO]
 refine st (zO (v := .bool false) rfl rfl (st (mV (.bool false) (sty rfl rfl (mV (.bool true) (sty rfl rfl (yc (a := true) rfl (st (zO (v := .bool false) rfl rfl (st (mV (.bool false) (sty rfl rfl (yw rfl (sty rfl rfl (lD F wT rfl (zd (I.b0) rfl) (sty rfl rfl (zA (n := (stL (zS 3) (0, 0) kz).length) lR rfl (RdS.base S B).sl (sty rfl rfl (yh (k := .i64) (a := (((stL (zS 3) (0, 0) kz).length : Nat) : Int)) (b := 1) rfl rfl ?_)))))))))))))))))))
 have cP : (!decide ((((stL (zS 3) (0, 0) kz).length : Nat) : Int) = 1)) = false := yqi
 rw [cP]
 refine st (zO (v := .bool false) rfl rfl (st (mV (.bool false) (sty rfl rfl (yw rfl (sty rfl rfl (lD F wT rfl (zd (I.b0) rfl) ?_)))))))
 have eO : 0 < (stL (zS 3) (0, 0) kz).length := yqk
 refine sty rfl rfl (ze (k := 2) (i := 0) lR qR rfl (RdS.base S B).sl rfl eO (sty rfl rfl (yL rfl ?_)))
 have bI : 0 < (stL (zS 3) (0, 0) kz).length := yqk
 obtain ⟨cQ, bj, hoke381⟩ := (RdS.base S B).celD bI
 have hsm383 : (((stL (zS 3) (0, 0) kz).getD 0 default).set).length * 8 ≤ 140737488355328 := bj.small
 have cR := I.cells cQ ((RdS.base S B).foot (ne_of_lt bI))
 refine sty rfl rfl (lD (Iv (((stL (zS 3) (0, 0) kz).getD 0 default).n)) mT rfl (cR.get (j := 0) rfl) (sty rfl rfl (yh (k := .i64) (a := ((stL (zS 3) (0, 0) kz).getD 0 default).n) (b := 3) rfl rfl ?_)))
 have cS : (!decide ((((stL (zS 3) (0, 0) kz).getD 0 default).n) = 3)) = false := yqi
 rw [cS]
 refine st (zO (v := .bool false) rfl rfl (st (mV (.bool false) (sty rfl rfl (Zm rfl (sty rfl rfl (lD (Iv ((ye (zS 3) (0, 0) kz).ver)) mT rfl (zd (I.b0) rfl) (sty rfl rfl (yh (k := .i64) (a := (ye (zS 3) (0, 0) kz).ver) (b := 3) rfl rfl ?_)))))))))
 have cT : (!decide (((ye (zS 3) (0, 0) kz).ver) = 3)) = false := yqi
 rw [cT]
 refine st (zO (v := .bool false) rfl rfl (zb (zi rfl (zk (za (R0 fun _ => st (zg (k := 10) nT lT rfl rfl (CellsAt.all (I.b6)) (st (zr tT ?_)))))))))
 intro w389 aA eP
 let hZ := Blk aA (evD.cells (Iy b2 2 2)).toArray 59
 have bJ := I.new eP
 refine stn (zp (v := .agg ae.toArray) (c' := ae.toArray) lT rfl rfl (bJ.b0) (zW ⟨rfl, rfl, rfl, (RdS.base (RdS.base E P) B).sl.one, rfl, rfl, rfl, rfl, rfl, rfl, trivial⟩) yqc rfl ?_)
 intro w391 eQ
 have bK := bJ.pt0 eQ
 refine zb (za (R0 fun _ => st (xh rfl (stn (yp (v := Iv 1) (c := [Iv (evA.origin), Iv (evA.seq), Iv (evA.lam), (Iy b2 2 2), Iv (evA.typ), Iv (evA.agg), Iv (evA.field), Iv (evA.op), Iv (evA.arg), Iv (evA.key)]) (c' := [Iv (evA.origin), Iv (evA.seq), Iv (evA.lam), (Iy b2 2 2), Iv (evA.typ), Iv (evA.agg), Iv (evA.field), Iv 1, Iv (evA.arg), Iv (evA.key)]) qT rfl rfl (bK.b0) rfl rfl rfl ?_)))))
 intro hK eR
 have eS : Ev.Ok (⟨evA.origin, evA.seq, evA.lam, [0, 0], evA.typ, evA.agg, evA.field, 1, evA.arg, evA.key⟩ : Ev) := ⟨(show InR (evA.origin) from q.origin), (show InR (evA.seq) from q.seq), (show InR (evA.lam) from q.lam), (show InR (evA.typ) from q.typ), (show InR (evA.agg) from q.agg), (show InR (evA.field) from q.field), (show InR (1) from dc), (show InR (evA.arg) from q.arg), (show InR (evA.key) from q.key)⟩
 refine zb (za ?_)
 have cU : evD.Ok := eS
 have bL : Sep T R (hZ :: (Blk az hS.toArray 68) :: ib :: (RowE (α := Fld) (shr C A) 79 (Iy g 1 1) [(⟨2, 3, false, []⟩ : Fld)]) :: hU :: hT :: aq :: hX :: Rs) hK := (bK.pt0 eR)
 refine R0 fun _ => st (zg (k := 10) nT lT rfl rfl (CellsAt.all (bL.b7)) (st (zr tT ?_)))
 intro w402 bk eT
 let ic := Blk bk (evE.cells (Iy b2 2 2)).toArray 59
 have bM := bL.new eT
 refine stn (zp (v := .agg ae.toArray) (c' := ae.toArray) lT rfl rfl (bM.b0) (zW ⟨rfl, rfl, rfl, (RdS.base (RdS.base E P) B).sl.one, rfl, rfl, rfl, rfl, rfl, rfl, trivial⟩) yqc rfl ?_)
 intro w404 eU
 have bN := bM.pt0 eU
 refine zb (za (R0 fun _ => st (yU rfl (stn (yp (v := Iv 7) (c := [Iv (evA.origin), Iv (evA.seq), Iv (evA.lam), (Iy b2 2 2), Iv (evA.typ), Iv (evA.agg), Iv (evA.field), Iv (evA.op), Iv (evA.arg), Iv (evA.key)]) (c' := [Iv (evA.origin), Iv (evA.seq), Iv (evA.lam), (Iy b2 2 2), Iv (evA.typ), Iv (evA.agg), Iv 7, Iv (evA.op), Iv (evA.arg), Iv (evA.key)]) qT rfl rfl (bN.b0) rfl rfl rfl ?_)))))
 intro hL eV
 have eW : Ev.Ok (⟨evA.origin, evA.seq, evA.lam, [0, 0], evA.typ, evA.agg, 7, evA.op, evA.arg, evA.key⟩ : Ev) := ⟨(show InR (evA.origin) from q.origin), (show InR (evA.seq) from q.seq), (show InR (evA.lam) from q.lam), (show InR (evA.typ) from q.typ), (show InR (evA.agg) from q.agg), (show InR (7) from dc), (show InR (evA.op) from q.op), (show InR (evA.arg) from q.arg), (show InR (evA.key) from q.key)⟩
 refine zb (za ?_)
 have cV : evE.Ok := eW
 have eX : Sep T R (ic :: hZ :: (Blk az hS.toArray 68) :: ib :: (RowE (α := Fld) (shr C A) 79 (Iy g 1 1) [(⟨2, 3, false, []⟩ : Fld)]) :: hU :: hT :: aq :: hX :: Rs) hL := (bN.pt0 eV)
 refine R0 fun _ => st (cL vT (xA (p := 1) dc eX) ?_)
 rintro _ cW ⟨eY, ap, rfl, eZ⟩
 have bO : Sep _ _ ((RowE (α := Fld) (shr T R) 79 (Iy ap 1 1) [(⟨2, 1, false, []⟩ : Fld)]) :: _) _ := Sep.blkRow (src := (shr T R)) (l := [(⟨2, 1, false, []⟩ : Fld)]) (css := [(⟨2, 1, false, []⟩ : Fld).cells (Iz)]) (eZ.mv1) rfl ⟨fun _ _ => ⟨_, rfl, (RdS.nil _ _), (show Fld.Ok (⟨2, 1, false, []⟩ : Fld) from ⟨by decide, by decide⟩)⟩, trivial⟩ yqa (show 1 ≤ maxLen by decide)
 have fa := bO.r0
 have hr419s : _ * 48 ≤ _ := fa.2
 obtain ⟨cX, fb, fc, fd, fe⟩ := bO.lend
 have aW := RowE.rdB fb fc
 have hrd426s : _ * 48 ≤ _ := aW.small
 have bP : Sep _ _ ((RowE (α := Typ) (shr cX cW) 33 (Iy eY 1 1) [(⟨[(⟨2, 1, false, []⟩ : Fld)]⟩ : Typ)]) :: _) _ := Sep.blkRow (src := (shr cX cW)) (l := [(⟨[(⟨2, 1, false, []⟩ : Fld)]⟩ : Typ)]) (css := [(⟨[(⟨2, 1, false, []⟩ : Fld)]⟩ : Typ).cells (Iy ap 1 1)]) fd rfl ⟨fun _ _ => ⟨_, rfl, aW, (show Typ.Ok (⟨[(⟨2, 1, false, []⟩ : Fld)]⟩ : Typ) from ⟨⟩)⟩, trivial⟩ yqa (show 1 ≤ maxLen by decide)
 have ff := bP.r0
 have hr428s : _ * 24 ≤ _ := ff.2
 obtain ⟨G429, fg, fh, fi, fj⟩ := bP.lend
 have aX := RowE.rdB fg fh
 have hrd435s : _ * 24 ≤ _ := aX.small
 refine st (cL tY (Ww (d := (zS 1)) aX (RdS.nil _ _) (show Dcl.Ok (zS 1) from ⟨⟩) fi) ?_)
 rintro _ w437 ⟨U, rfl, fk⟩
 have fl := fj _ _ fk
 have fm := fe _ _ fl
 have bQ := fm.s12_acdefghijkl
 refine st (aS (Ix U 0) (zb (za (za (R0 fun _ => st (mV (Ix U 0) (st (xc (b := U) (o := 0) sR rfl (zb (zi rfl (zk (za (R0 fun _ => st (mV (Ix U 0) (st (zg (k := 10) nT lT rfl rfl (CellsAt.all (bQ.b3)) (st (cL uR (WT (e := evD) (RdS.base (RdS.base E P) B) cU (RdS.base (RdS.base (RdS.base (RdS.base (RdS.base hKN Q) J) D) P) B) (bQ.mv1) ((ZQ _)) ((Inv.nil _)) (dc)) ?_))))))))))))))))))
 rintro _ w444 ⟨ak, rfl, bR⟩
 let ia := (ya (zS 1) [] evD).cells ak
 have bS := bR.r1
 have hr446s : _ * 8 ≤ _ := bS.2
 refine st (zr wY ?_)
 intro w449 cY fn
 have bT := bR.new fn
 refine stn (zp (v := .agg ia.toArray) (c' := ia.toArray) sT rfl rfl (bT.b0) (zW ⟨rfl, rfl, rfl, bS.1.one, rfl, rfl, rfl, rfl, rfl, rfl, rfl, rfl, rfl, trivial⟩) yqc rfl ?_)
 intro hM fo
 refine zb (za ?_)
 have bU : Sep T R ((Blk cY ia.toArray 62) :: (ViewO U (zS 1) kw1 kw1) :: (RwI ak evD.deps) :: (RowE (α := Fld) (shr T R) 79 (Iy ap 1 1) [(⟨2, 1, false, []⟩ : Fld)]) :: ic :: hZ :: (Blk az hS.toArray 68) :: ib :: (RowE (α := Fld) (shr C A) 79 (Iy g 1 1) [(⟨2, 3, false, []⟩ : Fld)]) :: hU :: hT :: aq :: hX :: Rs) hM := (bT.pt0 fo)
 refine R0 fun _ => st (mV (Ix U 0) (st (zg (k := 10) nT lT rfl rfl (CellsAt.all (bU.b4)) (st (cL uR (WT (e := evE) (RdS.base (RdS.base E P) B) cV (RdS.base (RdS.base (RdS.base (RdS.base (RdS.base hKN Q) J) D) P) B) (bU.mv1) ((ZQ _)) (KI) (dc)) ?_)))))
 rintro _ w457 ⟨aB, rfl, bV⟩
 let ie := (ya (zS 1) kw1 evE).cells aB
 have bW := bV.r1
 have hr459s : _ * 8 ≤ _ := bW.2
 refine st (zr wY ?_)
 intro w462 hN fp
 have bX := bV.new fp
 refine stn (zp (v := .agg ie.toArray) (c' := ie.toArray) sT rfl rfl (bX.b0) (zW ⟨rfl, rfl, rfl, bW.1.one, rfl, rfl, rfl, rfl, rfl, rfl, rfl, rfl, rfl, trivial⟩) yqc rfl ?_)
 intro hO fq
 refine zb (za ?_)
 have fr : Sep T R ((Blk hN ie.toArray 62) :: (ViewO U (zS 1) kw2 kw2) :: (RwI aB evE.deps) :: (Blk cY ia.toArray 62) :: (RwI ak evD.deps) :: (RowE (α := Fld) (shr T R) 79 (Iy ap 1 1) [(⟨2, 1, false, []⟩ : Fld)]) :: ic :: hZ :: (Blk az hS.toArray 68) :: ib :: (RowE (α := Fld) (shr C A) 79 (Iy g 1 1) [(⟨2, 3, false, []⟩ : Fld)]) :: hU :: hT :: aq :: hX :: Rs) hO := (bX.pt0 fq)
 refine R0 fun _ => st (mV (Ix U 0) (st (cL oR (xw (ty := 0) (no := 0) dc dc (fr.mv1)) ?_)))
 rintro _ w470 ⟨al, rfl, bY⟩
 let hW := (ye (zS 1) (0, 0) kw2).cells al
 have bZ := bY.r1
 have hr472s : _ * 32 ≤ _ := bZ.2
 refine st (mV (.tuple #[.agg hW.toArray, .bool ((zh (zS 1) kw2 (0, 0)).isSome)]) (st (zt (vs := [.agg hW.toArray, .bool ((zh (zS 1) kw2 (0, 0)).isSome)]) (i := 0) (v := .agg hW.toArray) rfl rfl (st (zt (vs := [.agg hW.toArray, .bool ((zh (zS 1) kw2 (0, 0)).isSome)]) (i := 1) (v := .bool ((zh (zS 1) kw2 (0, 0)).isSome)) rfl rfl ?_)))))
 have cZ : ((zh (zS 1) kw2 (0, 0)).isSome) = false := yqi
 rw [cZ]
 refine st (zr pR ?_)
 intro w476 b475 fs
 have ca := bY.new fs
 refine stn (zp (v := .agg hW.toArray) (c' := hW.toArray) vR rfl rfl (ca.b0) (zW ⟨rfl, bZ.1.one, trivial⟩) yqc rfl ?_)
 intro w478 ft
 have ai := ca.pt0 ft
 refine st (aS (.bool false) (zb (za (zw kr (st (xa rfl (st (lD (.bool ((ya (zS 1) [] evD).void)) uT rfl (zd (ai.b5) rfl) ?_))))))))
 have da : ((ya (zS 1) [] evD).void) = true := yqi
 rw [da]
 refine st (mV (.bool true) (sty rfl rfl (Zk rfl (sty rfl rfl (zg (k := 2) (cs := [Iv ((ya (zS 1) [] evD).byO), Iv ((ya (zS 1) [] evD).byS)]) lA mA rfl rfl (CellsAt.sub (CellsAt.all (ai.b5)) 11 (cs2 := [Iv ((ya (zS 1) [] evD).byO), Iv ((ya (zS 1) [] evD).byS)]) rfl) (sty rfl rfl (zQ (parts' := []) (v := .agg #[Iv 0, Iv 0]) rfl yqf (sty rfl rfl (xH (e := decide ((ya (zS 1) [] evD).byO = 0 ∧ (ya (zS 1) [] evD).byS = 0)) (xs := #[Iv ((ya (zS 1) [] evD).byO), Iv ((ya (zS 1) [] evD).byS)]) (ys := #[Iv 0, Iv 0]) Wa rfl rfl ?_)))))))))
 have db : (decide ((ya (zS 1) [] evD).byO = 0 ∧ (ya (zS 1) [] evD).byS = 0)) = true := yqi
 rw [db]
 refine st (zN (v := .bool true) rfl rfl (st (mV (.bool true) (sty rfl rfl (xa rfl (sty rfl rfl (lD (.bool ((ya (zS 1) kw1 evE).void)) uT rfl (zd (ai.b3) rfl) ?_)))))))
 have dd : ((ya (zS 1) kw1 evE).void) = true := yqi
 rw [dd]
 refine st (zN (v := .bool true) rfl rfl (st (mV (.bool true) (sty rfl rfl (Zk rfl (sty rfl rfl (zg (k := 2) (cs := [Iv ((ya (zS 1) kw1 evE).byO), Iv ((ya (zS 1) kw1 evE).byS)]) lA mA rfl rfl (CellsAt.sub (CellsAt.all (ai.b3)) 11 (cs2 := [Iv ((ya (zS 1) kw1 evE).byO), Iv ((ya (zS 1) kw1 evE).byS)]) rfl) (sty rfl rfl (zQ (parts' := []) (v := .agg #[Iv 0, Iv 0]) rfl yqf (sty rfl rfl (xH (e := decide ((ya (zS 1) kw1 evE).byO = 0 ∧ (ya (zS 1) kw1 evE).byS = 0)) (xs := #[Iv ((ya (zS 1) kw1 evE).byO), Iv ((ya (zS 1) kw1 evE).byS)]) (ys := #[Iv 0, Iv 0]) Wa rfl rfl ?_)))))))))))
 have de : (decide ((ya (zS 1) kw1 evE).byO = 0 ∧ (ya (zS 1) kw1 evE).byS = 0)) = true := yqi
 rw [de]
 refine st (zN (v := .bool true) rfl rfl (st (mV (.bool true) (sty rfl rfl (mV (.bool false) (sty rfl rfl (yc (a := false) rfl (st (zN (v := .bool true) rfl rfl (st (mV (.bool true) (sty rfl rfl (cL tR (xj  (RdS.base (RdS.base (RdS.base (RdS.base (RdS.base hKN Q) J) D) P) B) ai) ?_)))))))))))))
 rintro _ hP ⟨rfl, fu⟩
 refine st (zN (v := .bool true) rfl rfl (st (aS (.bool true) (zb (zm (zL Tryd.results8 (show _ = (.bool true : Value) from rfl) ?_))))))
 have fv := eK _ _ fu
 have fw := eI _ _ fv
 have fx := dD _ _ fw
 have fy := hy _ _ fx
 have fz := hu _ _ fy
 have fA : Sep G W Rs hP := fz.sel 22 [] (Nat.le_add_left _ _) rfl rfl
 refine ⟨rfl, fA⟩
 have an := tD an
 refine zj rfl (zk (za (zn (za (R0 fun _ => st (zg (k := 10) nT lT rfl rfl (CellsAt.all (O.b3)) (st (zg (k := 10) nT lT rfl rfl (CellsAt.all (O.b2)) (st (zg (k := 10) nT lT rfl rfl (CellsAt.all (O.b1)) (st (zg (k := 10) nT lT rfl rfl (CellsAt.all (O.b2)) (st (zg (k := 10) nT lT rfl rfl (CellsAt.all (O.b3)) ?_))))))))))))))
 refine st (zu (k := 10) (parts' := [(0, .agg ae.toArray), (1, .agg id.toArray), (2, .agg (evC.cells (Iy u 2 2)).toArray), (3, .agg id.toArray), (4, .agg ae.toArray)]) (c := (evA.cells (Iy b2 2 2) ++ evB.cells (Iy t 2 2) ++ evC.cells (Iy u 2 2) ++ evB.cells (Iy t 2 2) ++ evA.cells (Iy b2 2 2)).toArray) oT lT tT dc rfl kr ?_)
 intro V K fB
 refine st (aS (Iy K 5 5) (zb (za ?_)))
 have cb : Sep _ _ ((RowE (α := Ev) (shr C A) 59 (Iy K 5 5) [evA, evB, evC, evB, evA]) :: _) _ := Sep.blkRow (src := (shr C A)) (l := [evA, evB, evC, evB, evA]) (css := [evA.cells (Iy b2 2 2), evB.cells (Iy t 2 2), evC.cells (Iy u 2 2), evB.cells (Iy t 2 2), evA.cells (Iy b2 2 2)]) (O.new fB) rfl ⟨fun _ _ => ⟨_, rfl, E, q⟩, fun _ _ => ⟨_, rfl, (RdS.base am D), av⟩, fun _ _ => ⟨_, rfl, (RdS.base (RdS.base aw J) D), bp⟩, fun _ _ => ⟨_, rfl, (RdS.base am D), av⟩, fun _ _ => ⟨_, rfl, E, q⟩, trivial⟩ yqa (show 5 ≤ maxLen by decide)
 have fC := cb.r0
 have hr498s : _ * 96 ≤ _ := fC.2
 obtain ⟨X, fE, aj, cc, fF⟩ := cb.lend
 have Y := RowE.rdB fE aj
 have hrd505s : _ * 96 ≤ _ := Y.small
 have hpk : InR (([1, 2, 3] : List Int).getD k 0) := pk_in k
 refine zw kr (st (mV (Iy z 3 3) (st (mV (Iw k) ?_))))
 have fG : k < ([1, 2, 3] : List Int).length := yqk
 refine st (ze (k := 1) (i := k) pT qT rfl ad.1 rfl fG ?_)
 have fH : k < ([1, 2, 3] : List Int).length := yqk
 obtain ⟨_, _, df, rfl, dg⟩ := cc.rowAtI (i := 0) (j := k) rfl fH
 refine st (lD (Iv ((([1, 2, 3] : List Int).getD k 0))) mT rfl (df.get (j := 0) rfl) (st (cL vT (xA (p := (([1, 2, 3] : List Int).getD k 0)) dg cc) ?_)))
 rintro _ dh ⟨fI, cd, rfl, fJ⟩
 refine st (mV (Iy K 5 5) ?_)
 have ce : Sep _ _ ((RowE (α := Fld) (shr X V) 79 (Iy cd 1 1) [(⟨2, (([1, 2, 3] : List Int).getD k 0), false, []⟩ : Fld)]) :: _) _ := Sep.blkRow (src := (shr X V)) (l := [(⟨2, (([1, 2, 3] : List Int).getD k 0), false, []⟩ : Fld)]) (css := [(⟨2, (([1, 2, 3] : List Int).getD k 0), false, []⟩ : Fld).cells (Iz)]) (fJ.mv1) rfl ⟨fun _ _ => ⟨_, rfl, (RdS.nil _ _), (show Fld.Ok (⟨2, (([1, 2, 3] : List Int).getD k 0), false, []⟩ : Fld) from ⟨(show InR 2 by decide), hpk⟩)⟩, trivial⟩ yqa (show 1 ≤ maxLen by decide)
 have fK := ce.r0
 have hr515s : _ * 48 ≤ _ := fK.2
 obtain ⟨di, fL, aC, fM, fN⟩ := ce.lend
 have aY := RowE.rdB fL aC
 have hrd522s : _ * 48 ≤ _ := aY.small
 have cf : Sep _ _ ((RowE (α := Typ) (shr di dh) 33 (Iy fI 1 1) [(⟨[(⟨2, (([1, 2, 3] : List Int).getD k 0), false, []⟩ : Fld)]⟩ : Typ)]) :: _) _ := Sep.blkRow (src := (shr di dh)) (l := [(⟨[(⟨2, (([1, 2, 3] : List Int).getD k 0), false, []⟩ : Fld)]⟩ : Typ)]) (css := [(⟨[(⟨2, (([1, 2, 3] : List Int).getD k 0), false, []⟩ : Fld)]⟩ : Typ).cells (Iy cd 1 1)]) fM rfl ⟨fun _ _ => ⟨_, rfl, aY, (show Typ.Ok (⟨[(⟨2, (([1, 2, 3] : List Int).getD k 0), false, []⟩ : Fld)]⟩ : Typ) from ⟨⟩)⟩, trivial⟩ yqa (show 1 ≤ maxLen by decide)
 have fO := cf.r0
 have hr524s : _ * 24 ≤ _ := fO.2
 obtain ⟨G525, fP, aD, fQ, fR⟩ := cf.lend
 have aZ := RowE.rdB fP aD
 have hrd531s : _ * 24 ≤ _ := aZ.small
 refine st (cL Tryd.call4 (VM (d := (zS (([1, 2, 3] : List Int).getD k 0))) (n := 1) (l := [evA, evB, evC, evB, evA]) (vl := (Iy K 5 5)) aZ (RdS.nil _ _) (show Dcl.Ok (zS (([1, 2, 3] : List Int).getD k 0)) from ⟨⟩) dc (RdS.base (RdS.base Y aC) aD) (RdS.base (RdS.base (RdS.base (RdS.base (RdS.base (RdS.base hKN Q) J) D) aj) aC) aD) fQ) ?_)
 rintro _ w532 ⟨rfl, fS⟩
 have fT := fR _ _ fS
 have fU := fN _ _ fT
 have cg := fU.s6_acdef
 refine st (yc (a := true) rfl (st (mV (.bool false) (sty rfl rfl (mV (Iy z 3 3) (sty rfl rfl (mV (Iw k) ?_)))))))
 have fV : k < ([1, 2, 3] : List Int).length := yqk
 refine sty rfl rfl (ze (k := 1) (i := k) pT qT rfl ad.1 rfl fV ?_)
 have fW : k < ([1, 2, 3] : List Int).length := yqk
 obtain ⟨_, _, dj, rfl, dk⟩ := cg.rowAtI (i := 1) (j := k) rfl fW
 refine sty rfl rfl (lD (Iv ((([1, 2, 3] : List Int).getD k 0))) mT rfl (dj.get (j := 0) rfl) (sty rfl rfl (cL vT (xA (p := (([1, 2, 3] : List Int).getD k 0)) dk cg) ?_)))
 rintro _ dl ⟨fX, ch, rfl, fY⟩
 refine sty rfl rfl (mV (Iy K 5 5) ?_)
 have ci : Sep _ _ ((RowE (α := Fld) (shr X V) 79 (Iy ch 1 1) [(⟨2, (([1, 2, 3] : List Int).getD k 0), false, []⟩ : Fld)]) :: _) _ := Sep.blkRow (src := (shr X V)) (l := [(⟨2, (([1, 2, 3] : List Int).getD k 0), false, []⟩ : Fld)]) (css := [(⟨2, (([1, 2, 3] : List Int).getD k 0), false, []⟩ : Fld).cells (Iz)]) (fY.mv1) rfl ⟨fun _ _ => ⟨_, rfl, (RdS.nil _ _), (show Fld.Ok (⟨2, (([1, 2, 3] : List Int).getD k 0), false, []⟩ : Fld) from ⟨(show InR 2 by decide), hpk⟩)⟩, trivial⟩ yqa (show 1 ≤ maxLen by decide)
 have fZ := ci.r0
 have hr546s : _ * 48 ≤ _ := fZ.2
 obtain ⟨dm, ga, aE, gc, gd⟩ := ci.lend
 have ba := RowE.rdB ga aE
 have hrd553s : _ * 48 ≤ _ := ba.small
 have cj : Sep _ _ ((RowE (α := Typ) (shr dm dl) 33 (Iy fX 1 1) [(⟨[(⟨2, (([1, 2, 3] : List Int).getD k 0), false, []⟩ : Fld)]⟩ : Typ)]) :: _) _ := Sep.blkRow (src := (shr dm dl)) (l := [(⟨[(⟨2, (([1, 2, 3] : List Int).getD k 0), false, []⟩ : Fld)]⟩ : Typ)]) (css := [(⟨[(⟨2, (([1, 2, 3] : List Int).getD k 0), false, []⟩ : Fld)]⟩ : Typ).cells (Iy ch 1 1)]) gc rfl ⟨fun _ _ => ⟨_, rfl, ba, (show Typ.Ok (⟨[(⟨2, (([1, 2, 3] : List Int).getD k 0), false, []⟩ : Fld)]⟩ : Typ) from ⟨⟩)⟩, trivial⟩ yqa (show 1 ≤ maxLen by decide)
 have ge := cj.r0
 have hr555s : _ * 24 ≤ _ := ge.2
 obtain ⟨G556, gf, aF, gg, gh⟩ := cj.lend
 have bb := RowE.rdB gf aF
 have hrd562s : _ * 24 ≤ _ := bb.small
 refine sty rfl rfl (cL Tryd.call5 (VE (d := (zS (([1, 2, 3] : List Int).getD k 0))) (n := 1) (l := [evA, evB, evC, evB, evA]) (vl := (Iy K 5 5)) bb (RdS.nil _ _) (show Dcl.Ok (zS (([1, 2, 3] : List Int).getD k 0)) from ⟨⟩) dc (RdS.base (RdS.base Y aE) aF) (RdS.base (RdS.base (RdS.base (RdS.base (RdS.base (RdS.base hKN Q) J) D) aj) aE) aF) gg) ?_)
 rintro _ w563 ⟨rfl, gi⟩
 have gj := gh _ _ gi
 have gk := gd _ _ gj
 have ck := gk.s7_acdefg
 refine sty rfl rfl (yc (a := true) rfl (st (zO (v := .bool false) rfl rfl (st (mV (.bool false) (sty rfl rfl (mV (Iy z 3 3) (sty rfl rfl (mV (Iw k) ?_)))))))))
 have gl : k < ([1, 2, 3] : List Int).length := yqk
 refine sty rfl rfl (ze (k := 1) (i := k) pT qT rfl ad.1 rfl gl ?_)
 have gm : k < ([1, 2, 3] : List Int).length := yqk
 obtain ⟨_, _, dq, rfl, dr⟩ := ck.rowAtI (i := 2) (j := k) rfl gm
 refine sty rfl rfl (lD (Iv ((([1, 2, 3] : List Int).getD k 0))) mT rfl (dq.get (j := 0) rfl) (sty rfl rfl (cL vT (xA (p := (([1, 2, 3] : List Int).getD k 0)) dr ck) ?_)))
 rintro _ ds ⟨gn, cl, rfl, go⟩
 refine sty rfl rfl (mV (Iy K 5 5) ?_)
 have cm : Sep _ _ ((RowE (α := Fld) (shr X V) 79 (Iy cl 1 1) [(⟨2, (([1, 2, 3] : List Int).getD k 0), false, []⟩ : Fld)]) :: _) _ := Sep.blkRow (src := (shr X V)) (l := [(⟨2, (([1, 2, 3] : List Int).getD k 0), false, []⟩ : Fld)]) (css := [(⟨2, (([1, 2, 3] : List Int).getD k 0), false, []⟩ : Fld).cells (Iz)]) (go.mv1) rfl ⟨fun _ _ => ⟨_, rfl, (RdS.nil _ _), (show Fld.Ok (⟨2, (([1, 2, 3] : List Int).getD k 0), false, []⟩ : Fld) from ⟨(show InR 2 by decide), hpk⟩)⟩, trivial⟩ yqa (show 1 ≤ maxLen by decide)
 have gp := cm.r0
 have hr577s : _ * 48 ≤ _ := gp.2
 obtain ⟨dt, gq, aG, gr, gs⟩ := cm.lend
 have bc := RowE.rdB gq aG
 have hrd584s : _ * 48 ≤ _ := bc.small
 have cn : Sep _ _ ((RowE (α := Typ) (shr dt ds) 33 (Iy gn 1 1) [(⟨[(⟨2, (([1, 2, 3] : List Int).getD k 0), false, []⟩ : Fld)]⟩ : Typ)]) :: _) _ := Sep.blkRow (src := (shr dt ds)) (l := [(⟨[(⟨2, (([1, 2, 3] : List Int).getD k 0), false, []⟩ : Fld)]⟩ : Typ)]) (css := [(⟨[(⟨2, (([1, 2, 3] : List Int).getD k 0), false, []⟩ : Fld)]⟩ : Typ).cells (Iy cl 1 1)]) gr rfl ⟨fun _ _ => ⟨_, rfl, bc, (show Typ.Ok (⟨[(⟨2, (([1, 2, 3] : List Int).getD k 0), false, []⟩ : Fld)]⟩ : Typ) from ⟨⟩)⟩, trivial⟩ yqa (show 1 ≤ maxLen by decide)
 have gt := cn.r0
 have hr586s : _ * 24 ≤ _ := gt.2
 obtain ⟨G587, gu, aH, gv, gw⟩ := cn.lend
 have bd := RowE.rdB gu aH
 have hrd593s : _ * 24 ≤ _ := bd.small
 refine sty rfl rfl (cL Tryd.call6 (Vv (d := (zS (([1, 2, 3] : List Int).getD k 0))) (n := 1) (l := [evA, evB, evC, evB, evA]) (vl := (Iy K 5 5)) bd (RdS.nil _ _) (show Dcl.Ok (zS (([1, 2, 3] : List Int).getD k 0)) from ⟨⟩) dc (RdS.base (RdS.base Y aG) aH) (RdS.base (RdS.base (RdS.base (RdS.base (RdS.base (RdS.base hKN Q) J) D) aj) aG) aH) gv) ?_)
 rintro _ w594 ⟨rfl, gx⟩
 have gy := gw _ _ gx
 have gz := gs _ _ gy
 have co := gz.s8_acdefgh
 refine sty rfl rfl (yc (a := true) rfl (st (zO (v := .bool false) rfl rfl (st (mV (.bool false) (sty rfl rfl (mV (Iy z 3 3) (sty rfl rfl (mV (Iw k) ?_)))))))))
 have gA : k < ([1, 2, 3] : List Int).length := yqk
 refine sty rfl rfl (ze (k := 1) (i := k) pT qT rfl ad.1 rfl gA ?_)
 have gB : k < ([1, 2, 3] : List Int).length := yqk
 obtain ⟨_, _, du, rfl, dv⟩ := co.rowAtI (i := 3) (j := k) rfl gB
 refine sty rfl rfl (lD (Iv ((([1, 2, 3] : List Int).getD k 0))) mT rfl (du.get (j := 0) rfl) (sty rfl rfl (cL vT (xA (p := (([1, 2, 3] : List Int).getD k 0)) dv co) ?_)))
 rintro _ dw ⟨gC, cp, rfl, gD⟩
 refine sty rfl rfl (mV (Iy K 5 5) (sty rfl rfl (mV (Iw k) ?_)))
 have cq : InR ((k + 1 : Nat) : Int) := bo
 refine sty rfl rfl (zH (r := ((k + 1 : Nat) : Int)) (k := .i64) (a := ((k : Nat) : Int)) (b := 1) rfl rfl (by rw [show (((k : Nat) : Int) + 1 : Int) = ((k + 1 : Nat) : Int) from bo]; exact zz cq) ?_)
 have cr : Sep _ _ ((RowE (α := Fld) (shr X V) 79 (Iy cp 1 1) [(⟨2, (([1, 2, 3] : List Int).getD k 0), false, []⟩ : Fld)]) :: _) _ := Sep.blkRow (src := (shr X V)) (l := [(⟨2, (([1, 2, 3] : List Int).getD k 0), false, []⟩ : Fld)]) (css := [(⟨2, (([1, 2, 3] : List Int).getD k 0), false, []⟩ : Fld).cells (Iz)]) (gD.mv1) rfl ⟨fun _ _ => ⟨_, rfl, (RdS.nil _ _), (show Fld.Ok (⟨2, (([1, 2, 3] : List Int).getD k 0), false, []⟩ : Fld) from ⟨(show InR 2 by decide), hpk⟩)⟩, trivial⟩ yqa (show 1 ≤ maxLen by decide)
 have gE := cr.r0
 have hr609s : _ * 48 ≤ _ := gE.2
 obtain ⟨dx, gF, aI, gG, gH⟩ := cr.lend
 have be := RowE.rdB gF aI
 have hrd616s : _ * 48 ≤ _ := be.small
 have ct : Sep _ _ ((RowE (α := Typ) (shr dx dw) 33 (Iy gC 1 1) [(⟨[(⟨2, (([1, 2, 3] : List Int).getD k 0), false, []⟩ : Fld)]⟩ : Typ)]) :: _) _ := Sep.blkRow (src := (shr dx dw)) (l := [(⟨[(⟨2, (([1, 2, 3] : List Int).getD k 0), false, []⟩ : Fld)]⟩ : Typ)]) (css := [(⟨[(⟨2, (([1, 2, 3] : List Int).getD k 0), false, []⟩ : Fld)]⟩ : Typ).cells (Iy cp 1 1)]) gG rfl ⟨fun _ _ => ⟨_, rfl, be, (show Typ.Ok (⟨[(⟨2, (([1, 2, 3] : List Int).getD k 0), false, []⟩ : Fld)]⟩ : Typ) from ⟨⟩)⟩, trivial⟩ yqa (show 1 ≤ maxLen by decide)
 have gI := ct.r0
 have hr618s : _ * 24 ≤ _ := gI.2
 obtain ⟨G619, gJ, aJ, gK, gL⟩ := ct.lend
 have bf := RowE.rdB gJ aJ
 have hrd625s : _ * 24 ≤ _ := bf.small
 refine sty rfl rfl (cL Tryd.call7 (WC (d := (zS (([1, 2, 3] : List Int).getD k 0))) (n := 1) (l := [evA, evB, evC, evB, evA]) (vl := (Iy K 5 5)) (no := ((k + 1 : Nat) : Int)) (ty := 0) (ag := 0) bf (RdS.nil _ _) (show Dcl.Ok (zS (([1, 2, 3] : List Int).getD k 0)) from ⟨⟩) dc (RdS.base (RdS.base Y aI) aJ) cq dc dc (RdS.base (RdS.base (RdS.base (RdS.base (RdS.base (RdS.base hKN Q) J) D) aj) aI) aJ) gK) ?_)
 rintro _ w626 ⟨rfl, gM⟩
 have gN := gL _ _ gM
 have gO := gH _ _ gN
 refine sty rfl rfl (yc (a := true) rfl (st (zO (v := .bool false) rfl rfl (zb (zi rfl (zk (R0 fun _ => st (mV (Iw k) ?_))))))))
 have gP : InR ((k + 1 : Nat) : Int) := bo
 refine st (zH (r := ((k + 1 : Nat) : Int)) (k := .i64) (a := ((k : Nat) : Int)) (b := 1) rfl rfl (by rw [show (((k : Nat) : Int) + 1 : Int) = ((k + 1 : Nat) : Int) from bo]; exact zz gP) (st (aS (Iw (k + 1)) (zb ?_))))
 have gQ := fF _ _ (gO.s9_acdefghi)
 exact ⟨_, by omega, k + 1, _, rfl, sSf, by omega, (gQ.s9_fghi)⟩

theorem Vh {w : World} (hK : RdS w (XD w) (.slice (some ⟨0, 0, none⟩) 6 6) kindsL) : Ret Tryd.prog 8 [] w (fun r w' => r = .bool true ∧ Ext w w') :=
  Ret.mono (Vk  hK (Sep.start w)) (fun r w' h => ⟨h.1, h.2.fin⟩)
end Go.Proofs.YtlblilbmpdejgaaDoor
