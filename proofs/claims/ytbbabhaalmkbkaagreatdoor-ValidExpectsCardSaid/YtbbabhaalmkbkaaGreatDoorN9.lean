import Derived.Test.YtbbabhaalmkbkaaGreatDoorN8
set_option linter.unusedSimpArgs false
set_option linter.unusedVariables false
set_option linter.unusedSectionVars false
set_option linter.deprecated false
set_option maxRecDepth 8000
set_option maxHeartbeats 4000000
open Go.Proofs.Tryz renaming sizeOf28 → kT, isAgg28 → lT, sizeOf41 → mT, zeroValue41 → nT, call11 → oT, sizeOf25 → pT, isAgg41 → qT, isAgg25 → rT, call23 → sT, sizeOf3 → tT, isAgg3 → uT, call17 → vT, call7 → wT, results5 → kR, zeroValue28 → lR, underlying4 → mR, call10 → nR, underlying33 → oR, underlying34 → pR, call8 → qR
namespace Go.Proofs.YtbbabhaalmkbkaaGreatDoor
open Go.Proofs Go.RowKit
theorem yqf {p : Prop} (h : p := by decide +kernel) : p := h

theorem ZT {d : Dcl} {n : Nat} {L : List Ev} {V : List Ent} {o start : Int} {c : Cmd} (oc : c.Ok) (ho : InR o) (hs : InR start) (hL : ∀ e ∈ L, e.Ok) (hl : L.length ≤ 1000000) : (exR d n L V o start c).1.Ok := by
  by_cases h : yY d c = 0
  · cases hk : (yN L c.ckey).isSome with
    | true => rw [XP h hk]; exact zat hL hk
    | false =>
      by_cases hx : xp c ((zU (c.ctyp, c.cagg) V : Nat) : Int) = 0
      · by_cases hm : yP (xT d c.ctyp) (zY d (c.ctyp, c.cagg) V) c.cfield c.cop c.carg = 0
        · rw [KE h hk hx hm]
          have h9 := Vh (n := n) (L := L) o
          have h8 := Ko hL
          exact zaQ oc ho (by omega) (by omega)
        · rw [QZ h hk hx hm]; exact Vb
      · rw [Jo h hk hx]; exact Vb
  · rw [Wj h]; exact Vb
def dF : Dcl := ⟨[⟨[⟨1, 1, true, []⟩]⟩], []⟩
theorem YP : DclOk dF := by
  have one : ∀ {P : Nat → Prop}, P 0 → ∀ i, i < 1 → P i := fun {P} h i hi => (show i = 0 by omega) ▸ h
  refine ⟨Nat.le_refl 1, (by show 1 ≤ 8; decide), one (P := fun i => TypOk (dF.types.getD i default)) ?_⟩
  refine ⟨Nat.le_refl 1, (by show 1 ≤ 8; decide), ?_, ?_, ?_, ?_⟩
  · intro i hi; obtain rfl : i = 0 := by have : i < 1 := hi; omega
    exact ⟨(by decide : (1 : Int) ≤ 1), (by decide : (1 : Int) ≤ 4)⟩
  · intro i hi h; obtain rfl : i = 0 := by have : i < 1 := hi; omega
    rfl
  · intro i hi; obtain rfl : i = 0 := by have : i < 1 := hi; omega
    exact ⟨fun h => absurd h (by show ¬ (1 : Int) = 4; decide), Nat.zero_le _⟩
  · intro i hi j hj; obtain rfl : i = 0 := by have : i < 1 := hi; omega
    exact absurd hj (Nat.not_lt_zero j)
theorem xg {G : Nat → Prop} {W w : World} {Rs : List HP}  (hS0 : Sep G W Rs w) : Ret Tryz.prog 23 [] w (fun r w' => ∃ (bt : Nat) (bf : Nat), r = (.agg #[(.slice (some ⟨bt, 0, none⟩) 1 1), .slice none 0 0] : Value) ∧ Sep G W ((Blk bt #[(.slice (some ⟨bf, 0, none⟩) 1 1)] 53) :: (Blk bf #[.int .i64 (1), .int .i64 (1), .bool true, .slice none 0 0] 110) :: Rs) w') := by
 refine zi (args := []) Tryz.func23 rfl rfl ?_
 refine za (R0 fun _ => st (zr Tryz.zeroValue25 ?_))
 intro w3 b2 h
 refine zd (za (yq (by kernel_rfl) (fun _ => (st (zI (parts' := [(0, Iv 1), (1, Iv 1), (2, .bool true)]) (v := .agg #[Iv 1, Iv 1, .bool true, (Iz)]) rfl (by simp +zetaDelta [Instr.build, Instr.fill, Ev.cells, go_sem, Mv.cells, Fld.cells, Typ.cells, Prj.cells, Dcl.cells, Cel.cells, AskR.cells, CelS.cells, Ev.cells, Ent.cells, Sta.cells, Cmd.cells]) (st (zS (k := 4) (parts' := [(0, .agg #[Iv 1, Iv 1, .bool true, (Iz)])]) (c := #[Iv 1, Iv 1, .bool true, (Iz)]) Tryz.underlying51 Tryz.sizeOf110 Tryz.zeroValue110 (by decide) rfl (by kernel_rfl) ?_)))))))
 intro w7 d i
 refine st (zI (parts' := [(0, (Iy d 1 1))]) (v := .agg #[(Iy d 1 1)]) rfl (by simp +zetaDelta [Instr.build, Instr.fill, Ev.cells, go_sem, Mv.cells, Fld.cells, Typ.cells, Prj.cells, Dcl.cells, Cel.cells, AskR.cells, CelS.cells, Ev.cells, Ent.cells, Sta.cells, Cmd.cells]) (st (zS (k := 1) (parts' := [(0, .agg #[(Iy d 1 1)])]) (c := #[(Iy d 1 1)]) Tryz.underlying22 Tryz.sizeOf53 Tryz.zeroValue53 (by decide) rfl (by kernel_rfl) ?_)))
 intro w11 a j
 have e := ((hS0.new h).new i).new j
 refine st (zI (parts' := [(0, (Iy a 1 1))]) (v := .agg #[(Iy a 1 1), (Iz)]) rfl (by simp +zetaDelta [Instr.build, Instr.fill, Ev.cells, go_sem, Mv.cells, Fld.cells, Typ.cells, Prj.cells, Dcl.cells, Cel.cells, AskR.cells, CelS.cells, Ev.cells, Ent.cells, Sta.cells, Cmd.cells]) (stn (zp (v := .agg #[(Iy a 1 1), (Iz)]) (c' := #[(Iy a 1 1), (Iz)]) pT rfl rfl (e.b2) (zW ⟨rfl, rfl, trivial⟩) yqc rfl ?_)))
 intro w13 g
 have f := e.pt2 g
 refine zd (zk (Qn (b := b2) Tryz.results23 rT pT rfl rfl (CellsAt.all (f.b2)) ?_))
 refine ⟨a, d, rfl, (f.s3_ab)⟩

set_option maxHeartbeats 8000000 in
set_option maxRecDepth 20000 in
theorem ZG {G : Nat → Prop} {W w : World} {Rs : List HP} (hKN : RdS W G (.slice (some ⟨0, 0, none⟩) 6 6) kindsL) (hS0 : Sep G W Rs w) : Ret Tryz.prog 7 [] w (fun r w' => r = (.bool true : Value) ∧ Sep G W Rs w') := by
 have hKNs : _ * 8 ≤ _ := hKN.small
 refine zi (args := []) Tryz.func7 rfl rfl ?_
 refine za (R0 fun _ => st (aS (.bool false) (zd (za (R0 fun _ => st (cL sT (xg  hS0) ?_))))))
 rintro _ w3 ⟨bJ, ao, rfl, iJ⟩
 have hB : Sep _ _ ((RowE (α := Fld) (shr G W) 110 (Iy ao 1 1) [(⟨1, 1, true, []⟩ : Fld)]) :: _) _ := Sep.blkRow (src := (shr G W)) (l := [(⟨1, 1, true, []⟩ : Fld)]) (css := [(⟨1, 1, true, []⟩ : Fld).cells (Iz)]) (iJ.mv1) rfl ⟨fun _ _ => ⟨_, rfl, (RdS.nil _ _), (show Fld.Ok (⟨1, 1, true, []⟩ : Fld) from ⟨by decide, by decide⟩)⟩, trivial⟩ yqa (show 1 ≤ maxLen by decide)
 have iK := hB.r0
 have hr7s : _ * 48 ≤ _ := iK.2
 obtain ⟨G8, hD, cR, hE, hF⟩ := hB.lend
 have bK := RowE.rdB hD cR
 have hrd14s : _ * 48 ≤ _ := bK.small
 have cS : Sep G8 w3 ((RowE (α := Typ) (shr G8 w3) 53 (Iy bJ 1 1) [(⟨[(⟨1, 1, true, []⟩ : Fld)]⟩ : Typ)]) :: Rs) w3 := Sep.blkRow (src := (shr G8 w3)) (l := [(⟨[(⟨1, 1, true, []⟩ : Fld)]⟩ : Typ)]) (css := [(⟨[(⟨1, 1, true, []⟩ : Fld)]⟩ : Typ).cells (Iy ao 1 1)]) hE rfl ⟨fun _ _ => ⟨_, rfl, bK, (show Typ.Ok (⟨[(⟨1, 1, true, []⟩ : Fld)]⟩ : Typ) from ⟨⟩)⟩, trivial⟩ yqa (show 1 ≤ maxLen by decide)
 have hG := cS.r0
 have hr16s : _ * 24 ≤ _ := hG.2
 obtain ⟨G17, hH, cT, hI, hJ⟩ := cS.lend
 have bL := RowE.rdB hH cT
 have hrd23s : _ * 24 ≤ _ := bL.small
 refine st (cL nR (UZ (d := dF) (n := 2) (l := ([] : List Ev)) (vl := (Iz)) bL (RdS.nil _ _) (⟨⟩ : Dcl.Ok dF) yqe (RdS.nil _ _) (RdS.base (RdS.base hKN cR) cT) hI (YP) ((Nat.zero_le _))) ?_)
 rintro _ iL ⟨A, B, rfl, hK⟩
 let iR := (ViewO B dF ([] : List Ent) ([] : List Ent))
 have hL := hJ _ _ hK
 have hM := hF _ _ hL
 refine st (mV (.tuple #[Ix A 0, Ix B 0]) (st (zj (vs := [Ix A 0, Ix B 0]) (i := 0) (v := Ix A 0) rfl rfl (st (zj (vs := [Ix A 0, Ix B 0]) (i := 1) (v := Ix B 0) rfl rfl (st (aS (Ix A 0) (st (aS (Ix B 0) (zd (za (za ?_))))))))))))
 have hN : Sep G W ((RowE (α := Fld) (shr G W) 110 (Iy ao 1 1) [(⟨1, 1, true, []⟩ : Fld)]) :: (SetO A 2 ([] : List Ev)) :: iR :: Rs) iL := (hM.s4_acd)
 refine zv kr (st (mV (Ix A 0) (st (xZ (b := A) (o := 0) oR rfl (st (mV (.bool false) (sty rfl rfl (mV (Ix B 0) (sty rfl rfl (xZ (b := B) (o := 0) pR rfl (st (zZ (v := .bool false) rfl rfl (zd (zg rfl (zl (za (R0 fun _ => ?_)))))))))))))))))
 have cU : Cmd.Ok (⟨0, 0, 0, 1, 3, 0, 7⟩ : Cmd) := ⟨(show InR (0) from dc), (show InR (0) from dc), (show InR (0) from dc), (show InR (1) from dc), (show InR (3) from dc), (show InR (0) from dc), (show InR (7) from dc)⟩
 refine st (zI (parts' := [(3, Iv 1), (4, Iv 3), (6, Iv 7)]) (v := .agg ((⟨0, 0, 0, 1, 3, 0, 7⟩ : Cmd).cells).toArray) rfl (by simp +zetaDelta [Instr.build, Instr.fill, Ev.cells, go_sem, Mv.cells, Fld.cells, Typ.cells, Prj.cells, Dcl.cells, Cel.cells, AskR.cells, CelS.cells, Ev.cells, Ent.cells, Sta.cells, Cmd.cells]) (st (zr lR ?_)))
 intro w35 Z hO
 have cV := hN.new hO
 refine stn (zp (v := .agg ((⟨0, 0, 0, 1, 3, 0, 7⟩ : Cmd).cells).toArray) (c' := ((⟨0, 0, 0, 1, 3, 0, 7⟩ : Cmd).cells).toArray) kT rfl rfl (cV.b0) (zW ⟨rfl, rfl, rfl, rfl, rfl, rfl, rfl, trivial⟩) yqc rfl ?_)
 intro w37 hP
 refine zd (za ?_)
 refine WD6 ((fun R S T U => WF [fun vals O => Sep G W (R :: S :: T :: U :: Rs) O, fun vals O => ∃ (z : Nat) (x : Nat), (vals 0 = (.agg #[(Iy z 1 1), Iz] : Value)) ∧ Sep G W ((Blk z #[(Iy x 1 1)] 53) :: (Blk x #[Iv 1, Iv 1, .bool true, Iz] 110) :: R :: S :: T :: U :: Rs) O, fun _ _ => True, fun vals O => ∃ (z : Nat) (x : Nat) (e : Value), (vals 0 = (.agg #[(Iy z 1 1), Iz] : Value)) ∧ (vals 4 = (.tuple #[.agg ((exR dF 2 ([] : List Ev) ([] : List Ent) 1 10 (⟨0, 0, 0, 1, 3, 0, 7⟩ : Cmd)).1.cells e).toArray, .bool ((exR dF 2 ([] : List Ev) ([] : List Ent) 1 10 (⟨0, 0, 0, 1, 3, 0, 7⟩ : Cmd)).2.1), Iv ((exR dF 2 ([] : List Ev) ([] : List Ent) 1 10 (⟨0, 0, 0, 1, 3, 0, 7⟩ : Cmd)).2.2)] : Value)) ∧ Sep G W ((RowE (α := Fld) (shr G W) 110 (Iy x 1 1) [(⟨1, 1, true, []⟩ : Fld)]) :: T :: U :: (DepO e ((exR dF 2 ([] : List Ev) ([] : List Ent) 1 10 (⟨0, 0, 0, 1, 3, 0, 7⟩ : Cmd)).1.deps)) :: R :: S :: Rs) O, fun vals O => ∃ (C : Nat), (vals 9 = (Ix C 0 : Value)) ∧ Sep G W ((Blk C #[Iv 0, Iv 0, Iv 0, (Iz), Iv 0, Iv 0, Iv 0, Iv 0, Iv 0, Iv 0] 41) :: R :: S :: T :: U :: Rs) O, fun vals O => ∃ (z : Nat) (x : Nat) (C : Nat), (vals 0 = (.agg #[(Iy z 1 1), Iz] : Value)) ∧ (vals 9 = (Ix C 0 : Value)) ∧ Sep G W ((Blk z #[(Iy x 1 1)] 53) :: (Blk x #[Iv 1, Iv 1, .bool true, Iz] 110) :: (Blk C #[Iv 0, Iv 0, Iv 0, (Iz), Iv 0, Iv 0, Iv 0, Iv 0, Iv 0, Iv 0] 41) :: R :: S :: T :: U :: Rs) O, fun _ _ => True, fun vals O => ∃ (z : Nat) (x : Nat) (e : Value) (C : Nat), (vals 0 = (.agg #[(Iy z 1 1), Iz] : Value)) ∧ (vals 4 = (.tuple #[.agg ((exR dF 2 ([] : List Ev) ([] : List Ent) 1 10 (⟨0, 0, 0, 1, 3, 0, 7⟩ : Cmd)).1.cells e).toArray, .bool ((exR dF 2 ([] : List Ev) ([] : List Ent) 1 10 (⟨0, 0, 0, 1, 3, 0, 7⟩ : Cmd)).2.1), Iv ((exR dF 2 ([] : List Ev) ([] : List Ent) 1 10 (⟨0, 0, 0, 1, 3, 0, 7⟩ : Cmd)).2.2)] : Value)) ∧ (vals 9 = (Ix C 0 : Value)) ∧ Sep G W ((Blk C #[Iv 0, Iv 0, Iv 0, (Iz), Iv 0, Iv 0, Iv 0, Iv 0, Iv 0, Iv 0] 41) :: (RowE (α := Fld) (shr G W) 110 (Iy x 1 1) [(⟨1, 1, true, []⟩ : Fld)]) :: T :: U :: (DepO e ((exR dF 2 ([] : List Ev) ([] : List Ent) 1 10 (⟨0, 0, 0, 1, 3, 0, 7⟩ : Cmd)).1.deps)) :: R :: S :: Rs) O, fun _ _ => True, fun _ _ => True, fun _ _ => True, fun _ _ => True, fun _ _ => True, fun _ _ => True, fun _ _ => True, fun vals O => ∃ (z : Nat) (x : Nat) (e : Value) (C : Nat), (vals 0 = (.agg #[(Iy z 1 1), Iz] : Value)) ∧ (vals 4 = (.tuple #[.agg ((exR dF 2 ([] : List Ev) ([] : List Ent) 1 10 (⟨0, 0, 0, 1, 3, 0, 7⟩ : Cmd)).1.cells e).toArray, .bool ((exR dF 2 ([] : List Ev) ([] : List Ent) 1 10 (⟨0, 0, 0, 1, 3, 0, 7⟩ : Cmd)).2.1), Iv ((exR dF 2 ([] : List Ev) ([] : List Ent) 1 10 (⟨0, 0, 0, 1, 3, 0, 7⟩ : Cmd)).2.2)] : Value)) ∧ (vals 9 = (Ix C 0 : Value)) ∧ Sep G W ((Blk C ((exR dF 2 ([] : List Ev) ([] : List Ent) 1 10 (⟨0, 0, 0, 1, 3, 0, 7⟩ : Cmd)).1.cells e).toArray 41) :: (RowE (α := Fld) (shr G W) 110 (Iy x 1 1) [(⟨1, 1, true, []⟩ : Fld)]) :: T :: U :: (DepO e ((exR dF 2 ([] : List Ev) ([] : List Ent) 1 10 (⟨0, 0, 0, 1, 3, 0, 7⟩ : Cmd)).1.deps)) :: R :: S :: Rs) O]) (Blk Z ((⟨0, 0, 0, 1, 3, 0, 7⟩ : Cmd).cells).toArray 28) (RowE (α := Fld) (shr G W) 110 (Iy ao 1 1) [(⟨1, 1, true, []⟩ : Fld)]) (SetO A 2 ([] : List Ev)) iR) (AF [fun _ => True, Vl 1 (Ix A 0), Vl 2 (Ix B 0), Vl 3 (.agg ((⟨0, 0, 0, 1, 3, 0, 7⟩ : Cmd).cells).toArray), fun _ => True, fun vals => ∀ (e : Value), vals 4 = (.tuple #[.agg ((exR dF 2 ([] : List Ev) ([] : List Ent) 1 10 (⟨0, 0, 0, 1, 3, 0, 7⟩ : Cmd)).1.cells e).toArray, .bool ((exR dF 2 ([] : List Ev) ([] : List Ent) 1 10 (⟨0, 0, 0, 1, 3, 0, 7⟩ : Cmd)).2.1), Iv ((exR dF 2 ([] : List Ev) ([] : List Ent) 1 10 (⟨0, 0, 0, 1, 3, 0, 7⟩ : Cmd)).2.2)] : Value) → vals 5 = (.tuple #[.agg ((exR dF 2 ([] : List Ev) ([] : List Ent) 1 10 (⟨0, 0, 0, 1, 3, 0, 7⟩ : Cmd)).1.cells e).toArray, .bool ((exR dF 2 ([] : List Ev) ([] : List Ent) 1 10 (⟨0, 0, 0, 1, 3, 0, 7⟩ : Cmd)).2.1), Iv ((exR dF 2 ([] : List Ev) ([] : List Ent) 1 10 (⟨0, 0, 0, 1, 3, 0, 7⟩ : Cmd)).2.2)] : Value), fun vals => ∀ (e : Value), vals 4 = (.tuple #[.agg ((exR dF 2 ([] : List Ev) ([] : List Ent) 1 10 (⟨0, 0, 0, 1, 3, 0, 7⟩ : Cmd)).1.cells e).toArray, .bool ((exR dF 2 ([] : List Ev) ([] : List Ent) 1 10 (⟨0, 0, 0, 1, 3, 0, 7⟩ : Cmd)).2.1), Iv ((exR dF 2 ([] : List Ev) ([] : List Ent) 1 10 (⟨0, 0, 0, 1, 3, 0, 7⟩ : Cmd)).2.2)] : Value) → vals 6 = (.agg ((exR dF 2 ([] : List Ev) ([] : List Ent) 1 10 (⟨0, 0, 0, 1, 3, 0, 7⟩ : Cmd)).1.cells e).toArray : Value), Vl 7 (.bool ((exR dF 2 ([] : List Ev) ([] : List Ent) 1 10 (⟨0, 0, 0, 1, 3, 0, 7⟩ : Cmd)).2.1)), Vl 8 (Iv ((exR dF 2 ([] : List Ev) ([] : List Ent) 1 10 (⟨0, 0, 0, 1, 3, 0, 7⟩ : Cmd)).2.2)), fun _ => True, fun _ => True, Vl 11 (.bool ((exR dF 2 ([] : List Ev) ([] : List Ent) 1 10 (⟨0, 0, 0, 1, 3, 0, 7⟩ : Cmd)).2.1)), Vl 12 (Iv ((exR dF 2 ([] : List Ev) ([] : List Ent) 1 10 (⟨0, 0, 0, 1, 3, 0, 7⟩ : Cmd)).2.2))]) [[], [], [], [], (rg 4), (rg 5), (rg 6), (rg 6), (rg 6), [], [0, 1, 2, 3, 4, 5, 6, 9], [0, 1, 2, 3, 4, 5, 6, 7, 9, 10], (rg 12)] [0, 4, 9, 10] [[0, 4], [0, 1, 4, 5], [0, 1, 4, 5], [0, 1, 4, 5], [1, 5], [3, 7], [3, 7], [3, 7, 15], [3, 7, 15], [0, 1, 3], [7], [15], [15]] (cV.pt0 hP) ⟨?_, fun _ _ _ _ _ _ => obl rfl (mV (Ix A 0) dR), fun _ _ _ _ _ _ => obl rfl (mV (Ix B 0) dR), ?_, ?_, ?_, ?_, ?_, ?_, ?_, ?_, fun _ _ _ _ _ eh => obl rfl (zR (v := .bool ((exR dF 2 ([] : List Ev) ([] : List Ent) 1 10 (⟨0, 0, 0, 1, 3, 0, 7⟩ : Cmd)).2.1)) (eh 7 dc) dR), fun _ _ _ _ _ ei => obl rfl (zR (v := Iv ((exR dF 2 ([] : List Ev) ([] : List Ent) 1 10 (⟨0, 0, 0, 1, 3, 0, 7⟩ : Cmd)).2.2)) (ei 8 dc) dR), trivial⟩ ?_ (hlocA := yW ⟨dT, dA, dA, dA, dT, fun vals u y h => fun e H => (y 5 (.inl rfl)).trans (h e ((y 4 (.inr dc)).symm.trans H)), fun vals u y h => fun e H => (y 6 (.inl rfl)).trans (h e ((y 4 (.inr dc)).symm.trans H)), dA, dA, dT, dT, dA, dA, trivial⟩)
 intro hQ vals w184 ej bM hA185
 have aP : hQ ∈ [0, 4] := ej
 simp only [List.mem_cons, List.not_mem_nil, or_false] at aP
 rcases aP with rfl | rfl
 have ek : Sep _ _ _ _ := bM
 refine obl rfl ((cL sT (xg  ek) ?_))
 rintro _ w191 ⟨z, x, rfl, el⟩
 exact fun u y m => ⟨(Exists.intro z (Exists.intro x (And.intro y el))), trivial⟩
 obtain ⟨C, N, em⟩ := bM
 refine obl rfl ((cL sT (xg  em) ?_))
 rintro _ w196 ⟨z, x, rfl, en⟩
 exact fun u y m => ⟨(Exists.intro z (Exists.intro x (Exists.intro C (And.intro y (And.intro ((m 9 dc).trans N) en))))), trivial⟩
 intro hR vals w209 eo ab hA210
 have aQ : hR ∈ [0, 1, 4, 5] := eo
 simp only [List.mem_cons, List.not_mem_nil, or_false] at aQ
 rcases aQ with rfl | rfl | rfl | rfl
 have er : Sep _ _ _ _ := ab
 exact obl rfl (zf (k := 7) lT kT rfl rfl (CellsAt.all (er.b0)) dR)
 obtain ⟨z, x, M, es⟩ := ab
 exact obl rfl (zf (k := 7) lT kT rfl rfl (CellsAt.all (es.b2)) dR)
 obtain ⟨C, N, et⟩ := ab
 exact obl rfl (zf (k := 7) lT kT rfl rfl (CellsAt.all (et.b1)) dR)
 obtain ⟨z, x, C, M, N, eu⟩ := ab
 exact obl rfl (zf (k := 7) lT kT rfl rfl (CellsAt.all (eu.b3)) dR)
 intro hS vals aA ew bN V
 have aR : hS ∈ [1, 5] := ew
 simp only [List.mem_cons, List.not_mem_nil, or_false] at aR
 rcases aR with rfl | rfl
 obtain ⟨z, x, M, ex⟩ := bN
 refine obl rfl ?_
 have bO : Sep _ _ ((RowE (α := Fld) (shr G W) 110 (Iy x 1 1) [(⟨1, 1, true, []⟩ : Fld)]) :: _) _ := Sep.blkRow (src := (shr G W)) (l := [(⟨1, 1, true, []⟩ : Fld)]) (css := [(⟨1, 1, true, []⟩ : Fld).cells (Iz)]) (ex.mv1) rfl ⟨fun _ _ => ⟨_, rfl, (RdS.nil _ _), (show Fld.Ok (⟨1, 1, true, []⟩ : Fld) from ⟨by decide, by decide⟩)⟩, trivial⟩ yqa (show 1 ≤ maxLen by decide)
 have ey := bO.r0
 have hr228s : _ * 48 ≤ _ := ey.2
 obtain ⟨cW, ez, bP, eA, eB⟩ := bO.lend
 have aT := RowE.rdB ez bP
 have hrd235s : _ * 48 ≤ _ := aT.small
 have bQ : Sep _ _ ((RowE (α := Typ) (shr cW aA) 53 (Iy z 1 1) [(⟨[(⟨1, 1, true, []⟩ : Fld)]⟩ : Typ)]) :: _) _ := Sep.blkRow (src := (shr cW aA)) (l := [(⟨[(⟨1, 1, true, []⟩ : Fld)]⟩ : Typ)]) (css := [(⟨[(⟨1, 1, true, []⟩ : Fld)]⟩ : Typ).cells (Iy x 1 1)]) eA rfl ⟨fun _ _ => ⟨_, rfl, aT, (show Typ.Ok (⟨[(⟨1, 1, true, []⟩ : Fld)]⟩ : Typ) from ⟨⟩)⟩, trivial⟩ yqa (show 1 ≤ maxLen by decide)
 have eC := bQ.r0
 have hr237s : _ * 24 ≤ _ := eC.2
 obtain ⟨G238, eD, bR, eE, eF⟩ := bQ.lend
 have aU := RowE.rdB eD bR
 have hrd244s : _ * 24 ≤ _ := aU.small
 obtain ⟨G246, bS, bT, eG, eH⟩ := (eE.mv2).lend
 obtain ⟨vv252, m253, R254, hb255, eI, hr257⟩ := SetO.sh bS
 have hsm258 : (zu 2 ([] : List Ev)).length * 8 ≤ 140737488355328 := eI.small
 refine (zB (f := 11) (vals := [.agg (dF.cells (Iy z 1 1) (Iz)).toArray, Ix A 0, Ix B 0, Iv 1, Iv 10, .agg ((⟨0, 0, 0, 1, 3, 0, 7⟩ : Cmd).cells).toArray]) (cap := []) rfl (yE ⟨M, (V 1 dc), (V 2 dc), rfl, rfl, (V 3 dc), trivial⟩) oT (Zb (d := dF) (o := 1) (start := 10) (c := (⟨0, 0, 0, 1, 3, 0, 7⟩ : Cmd)) (RdS.base aU bT) (RdS.nil _ _) (⟨⟩ : Dcl.Ok dF) bS dc dc cU (RdS.base (RdS.base (RdS.base hKN bP) bR) bT) (eG.mv2) (YP) ((Inv.nil dF)) ((Nat.zero_le _)) (List.Pairwise.nil) ((Good.nil (n := 2)).srt) ((Nat.zero_le _)) (dc)) ?_)
 rintro _ w261 ⟨e, rfl, eJ⟩
 have eK := eH _ _ eJ
 have eL := eF _ _ eK
 have eM := eB _ _ eL
 exact fun u y m => ⟨(Exists.intro z (Exists.intro x (Exists.intro e (And.intro ((m 0 dc).trans M) (And.intro y (eM.s7_acdefg)))))), trivial⟩
 obtain ⟨z, x, C, M, N, eN⟩ := bN
 refine obl rfl ?_
 have bU : Sep _ _ ((RowE (α := Fld) (shr G W) 110 (Iy x 1 1) [(⟨1, 1, true, []⟩ : Fld)]) :: _) _ := Sep.blkRow (src := (shr G W)) (l := [(⟨1, 1, true, []⟩ : Fld)]) (css := [(⟨1, 1, true, []⟩ : Fld).cells (Iz)]) (eN.mv1) rfl ⟨fun _ _ => ⟨_, rfl, (RdS.nil _ _), (show Fld.Ok (⟨1, 1, true, []⟩ : Fld) from ⟨by decide, by decide⟩)⟩, trivial⟩ yqa (show 1 ≤ maxLen by decide)
 have eO := bU.r0
 have hr273s : _ * 48 ≤ _ := eO.2
 obtain ⟨cX, eP, bV, eQ, eR⟩ := bU.lend
 have aV := RowE.rdB eP bV
 have hrd280s : _ * 48 ≤ _ := aV.small
 have bW : Sep _ _ ((RowE (α := Typ) (shr cX aA) 53 (Iy z 1 1) [(⟨[(⟨1, 1, true, []⟩ : Fld)]⟩ : Typ)]) :: _) _ := Sep.blkRow (src := (shr cX aA)) (l := [(⟨[(⟨1, 1, true, []⟩ : Fld)]⟩ : Typ)]) (css := [(⟨[(⟨1, 1, true, []⟩ : Fld)]⟩ : Typ).cells (Iy x 1 1)]) eQ rfl ⟨fun _ _ => ⟨_, rfl, aV, (show Typ.Ok (⟨[(⟨1, 1, true, []⟩ : Fld)]⟩ : Typ) from ⟨⟩)⟩, trivial⟩ yqa (show 1 ≤ maxLen by decide)
 have eS := bW.r0
 have hr282s : _ * 24 ≤ _ := eS.2
 obtain ⟨G283, eT, bX, eU, eV⟩ := bW.lend
 have aW := RowE.rdB eT bX
 have hrd289s : _ * 24 ≤ _ := aW.small
 obtain ⟨G291, bY, bZ, eW, eX⟩ := (eU.mv3).lend
 obtain ⟨vv297, m298, R299, hb300, eY, hr302⟩ := SetO.sh bY
 have hsm303 : (zu 2 ([] : List Ev)).length * 8 ≤ 140737488355328 := eY.small
 refine (zB (f := 11) (vals := [.agg (dF.cells (Iy z 1 1) (Iz)).toArray, Ix A 0, Ix B 0, Iv 1, Iv 10, .agg ((⟨0, 0, 0, 1, 3, 0, 7⟩ : Cmd).cells).toArray]) (cap := []) rfl (yE ⟨M, (V 1 dc), (V 2 dc), rfl, rfl, (V 3 dc), trivial⟩) oT (Zb (d := dF) (o := 1) (start := 10) (c := (⟨0, 0, 0, 1, 3, 0, 7⟩ : Cmd)) (RdS.base aW bZ) (RdS.nil _ _) (⟨⟩ : Dcl.Ok dF) bY dc dc cU (RdS.base (RdS.base (RdS.base hKN bV) bX) bZ) (eW.mv3) (YP) ((Inv.nil dF)) ((Nat.zero_le _)) (List.Pairwise.nil) ((Good.nil (n := 2)).srt) ((Nat.zero_le _)) (dc)) ?_)
 rintro _ w306 ⟨e, rfl, eZ⟩
 have fa := eX _ _ eZ
 have fb := eV _ _ fa
 have fc := eR _ _ fb
 exact fun u y m => ⟨(Exists.intro z (Exists.intro x (Exists.intro e (Exists.intro C (And.intro ((m 0 dc).trans M) (And.intro y (And.intro ((m 9 dc).trans N) ((fc.s8_acdefgh).mv4)))))))), trivial⟩
 intro hT vals w314 fd ca hA315
 have aX : hT ∈ [3, 7] := fd
 simp only [List.mem_cons, List.not_mem_nil, or_false] at aX
 rcases aX with rfl | rfl
 obtain ⟨z, x, e, M, D, hS318⟩ := ca
 refine obl rfl (ya (v := .tuple #[.agg ((exR dF 2 ([] : List Ev) ([] : List Ent) 1 10 (⟨0, 0, 0, 1, 3, 0, 7⟩ : Cmd)).1.cells e).toArray, .bool ((exR dF 2 ([] : List Ev) ([] : List Ent) 1 10 (⟨0, 0, 0, 1, 3, 0, 7⟩ : Cmd)).2.1), Iv ((exR dF 2 ([] : List Ev) ([] : List Ent) 1 10 (⟨0, 0, 0, 1, 3, 0, 7⟩ : Cmd)).2.2)]) D (fun u y m => ⟨rfl, ?_⟩))
 intro ae H
 rw [m 4 (by decide)] at H; cases D.symm.trans H
 exact y
 obtain ⟨z, x, e, C, M, D, N, hS319⟩ := ca
 refine obl rfl (ya (v := .tuple #[.agg ((exR dF 2 ([] : List Ev) ([] : List Ent) 1 10 (⟨0, 0, 0, 1, 3, 0, 7⟩ : Cmd)).1.cells e).toArray, .bool ((exR dF 2 ([] : List Ev) ([] : List Ent) 1 10 (⟨0, 0, 0, 1, 3, 0, 7⟩ : Cmd)).2.1), Iv ((exR dF 2 ([] : List Ev) ([] : List Ent) 1 10 (⟨0, 0, 0, 1, 3, 0, 7⟩ : Cmd)).2.2)]) D (fun u y m => ⟨rfl, ?_⟩))
 intro ae H
 rw [m 4 (by decide)] at H; cases D.symm.trans H
 exact y
 intro hU vals w321 fe cb cc
 have aY : hU ∈ [3, 7] := fe
 simp only [List.mem_cons, List.not_mem_nil, or_false] at aY
 rcases aY with rfl | rfl
 obtain ⟨z, x, e, M, D, hS325⟩ := cb
 let hv := ((exR dF 2 ([] : List Ev) ([] : List Ent) 1 10 (⟨0, 0, 0, 1, 3, 0, 7⟩ : Cmd)).1.cells e)
 have hV : vals 5 = (.tuple #[.agg hv.toArray, .bool ((exR dF 2 ([] : List Ev) ([] : List Ent) 1 10 (⟨0, 0, 0, 1, 3, 0, 7⟩ : Cmd)).2.1), Iv ((exR dF 2 ([] : List Ev) ([] : List Ent) 1 10 (⟨0, 0, 0, 1, 3, 0, 7⟩ : Cmd)).2.2)] : Value) := cc 5 dc e D
 refine obl rfl (zj (vs := [.agg hv.toArray, .bool ((exR dF 2 ([] : List Ev) ([] : List Ent) 1 10 (⟨0, 0, 0, 1, 3, 0, 7⟩ : Cmd)).2.1), Iv ((exR dF 2 ([] : List Ev) ([] : List Ent) 1 10 (⟨0, 0, 0, 1, 3, 0, 7⟩ : Cmd)).2.2)]) (i := 0) (v := .agg hv.toArray) hV rfl (fun u y m => ⟨rfl, ?_⟩))
 intro ae H
 rw [m 4 (by decide)] at H; cases D.symm.trans H
 exact y
 obtain ⟨z, x, e, C, M, D, N, hS327⟩ := cb
 let hC := ((exR dF 2 ([] : List Ev) ([] : List Ent) 1 10 (⟨0, 0, 0, 1, 3, 0, 7⟩ : Cmd)).1.cells e)
 have hW : vals 5 = (.tuple #[.agg hC.toArray, .bool ((exR dF 2 ([] : List Ev) ([] : List Ent) 1 10 (⟨0, 0, 0, 1, 3, 0, 7⟩ : Cmd)).2.1), Iv ((exR dF 2 ([] : List Ev) ([] : List Ent) 1 10 (⟨0, 0, 0, 1, 3, 0, 7⟩ : Cmd)).2.2)] : Value) := cc 5 dc e D
 refine obl rfl (zj (vs := [.agg hC.toArray, .bool ((exR dF 2 ([] : List Ev) ([] : List Ent) 1 10 (⟨0, 0, 0, 1, 3, 0, 7⟩ : Cmd)).2.1), Iv ((exR dF 2 ([] : List Ev) ([] : List Ent) 1 10 (⟨0, 0, 0, 1, 3, 0, 7⟩ : Cmd)).2.2)]) (i := 0) (v := .agg hC.toArray) hW rfl (fun u y m => ⟨rfl, ?_⟩))
 intro ae H
 rw [m 4 (by decide)] at H; cases D.symm.trans H
 exact y
 intro hX vals w330 ff aB aC
 have aZ : hX ∈ [3, 7, 15] := ff
 simp only [List.mem_cons, List.not_mem_nil, or_false] at aZ
 rcases aZ with rfl | rfl | rfl
 obtain ⟨z, x, e, M, D, hS334⟩ := aB
 let iZ := ((exR dF 2 ([] : List Ev) ([] : List Ent) 1 10 (⟨0, 0, 0, 1, 3, 0, 7⟩ : Cmd)).1.cells e)
 have hY : vals 5 = (.tuple #[.agg iZ.toArray, .bool ((exR dF 2 ([] : List Ev) ([] : List Ent) 1 10 (⟨0, 0, 0, 1, 3, 0, 7⟩ : Cmd)).2.1), Iv ((exR dF 2 ([] : List Ev) ([] : List Ent) 1 10 (⟨0, 0, 0, 1, 3, 0, 7⟩ : Cmd)).2.2)] : Value) := aC 5 dc e D
 exact obl rfl (zj (vs := [.agg iZ.toArray, .bool ((exR dF 2 ([] : List Ev) ([] : List Ent) 1 10 (⟨0, 0, 0, 1, 3, 0, 7⟩ : Cmd)).2.1), Iv ((exR dF 2 ([] : List Ev) ([] : List Ent) 1 10 (⟨0, 0, 0, 1, 3, 0, 7⟩ : Cmd)).2.2)]) (i := 1) (v := .bool ((exR dF 2 ([] : List Ev) ([] : List Ent) 1 10 (⟨0, 0, 0, 1, 3, 0, 7⟩ : Cmd)).2.1)) hY rfl dR)
 obtain ⟨z, x, e, C, M, D, N, hS336⟩ := aB
 let ja := ((exR dF 2 ([] : List Ev) ([] : List Ent) 1 10 (⟨0, 0, 0, 1, 3, 0, 7⟩ : Cmd)).1.cells e)
 have hZ : vals 5 = (.tuple #[.agg ja.toArray, .bool ((exR dF 2 ([] : List Ev) ([] : List Ent) 1 10 (⟨0, 0, 0, 1, 3, 0, 7⟩ : Cmd)).2.1), Iv ((exR dF 2 ([] : List Ev) ([] : List Ent) 1 10 (⟨0, 0, 0, 1, 3, 0, 7⟩ : Cmd)).2.2)] : Value) := aC 5 dc e D
 exact obl rfl (zj (vs := [.agg ja.toArray, .bool ((exR dF 2 ([] : List Ev) ([] : List Ent) 1 10 (⟨0, 0, 0, 1, 3, 0, 7⟩ : Cmd)).2.1), Iv ((exR dF 2 ([] : List Ev) ([] : List Ent) 1 10 (⟨0, 0, 0, 1, 3, 0, 7⟩ : Cmd)).2.2)]) (i := 1) (v := .bool ((exR dF 2 ([] : List Ev) ([] : List Ent) 1 10 (⟨0, 0, 0, 1, 3, 0, 7⟩ : Cmd)).2.1)) hZ rfl dR)
 obtain ⟨z, x, e, C, M, D, N, hS338⟩ := aB
 let jb := ((exR dF 2 ([] : List Ev) ([] : List Ent) 1 10 (⟨0, 0, 0, 1, 3, 0, 7⟩ : Cmd)).1.cells e)
 have ia : vals 5 = (.tuple #[.agg jb.toArray, .bool ((exR dF 2 ([] : List Ev) ([] : List Ent) 1 10 (⟨0, 0, 0, 1, 3, 0, 7⟩ : Cmd)).2.1), Iv ((exR dF 2 ([] : List Ev) ([] : List Ent) 1 10 (⟨0, 0, 0, 1, 3, 0, 7⟩ : Cmd)).2.2)] : Value) := aC 5 dc e D
 exact obl rfl (zj (vs := [.agg jb.toArray, .bool ((exR dF 2 ([] : List Ev) ([] : List Ent) 1 10 (⟨0, 0, 0, 1, 3, 0, 7⟩ : Cmd)).2.1), Iv ((exR dF 2 ([] : List Ev) ([] : List Ent) 1 10 (⟨0, 0, 0, 1, 3, 0, 7⟩ : Cmd)).2.2)]) (i := 1) (v := .bool ((exR dF 2 ([] : List Ev) ([] : List Ent) 1 10 (⟨0, 0, 0, 1, 3, 0, 7⟩ : Cmd)).2.1)) ia rfl dR)
 intro ib vals w341 fg aD aE
 have ba : ib ∈ [3, 7, 15] := fg
 simp only [List.mem_cons, List.not_mem_nil, or_false] at ba
 rcases ba with rfl | rfl | rfl
 obtain ⟨z, x, e, M, D, hS345⟩ := aD
 let jc := ((exR dF 2 ([] : List Ev) ([] : List Ent) 1 10 (⟨0, 0, 0, 1, 3, 0, 7⟩ : Cmd)).1.cells e)
 have ic : vals 5 = (.tuple #[.agg jc.toArray, .bool ((exR dF 2 ([] : List Ev) ([] : List Ent) 1 10 (⟨0, 0, 0, 1, 3, 0, 7⟩ : Cmd)).2.1), Iv ((exR dF 2 ([] : List Ev) ([] : List Ent) 1 10 (⟨0, 0, 0, 1, 3, 0, 7⟩ : Cmd)).2.2)] : Value) := aE 5 dc e D
 exact obl rfl (zj (vs := [.agg jc.toArray, .bool ((exR dF 2 ([] : List Ev) ([] : List Ent) 1 10 (⟨0, 0, 0, 1, 3, 0, 7⟩ : Cmd)).2.1), Iv ((exR dF 2 ([] : List Ev) ([] : List Ent) 1 10 (⟨0, 0, 0, 1, 3, 0, 7⟩ : Cmd)).2.2)]) (i := 2) (v := Iv ((exR dF 2 ([] : List Ev) ([] : List Ent) 1 10 (⟨0, 0, 0, 1, 3, 0, 7⟩ : Cmd)).2.2)) ic rfl dR)
 obtain ⟨z, x, e, C, M, D, N, hS347⟩ := aD
 let jd := ((exR dF 2 ([] : List Ev) ([] : List Ent) 1 10 (⟨0, 0, 0, 1, 3, 0, 7⟩ : Cmd)).1.cells e)
 have id : vals 5 = (.tuple #[.agg jd.toArray, .bool ((exR dF 2 ([] : List Ev) ([] : List Ent) 1 10 (⟨0, 0, 0, 1, 3, 0, 7⟩ : Cmd)).2.1), Iv ((exR dF 2 ([] : List Ev) ([] : List Ent) 1 10 (⟨0, 0, 0, 1, 3, 0, 7⟩ : Cmd)).2.2)] : Value) := aE 5 dc e D
 exact obl rfl (zj (vs := [.agg jd.toArray, .bool ((exR dF 2 ([] : List Ev) ([] : List Ent) 1 10 (⟨0, 0, 0, 1, 3, 0, 7⟩ : Cmd)).2.1), Iv ((exR dF 2 ([] : List Ev) ([] : List Ent) 1 10 (⟨0, 0, 0, 1, 3, 0, 7⟩ : Cmd)).2.2)]) (i := 2) (v := Iv ((exR dF 2 ([] : List Ev) ([] : List Ent) 1 10 (⟨0, 0, 0, 1, 3, 0, 7⟩ : Cmd)).2.2)) id rfl dR)
 obtain ⟨z, x, e, C, M, D, N, hS349⟩ := aD
 let je := ((exR dF 2 ([] : List Ev) ([] : List Ent) 1 10 (⟨0, 0, 0, 1, 3, 0, 7⟩ : Cmd)).1.cells e)
 have ie : vals 5 = (.tuple #[.agg je.toArray, .bool ((exR dF 2 ([] : List Ev) ([] : List Ent) 1 10 (⟨0, 0, 0, 1, 3, 0, 7⟩ : Cmd)).2.1), Iv ((exR dF 2 ([] : List Ev) ([] : List Ent) 1 10 (⟨0, 0, 0, 1, 3, 0, 7⟩ : Cmd)).2.2)] : Value) := aE 5 dc e D
 exact obl rfl (zj (vs := [.agg je.toArray, .bool ((exR dF 2 ([] : List Ev) ([] : List Ent) 1 10 (⟨0, 0, 0, 1, 3, 0, 7⟩ : Cmd)).2.1), Iv ((exR dF 2 ([] : List Ev) ([] : List Ent) 1 10 (⟨0, 0, 0, 1, 3, 0, 7⟩ : Cmd)).2.2)]) (i := 2) (v := Iv ((exR dF 2 ([] : List Ev) ([] : List Ent) 1 10 (⟨0, 0, 0, 1, 3, 0, 7⟩ : Cmd)).2.2)) ie rfl dR)
 intro ig vals w352 fh aF hA353
 have bb : ig ∈ [0, 1, 3] := fh
 simp only [List.mem_cons, List.not_mem_nil, or_false] at bb
 rcases bb with rfl | rfl | rfl
 have fi : Sep _ _ _ _ := aF
 refine obl rfl ((zr nT ?_))
 intro w359 C fj
 exact fun u y m => ⟨(Exists.intro C (And.intro y (fi.new fj))), trivial⟩
 obtain ⟨z, x, M, fk⟩ := aF
 refine obl rfl ((zr nT ?_))
 intro w364 C fl
 exact fun u y m => ⟨(Exists.intro z (Exists.intro x (Exists.intro C (And.intro ((m 0 dc).trans M) (And.intro y ((fk.new fl).s7_bcadefg)))))), trivial⟩
 obtain ⟨z, x, e, M, D, fm⟩ := aF
 refine obl rfl ((zr nT ?_))
 intro w370 C fn
 exact fun u y m => ⟨(Exists.intro z (Exists.intro x (Exists.intro e (Exists.intro C (And.intro ((m 0 dc).trans M) (And.intro ((m 4 dc).trans D) (And.intro y (fm.new fn)))))))), trivial⟩
 intro ih vals w373 fo fp fq
 have bc : ih ∈ [7] := fo
 simp only [List.mem_cons, List.not_mem_nil, or_false] at bc
 subst bc
 obtain ⟨z, x, e, C, M, D, N, aG⟩ := fp
 let iM := ((exR dF 2 ([] : List Ev) ([] : List Ent) 1 10 (⟨0, 0, 0, 1, 3, 0, 7⟩ : Cmd)).1.cells e)
 refine obl rfl ?_
 have ii : vals 6 = (.agg iM.toArray : Value) := fq 6 dc e D
 refine (zp (v := .agg iM.toArray) (c' := iM.toArray) mT N ii (aG.b0) (zW ⟨rfl, rfl, rfl, (aG.depSl (i := 4) rfl).one, rfl, rfl, rfl, rfl, rfl, rfl, trivial⟩) yqc rfl ?_)
 intro w379 fr
 exact fun u y m => ⟨(Exists.intro z (Exists.intro x (Exists.intro e (Exists.intro C (And.intro ((m 0 dc).trans M) (And.intro ((m 4 dc).trans D) (And.intro ((m 9 dc).trans N) (aG.pt0 fr)))))))), trivial⟩
 intro vals w394 fs cd
 obtain ⟨z, x, e, C, M, D, N, ce⟩ := fs
 let iS := (Blk C ((exR dF 2 ([] : List Ev) ([] : List Ent) 1 10 (⟨0, 0, 0, 1, 3, 0, 7⟩ : Cmd)).1.cells e).toArray 41)
 have ij := cd 11 dc
 have ik := cd 12 dc
 refine zT (kv := [(0, .bool false), (15, .agg #[(Iy bJ 1 1), Iz]), (16, .tuple #[Ix A 0, Ix B 0]), (14, .tuple #[Ix A 0, Ix B 0]), (17, Ix A 0), (18, Ix B 0), (1, Ix A 0), (2, Ix B 0), (19, Ix A 0), (20, .bool false), (21, .bool false), (22, Ix B 0), (23, .bool false), (24, .bool false), (25, .agg ((⟨0, 0, 0, 1, 3, 0, 7⟩ : Cmd).cells).toArray), (3, Ix Z 0), (4, Ix C 0), (5, .bool ((exR dF 2 ([] : List Ev) ([] : List Ent) 1 10 (⟨0, 0, 0, 1, 3, 0, 7⟩ : Cmd)).2.1)), (6, Iv ((exR dF 2 ([] : List Ev) ([] : List Ent) 1 10 (⟨0, 0, 0, 1, 3, 0, 7⟩ : Cmd)).2.2))]) ⟨rfl, rfl, rfl, rfl, rfl, rfl, rfl, rfl, rfl, rfl, rfl, rfl, rfl, rfl, rfl, rfl, (by exact N), (by exact ij), (by exact ik), trivial⟩ (fun ρw394 => (zd (za (R0 fun _ => st (Zd rfl ?_)))))
 refine stn (yn (v := Iv 1) (c := [Iv 0, Iv 0, Iv 0, Iv 1, Iv 3, Iv 0, Iv 7]) (c' := [Iv 0, Iv 0, Iv 0, Iv 1, Iv 3, Iv 1, Iv 7]) tT rfl rfl (ce.b5) rfl rfl rfl ?_)
 intro w400 ft
 have cf : Cmd.Ok (⟨0, 0, 0, 1, 3, 1, 7⟩ : Cmd) := ⟨(show InR (0) from dc), (show InR (0) from dc), (show InR (0) from dc), (show InR (1) from dc), (show InR (3) from dc), (show InR (1) from dc), (show InR (7) from dc)⟩
 refine zd (za ?_)
 refine WD6 ((fun TT R S T U => WF [fun vals O => Sep G W (R :: S :: T :: U :: TT) O, fun vals O => ∃ (q : Nat) (p : Nat), (vals 0 = (.agg #[(Iy q 1 1), Iz] : Value)) ∧ Sep G W ((Blk q #[(Iy p 1 1)] 53) :: (Blk p #[Iv 1, Iv 1, .bool true, Iz] 110) :: R :: S :: T :: U :: TT) O, fun _ _ => True, fun vals O => ∃ (q : Nat) (p : Nat) (g : Value), (vals 0 = (.agg #[(Iy q 1 1), Iz] : Value)) ∧ (vals 4 = (.tuple #[.agg ((exR dF 2 ([] : List Ev) ([] : List Ent) 1 10 (⟨0, 0, 0, 1, 3, 1, 7⟩ : Cmd)).1.cells g).toArray, .bool ((exR dF 2 ([] : List Ev) ([] : List Ent) 1 10 (⟨0, 0, 0, 1, 3, 1, 7⟩ : Cmd)).2.1), Iv ((exR dF 2 ([] : List Ev) ([] : List Ent) 1 10 (⟨0, 0, 0, 1, 3, 1, 7⟩ : Cmd)).2.2)] : Value)) ∧ Sep G W ((RowE (α := Fld) (shr G W) 110 (Iy p 1 1) [(⟨1, 1, true, []⟩ : Fld)]) :: T :: U :: (DepO g ((exR dF 2 ([] : List Ev) ([] : List Ent) 1 10 (⟨0, 0, 0, 1, 3, 1, 7⟩ : Cmd)).1.deps)) :: R :: S :: TT) O, fun vals O => ∃ (I : Nat), (vals 9 = (Ix I 0 : Value)) ∧ Sep G W ((Blk I #[Iv 0, Iv 0, Iv 0, (Iz), Iv 0, Iv 0, Iv 0, Iv 0, Iv 0, Iv 0] 41) :: R :: S :: T :: U :: TT) O, fun vals O => ∃ (q : Nat) (p : Nat) (I : Nat), (vals 0 = (.agg #[(Iy q 1 1), Iz] : Value)) ∧ (vals 9 = (Ix I 0 : Value)) ∧ Sep G W ((Blk q #[(Iy p 1 1)] 53) :: (Blk p #[Iv 1, Iv 1, .bool true, Iz] 110) :: (Blk I #[Iv 0, Iv 0, Iv 0, (Iz), Iv 0, Iv 0, Iv 0, Iv 0, Iv 0, Iv 0] 41) :: R :: S :: T :: U :: TT) O, fun _ _ => True, fun vals O => ∃ (q : Nat) (p : Nat) (g : Value) (I : Nat), (vals 0 = (.agg #[(Iy q 1 1), Iz] : Value)) ∧ (vals 4 = (.tuple #[.agg ((exR dF 2 ([] : List Ev) ([] : List Ent) 1 10 (⟨0, 0, 0, 1, 3, 1, 7⟩ : Cmd)).1.cells g).toArray, .bool ((exR dF 2 ([] : List Ev) ([] : List Ent) 1 10 (⟨0, 0, 0, 1, 3, 1, 7⟩ : Cmd)).2.1), Iv ((exR dF 2 ([] : List Ev) ([] : List Ent) 1 10 (⟨0, 0, 0, 1, 3, 1, 7⟩ : Cmd)).2.2)] : Value)) ∧ (vals 9 = (Ix I 0 : Value)) ∧ Sep G W ((Blk I #[Iv 0, Iv 0, Iv 0, (Iz), Iv 0, Iv 0, Iv 0, Iv 0, Iv 0, Iv 0] 41) :: (RowE (α := Fld) (shr G W) 110 (Iy p 1 1) [(⟨1, 1, true, []⟩ : Fld)]) :: T :: U :: (DepO g ((exR dF 2 ([] : List Ev) ([] : List Ent) 1 10 (⟨0, 0, 0, 1, 3, 1, 7⟩ : Cmd)).1.deps)) :: R :: S :: TT) O, fun _ _ => True, fun _ _ => True, fun _ _ => True, fun _ _ => True, fun _ _ => True, fun _ _ => True, fun _ _ => True, fun vals O => ∃ (q : Nat) (p : Nat) (g : Value) (I : Nat), (vals 0 = (.agg #[(Iy q 1 1), Iz] : Value)) ∧ (vals 4 = (.tuple #[.agg ((exR dF 2 ([] : List Ev) ([] : List Ent) 1 10 (⟨0, 0, 0, 1, 3, 1, 7⟩ : Cmd)).1.cells g).toArray, .bool ((exR dF 2 ([] : List Ev) ([] : List Ent) 1 10 (⟨0, 0, 0, 1, 3, 1, 7⟩ : Cmd)).2.1), Iv ((exR dF 2 ([] : List Ev) ([] : List Ent) 1 10 (⟨0, 0, 0, 1, 3, 1, 7⟩ : Cmd)).2.2)] : Value)) ∧ (vals 9 = (Ix I 0 : Value)) ∧ Sep G W ((Blk I ((exR dF 2 ([] : List Ev) ([] : List Ent) 1 10 (⟨0, 0, 0, 1, 3, 1, 7⟩ : Cmd)).1.cells g).toArray 41) :: (RowE (α := Fld) (shr G W) 110 (Iy p 1 1) [(⟨1, 1, true, []⟩ : Fld)]) :: T :: U :: (DepO g ((exR dF 2 ([] : List Ev) ([] : List Ent) 1 10 (⟨0, 0, 0, 1, 3, 1, 7⟩ : Cmd)).1.deps)) :: R :: S :: TT) O]) ((DepO e ((exR dF 2 ([] : List Ev) ([] : List Ent) 1 10 (⟨0, 0, 0, 1, 3, 0, 7⟩ : Cmd)).1.deps)) :: (Blk Z ((⟨0, 0, 0, 1, 3, 1, 7⟩ : Cmd).cells).toArray 28) :: (RowE (α := Fld) (shr G W) 110 (Iy ao 1 1) [(⟨1, 1, true, []⟩ : Fld)]) :: Rs) iS (RowE (α := Fld) (shr G W) 110 (Iy x 1 1) [(⟨1, 1, true, []⟩ : Fld)]) (SetO A 2 ([] : List Ev)) iR) (AF [fun _ => True, Vl 1 (Ix A 0), Vl 2 (Ix B 0), Vl 3 (.agg ((⟨0, 0, 0, 1, 3, 1, 7⟩ : Cmd).cells).toArray), fun _ => True, fun vals => ∀ (g : Value), vals 4 = (.tuple #[.agg ((exR dF 2 ([] : List Ev) ([] : List Ent) 1 10 (⟨0, 0, 0, 1, 3, 1, 7⟩ : Cmd)).1.cells g).toArray, .bool ((exR dF 2 ([] : List Ev) ([] : List Ent) 1 10 (⟨0, 0, 0, 1, 3, 1, 7⟩ : Cmd)).2.1), Iv ((exR dF 2 ([] : List Ev) ([] : List Ent) 1 10 (⟨0, 0, 0, 1, 3, 1, 7⟩ : Cmd)).2.2)] : Value) → vals 5 = (.tuple #[.agg ((exR dF 2 ([] : List Ev) ([] : List Ent) 1 10 (⟨0, 0, 0, 1, 3, 1, 7⟩ : Cmd)).1.cells g).toArray, .bool ((exR dF 2 ([] : List Ev) ([] : List Ent) 1 10 (⟨0, 0, 0, 1, 3, 1, 7⟩ : Cmd)).2.1), Iv ((exR dF 2 ([] : List Ev) ([] : List Ent) 1 10 (⟨0, 0, 0, 1, 3, 1, 7⟩ : Cmd)).2.2)] : Value), fun vals => ∀ (g : Value), vals 4 = (.tuple #[.agg ((exR dF 2 ([] : List Ev) ([] : List Ent) 1 10 (⟨0, 0, 0, 1, 3, 1, 7⟩ : Cmd)).1.cells g).toArray, .bool ((exR dF 2 ([] : List Ev) ([] : List Ent) 1 10 (⟨0, 0, 0, 1, 3, 1, 7⟩ : Cmd)).2.1), Iv ((exR dF 2 ([] : List Ev) ([] : List Ent) 1 10 (⟨0, 0, 0, 1, 3, 1, 7⟩ : Cmd)).2.2)] : Value) → vals 6 = (.agg ((exR dF 2 ([] : List Ev) ([] : List Ent) 1 10 (⟨0, 0, 0, 1, 3, 1, 7⟩ : Cmd)).1.cells g).toArray : Value), Vl 7 (.bool ((exR dF 2 ([] : List Ev) ([] : List Ent) 1 10 (⟨0, 0, 0, 1, 3, 1, 7⟩ : Cmd)).2.1)), Vl 8 (Iv ((exR dF 2 ([] : List Ev) ([] : List Ent) 1 10 (⟨0, 0, 0, 1, 3, 1, 7⟩ : Cmd)).2.2)), fun _ => True, fun _ => True, Vl 11 (.bool ((exR dF 2 ([] : List Ev) ([] : List Ent) 1 10 (⟨0, 0, 0, 1, 3, 1, 7⟩ : Cmd)).2.1)), Vl 12 (Iv ((exR dF 2 ([] : List Ev) ([] : List Ent) 1 10 (⟨0, 0, 0, 1, 3, 1, 7⟩ : Cmd)).2.2))]) [[], [], [], [], (rg 4), (rg 5), (rg 6), (rg 6), (rg 6), [], [0, 1, 2, 3, 4, 5, 6, 9], [0, 1, 2, 3, 4, 5, 6, 7, 9, 10], (rg 12)] [0, 4, 9, 10] [[0, 4], [0, 1, 4, 5], [0, 1, 4, 5], [0, 1, 4, 5], [1, 5], [3, 7], [3, 7], [3, 7, 15], [3, 7, 15], [0, 1, 3], [7], [15], [15]] (ce.pt5 ft) ⟨?_, fun _ _ _ _ _ _ => obl rfl (mV (Ix A 0) dR), fun _ _ _ _ _ _ => obl rfl (mV (Ix B 0) dR), ?_, ?_, ?_, ?_, ?_, ?_, ?_, ?_, fun _ _ _ _ _ fu => obl rfl (zR (v := .bool ((exR dF 2 ([] : List Ev) ([] : List Ent) 1 10 (⟨0, 0, 0, 1, 3, 1, 7⟩ : Cmd)).2.1)) (fu 7 dc) dR), fun _ _ _ _ _ fv => obl rfl (zR (v := Iv ((exR dF 2 ([] : List Ev) ([] : List Ent) 1 10 (⟨0, 0, 0, 1, 3, 1, 7⟩ : Cmd)).2.2)) (fv 8 dc) dR), trivial⟩ ?_ (hlocA := yW ⟨dT, dA, dA, dA, dT, fun vals u y h => fun g H => (y 5 (.inl rfl)).trans (h g ((y 4 (.inr dc)).symm.trans H)), fun vals u y h => fun g H => (y 6 (.inl rfl)).trans (h g ((y 4 (.inr dc)).symm.trans H)), dA, dA, dT, dT, dA, dA, trivial⟩)
 intro il vals w548 fw cg hA549
 have bd : il ∈ [0, 4] := fw
 simp only [List.mem_cons, List.not_mem_nil, or_false] at bd
 rcases bd with rfl | rfl
 have fx : Sep _ _ _ _ := cg
 refine obl rfl ((cL sT (xg  fx) ?_))
 rintro _ w555 ⟨q, p, rfl, fy⟩
 exact fun u y m => ⟨(Exists.intro q (Exists.intro p (And.intro y fy))), trivial⟩
 obtain ⟨I, P, fz⟩ := cg
 refine obl rfl ((cL sT (xg  fz) ?_))
 rintro _ w560 ⟨q, p, rfl, fA⟩
 exact fun u y m => ⟨(Exists.intro q (Exists.intro p (Exists.intro I (And.intro y (And.intro ((m 9 dc).trans P) fA))))), trivial⟩
 intro im vals w573 fB ac hA574
 have be : im ∈ [0, 1, 4, 5] := fB
 simp only [List.mem_cons, List.not_mem_nil, or_false] at be
 rcases be with rfl | rfl | rfl | rfl
 have fC : Sep _ _ _ _ := ac
 exact obl rfl (zf (k := 7) lT kT rfl rfl (CellsAt.all (fC.b5)) dR)
 obtain ⟨q, p, K, fE⟩ := ac
 exact obl rfl (zf (k := 7) lT kT rfl rfl (CellsAt.all (fE.b7)) dR)
 obtain ⟨I, P, fF⟩ := ac
 exact obl rfl (zf (k := 7) lT kT rfl rfl (CellsAt.all (fF.b6)) dR)
 obtain ⟨q, p, I, K, P, fG⟩ := ac
 exact obl rfl (zf (k := 7) lT kT rfl rfl (CellsAt.all (fG.b8)) dR)
 intro io vals aH fH ch X
 have bf : io ∈ [1, 5] := fH
 simp only [List.mem_cons, List.not_mem_nil, or_false] at bf
 rcases bf with rfl | rfl
 obtain ⟨q, p, K, fI⟩ := ch
 refine obl rfl ?_
 have ci : Sep _ _ ((RowE (α := Fld) (shr G W) 110 (Iy p 1 1) [(⟨1, 1, true, []⟩ : Fld)]) :: _) _ := Sep.blkRow (src := (shr G W)) (l := [(⟨1, 1, true, []⟩ : Fld)]) (css := [(⟨1, 1, true, []⟩ : Fld).cells (Iz)]) (fI.mv1) rfl ⟨fun _ _ => ⟨_, rfl, (RdS.nil _ _), (show Fld.Ok (⟨1, 1, true, []⟩ : Fld) from ⟨by decide, by decide⟩)⟩, trivial⟩ yqa (show 1 ≤ maxLen by decide)
 have fJ := ci.r0
 have hr592s : _ * 48 ≤ _ := fJ.2
 obtain ⟨cY, fK, cj, fL, fM⟩ := ci.lend
 have bg := RowE.rdB fK cj
 have hrd599s : _ * 48 ≤ _ := bg.small
 have ck : Sep _ _ ((RowE (α := Typ) (shr cY aH) 53 (Iy q 1 1) [(⟨[(⟨1, 1, true, []⟩ : Fld)]⟩ : Typ)]) :: _) _ := Sep.blkRow (src := (shr cY aH)) (l := [(⟨[(⟨1, 1, true, []⟩ : Fld)]⟩ : Typ)]) (css := [(⟨[(⟨1, 1, true, []⟩ : Fld)]⟩ : Typ).cells (Iy p 1 1)]) fL rfl ⟨fun _ _ => ⟨_, rfl, bg, (show Typ.Ok (⟨[(⟨1, 1, true, []⟩ : Fld)]⟩ : Typ) from ⟨⟩)⟩, trivial⟩ yqa (show 1 ≤ maxLen by decide)
 have fN := ck.r0
 have hr601s : _ * 24 ≤ _ := fN.2
 obtain ⟨G602, fO, cl, fP, fQ⟩ := ck.lend
 have bh := RowE.rdB fO cl
 have hrd608s : _ * 24 ≤ _ := bh.small
 obtain ⟨G610, cm, cn, fR, fS⟩ := (fP.mv2).lend
 obtain ⟨vv616, m617, R618, hb619, fT, hr621⟩ := SetO.sh cm
 have hsm622 : (zu 2 ([] : List Ev)).length * 8 ≤ 140737488355328 := fT.small
 refine (zB (f := 11) (vals := [.agg (dF.cells (Iy q 1 1) (Iz)).toArray, Ix A 0, Ix B 0, Iv 1, Iv 10, .agg ((⟨0, 0, 0, 1, 3, 1, 7⟩ : Cmd).cells).toArray]) (cap := []) rfl (yE ⟨K, (X 1 dc), (X 2 dc), rfl, rfl, (X 3 dc), trivial⟩) oT (Zb (d := dF) (o := 1) (start := 10) (c := (⟨0, 0, 0, 1, 3, 1, 7⟩ : Cmd)) (RdS.base bh cn) (RdS.nil _ _) (⟨⟩ : Dcl.Ok dF) cm dc dc cf (RdS.base (RdS.base (RdS.base hKN cj) cl) cn) (fR.mv2) (YP) ((Inv.nil dF)) ((Nat.zero_le _)) (List.Pairwise.nil) ((Good.nil (n := 2)).srt) ((Nat.zero_le _)) (dc)) ?_)
 rintro _ w625 ⟨g, rfl, fU⟩
 have fV := fS _ _ fU
 have fW := fQ _ _ fV
 have fX := fM _ _ fW
 exact fun u y m => ⟨(Exists.intro q (Exists.intro p (Exists.intro g (And.intro ((m 0 dc).trans K) (And.intro y (fX.s10_acdefghij)))))), trivial⟩
 obtain ⟨q, p, I, K, P, fY⟩ := ch
 refine obl rfl ?_
 have co : Sep _ _ ((RowE (α := Fld) (shr G W) 110 (Iy p 1 1) [(⟨1, 1, true, []⟩ : Fld)]) :: _) _ := Sep.blkRow (src := (shr G W)) (l := [(⟨1, 1, true, []⟩ : Fld)]) (css := [(⟨1, 1, true, []⟩ : Fld).cells (Iz)]) (fY.mv1) rfl ⟨fun _ _ => ⟨_, rfl, (RdS.nil _ _), (show Fld.Ok (⟨1, 1, true, []⟩ : Fld) from ⟨by decide, by decide⟩)⟩, trivial⟩ yqa (show 1 ≤ maxLen by decide)
 have fZ := co.r0
 have hr637s : _ * 48 ≤ _ := fZ.2
 obtain ⟨cZ, ga, cp, gc, gd⟩ := co.lend
 have bi := RowE.rdB ga cp
 have hrd644s : _ * 48 ≤ _ := bi.small
 have cq : Sep _ _ ((RowE (α := Typ) (shr cZ aH) 53 (Iy q 1 1) [(⟨[(⟨1, 1, true, []⟩ : Fld)]⟩ : Typ)]) :: _) _ := Sep.blkRow (src := (shr cZ aH)) (l := [(⟨[(⟨1, 1, true, []⟩ : Fld)]⟩ : Typ)]) (css := [(⟨[(⟨1, 1, true, []⟩ : Fld)]⟩ : Typ).cells (Iy p 1 1)]) gc rfl ⟨fun _ _ => ⟨_, rfl, bi, (show Typ.Ok (⟨[(⟨1, 1, true, []⟩ : Fld)]⟩ : Typ) from ⟨⟩)⟩, trivial⟩ yqa (show 1 ≤ maxLen by decide)
 have ge := cq.r0
 have hr646s : _ * 24 ≤ _ := ge.2
 obtain ⟨G647, gf, cr, gg, gh⟩ := cq.lend
 have bj := RowE.rdB gf cr
 have hrd653s : _ * 24 ≤ _ := bj.small
 obtain ⟨G655, cs, ct, gi, gj⟩ := (gg.mv3).lend
 obtain ⟨vv661, m662, R663, hb664, gk, hr666⟩ := SetO.sh cs
 have hsm667 : (zu 2 ([] : List Ev)).length * 8 ≤ 140737488355328 := gk.small
 refine (zB (f := 11) (vals := [.agg (dF.cells (Iy q 1 1) (Iz)).toArray, Ix A 0, Ix B 0, Iv 1, Iv 10, .agg ((⟨0, 0, 0, 1, 3, 1, 7⟩ : Cmd).cells).toArray]) (cap := []) rfl (yE ⟨K, (X 1 dc), (X 2 dc), rfl, rfl, (X 3 dc), trivial⟩) oT (Zb (d := dF) (o := 1) (start := 10) (c := (⟨0, 0, 0, 1, 3, 1, 7⟩ : Cmd)) (RdS.base bj ct) (RdS.nil _ _) (⟨⟩ : Dcl.Ok dF) cs dc dc cf (RdS.base (RdS.base (RdS.base hKN cp) cr) ct) (gi.mv3) (YP) ((Inv.nil dF)) ((Nat.zero_le _)) (List.Pairwise.nil) ((Good.nil (n := 2)).srt) ((Nat.zero_le _)) (dc)) ?_)
 rintro _ w670 ⟨g, rfl, gl⟩
 have gm := gj _ _ gl
 have gn := gh _ _ gm
 have go := gd _ _ gn
 exact fun u y m => ⟨(Exists.intro q (Exists.intro p (Exists.intro g (Exists.intro I (And.intro ((m 0 dc).trans K) (And.intro y (And.intro ((m 9 dc).trans P) ((go.s11_acdefghijk).mv4)))))))), trivial⟩
 intro ip vals w678 gp cu hA679
 have bk : ip ∈ [3, 7] := gp
 simp only [List.mem_cons, List.not_mem_nil, or_false] at bk
 rcases bk with rfl | rfl
 obtain ⟨q, p, g, K, E, hS682⟩ := cu
 refine obl rfl (ya (v := .tuple #[.agg ((exR dF 2 ([] : List Ev) ([] : List Ent) 1 10 (⟨0, 0, 0, 1, 3, 1, 7⟩ : Cmd)).1.cells g).toArray, .bool ((exR dF 2 ([] : List Ev) ([] : List Ent) 1 10 (⟨0, 0, 0, 1, 3, 1, 7⟩ : Cmd)).2.1), Iv ((exR dF 2 ([] : List Ev) ([] : List Ent) 1 10 (⟨0, 0, 0, 1, 3, 1, 7⟩ : Cmd)).2.2)]) E (fun u y m => ⟨rfl, ?_⟩))
 intro af H
 rw [m 4 (by decide)] at H; cases E.symm.trans H
 exact y
 obtain ⟨q, p, g, I, K, E, P, hS683⟩ := cu
 refine obl rfl (ya (v := .tuple #[.agg ((exR dF 2 ([] : List Ev) ([] : List Ent) 1 10 (⟨0, 0, 0, 1, 3, 1, 7⟩ : Cmd)).1.cells g).toArray, .bool ((exR dF 2 ([] : List Ev) ([] : List Ent) 1 10 (⟨0, 0, 0, 1, 3, 1, 7⟩ : Cmd)).2.1), Iv ((exR dF 2 ([] : List Ev) ([] : List Ent) 1 10 (⟨0, 0, 0, 1, 3, 1, 7⟩ : Cmd)).2.2)]) E (fun u y m => ⟨rfl, ?_⟩))
 intro af H
 rw [m 4 (by decide)] at H; cases E.symm.trans H
 exact y
 intro iq vals w685 gq cv cw
 have bl : iq ∈ [3, 7] := gq
 simp only [List.mem_cons, List.not_mem_nil, or_false] at bl
 rcases bl with rfl | rfl
 obtain ⟨q, p, g, K, E, hS689⟩ := cv
 let iN := ((exR dF 2 ([] : List Ev) ([] : List Ent) 1 10 (⟨0, 0, 0, 1, 3, 1, 7⟩ : Cmd)).1.cells g)
 have ir : vals 5 = (.tuple #[.agg iN.toArray, .bool ((exR dF 2 ([] : List Ev) ([] : List Ent) 1 10 (⟨0, 0, 0, 1, 3, 1, 7⟩ : Cmd)).2.1), Iv ((exR dF 2 ([] : List Ev) ([] : List Ent) 1 10 (⟨0, 0, 0, 1, 3, 1, 7⟩ : Cmd)).2.2)] : Value) := cw 5 dc g E
 refine obl rfl (zj (vs := [.agg iN.toArray, .bool ((exR dF 2 ([] : List Ev) ([] : List Ent) 1 10 (⟨0, 0, 0, 1, 3, 1, 7⟩ : Cmd)).2.1), Iv ((exR dF 2 ([] : List Ev) ([] : List Ent) 1 10 (⟨0, 0, 0, 1, 3, 1, 7⟩ : Cmd)).2.2)]) (i := 0) (v := .agg iN.toArray) ir rfl (fun u y m => ⟨rfl, ?_⟩))
 intro af H
 rw [m 4 (by decide)] at H; cases E.symm.trans H
 exact y
 obtain ⟨q, p, g, I, K, E, P, hS691⟩ := cv
 let iO := ((exR dF 2 ([] : List Ev) ([] : List Ent) 1 10 (⟨0, 0, 0, 1, 3, 1, 7⟩ : Cmd)).1.cells g)
 have it : vals 5 = (.tuple #[.agg iO.toArray, .bool ((exR dF 2 ([] : List Ev) ([] : List Ent) 1 10 (⟨0, 0, 0, 1, 3, 1, 7⟩ : Cmd)).2.1), Iv ((exR dF 2 ([] : List Ev) ([] : List Ent) 1 10 (⟨0, 0, 0, 1, 3, 1, 7⟩ : Cmd)).2.2)] : Value) := cw 5 dc g E
 refine obl rfl (zj (vs := [.agg iO.toArray, .bool ((exR dF 2 ([] : List Ev) ([] : List Ent) 1 10 (⟨0, 0, 0, 1, 3, 1, 7⟩ : Cmd)).2.1), Iv ((exR dF 2 ([] : List Ev) ([] : List Ent) 1 10 (⟨0, 0, 0, 1, 3, 1, 7⟩ : Cmd)).2.2)]) (i := 0) (v := .agg iO.toArray) it rfl (fun u y m => ⟨rfl, ?_⟩))
 intro af H
 rw [m 4 (by decide)] at H; cases E.symm.trans H
 exact y
 intro iu vals w694 gr aI aJ
 have bm : iu ∈ [3, 7, 15] := gr
 simp only [List.mem_cons, List.not_mem_nil, or_false] at bm
 rcases bm with rfl | rfl | rfl
 obtain ⟨q, p, g, K, E, hS698⟩ := aI
 let jf := ((exR dF 2 ([] : List Ev) ([] : List Ent) 1 10 (⟨0, 0, 0, 1, 3, 1, 7⟩ : Cmd)).1.cells g)
 have iv : vals 5 = (.tuple #[.agg jf.toArray, .bool ((exR dF 2 ([] : List Ev) ([] : List Ent) 1 10 (⟨0, 0, 0, 1, 3, 1, 7⟩ : Cmd)).2.1), Iv ((exR dF 2 ([] : List Ev) ([] : List Ent) 1 10 (⟨0, 0, 0, 1, 3, 1, 7⟩ : Cmd)).2.2)] : Value) := aJ 5 dc g E
 exact obl rfl (zj (vs := [.agg jf.toArray, .bool ((exR dF 2 ([] : List Ev) ([] : List Ent) 1 10 (⟨0, 0, 0, 1, 3, 1, 7⟩ : Cmd)).2.1), Iv ((exR dF 2 ([] : List Ev) ([] : List Ent) 1 10 (⟨0, 0, 0, 1, 3, 1, 7⟩ : Cmd)).2.2)]) (i := 1) (v := .bool ((exR dF 2 ([] : List Ev) ([] : List Ent) 1 10 (⟨0, 0, 0, 1, 3, 1, 7⟩ : Cmd)).2.1)) iv rfl dR)
 obtain ⟨q, p, g, I, K, E, P, hS700⟩ := aI
 let jg := ((exR dF 2 ([] : List Ev) ([] : List Ent) 1 10 (⟨0, 0, 0, 1, 3, 1, 7⟩ : Cmd)).1.cells g)
 have iw : vals 5 = (.tuple #[.agg jg.toArray, .bool ((exR dF 2 ([] : List Ev) ([] : List Ent) 1 10 (⟨0, 0, 0, 1, 3, 1, 7⟩ : Cmd)).2.1), Iv ((exR dF 2 ([] : List Ev) ([] : List Ent) 1 10 (⟨0, 0, 0, 1, 3, 1, 7⟩ : Cmd)).2.2)] : Value) := aJ 5 dc g E
 exact obl rfl (zj (vs := [.agg jg.toArray, .bool ((exR dF 2 ([] : List Ev) ([] : List Ent) 1 10 (⟨0, 0, 0, 1, 3, 1, 7⟩ : Cmd)).2.1), Iv ((exR dF 2 ([] : List Ev) ([] : List Ent) 1 10 (⟨0, 0, 0, 1, 3, 1, 7⟩ : Cmd)).2.2)]) (i := 1) (v := .bool ((exR dF 2 ([] : List Ev) ([] : List Ent) 1 10 (⟨0, 0, 0, 1, 3, 1, 7⟩ : Cmd)).2.1)) iw rfl dR)
 obtain ⟨q, p, g, I, K, E, P, hS702⟩ := aI
 let jh := ((exR dF 2 ([] : List Ev) ([] : List Ent) 1 10 (⟨0, 0, 0, 1, 3, 1, 7⟩ : Cmd)).1.cells g)
 have ix : vals 5 = (.tuple #[.agg jh.toArray, .bool ((exR dF 2 ([] : List Ev) ([] : List Ent) 1 10 (⟨0, 0, 0, 1, 3, 1, 7⟩ : Cmd)).2.1), Iv ((exR dF 2 ([] : List Ev) ([] : List Ent) 1 10 (⟨0, 0, 0, 1, 3, 1, 7⟩ : Cmd)).2.2)] : Value) := aJ 5 dc g E
 exact obl rfl (zj (vs := [.agg jh.toArray, .bool ((exR dF 2 ([] : List Ev) ([] : List Ent) 1 10 (⟨0, 0, 0, 1, 3, 1, 7⟩ : Cmd)).2.1), Iv ((exR dF 2 ([] : List Ev) ([] : List Ent) 1 10 (⟨0, 0, 0, 1, 3, 1, 7⟩ : Cmd)).2.2)]) (i := 1) (v := .bool ((exR dF 2 ([] : List Ev) ([] : List Ent) 1 10 (⟨0, 0, 0, 1, 3, 1, 7⟩ : Cmd)).2.1)) ix rfl dR)
 intro iy vals w705 gs aK aL
 have bn : iy ∈ [3, 7, 15] := gs
 simp only [List.mem_cons, List.not_mem_nil, or_false] at bn
 rcases bn with rfl | rfl | rfl
 obtain ⟨q, p, g, K, E, hS709⟩ := aK
 let ji := ((exR dF 2 ([] : List Ev) ([] : List Ent) 1 10 (⟨0, 0, 0, 1, 3, 1, 7⟩ : Cmd)).1.cells g)
 have iz : vals 5 = (.tuple #[.agg ji.toArray, .bool ((exR dF 2 ([] : List Ev) ([] : List Ent) 1 10 (⟨0, 0, 0, 1, 3, 1, 7⟩ : Cmd)).2.1), Iv ((exR dF 2 ([] : List Ev) ([] : List Ent) 1 10 (⟨0, 0, 0, 1, 3, 1, 7⟩ : Cmd)).2.2)] : Value) := aL 5 dc g E
 exact obl rfl (zj (vs := [.agg ji.toArray, .bool ((exR dF 2 ([] : List Ev) ([] : List Ent) 1 10 (⟨0, 0, 0, 1, 3, 1, 7⟩ : Cmd)).2.1), Iv ((exR dF 2 ([] : List Ev) ([] : List Ent) 1 10 (⟨0, 0, 0, 1, 3, 1, 7⟩ : Cmd)).2.2)]) (i := 2) (v := Iv ((exR dF 2 ([] : List Ev) ([] : List Ent) 1 10 (⟨0, 0, 0, 1, 3, 1, 7⟩ : Cmd)).2.2)) iz rfl dR)
 obtain ⟨q, p, g, I, K, E, P, hS711⟩ := aK
 let jj := ((exR dF 2 ([] : List Ev) ([] : List Ent) 1 10 (⟨0, 0, 0, 1, 3, 1, 7⟩ : Cmd)).1.cells g)
 have iA : vals 5 = (.tuple #[.agg jj.toArray, .bool ((exR dF 2 ([] : List Ev) ([] : List Ent) 1 10 (⟨0, 0, 0, 1, 3, 1, 7⟩ : Cmd)).2.1), Iv ((exR dF 2 ([] : List Ev) ([] : List Ent) 1 10 (⟨0, 0, 0, 1, 3, 1, 7⟩ : Cmd)).2.2)] : Value) := aL 5 dc g E
 exact obl rfl (zj (vs := [.agg jj.toArray, .bool ((exR dF 2 ([] : List Ev) ([] : List Ent) 1 10 (⟨0, 0, 0, 1, 3, 1, 7⟩ : Cmd)).2.1), Iv ((exR dF 2 ([] : List Ev) ([] : List Ent) 1 10 (⟨0, 0, 0, 1, 3, 1, 7⟩ : Cmd)).2.2)]) (i := 2) (v := Iv ((exR dF 2 ([] : List Ev) ([] : List Ent) 1 10 (⟨0, 0, 0, 1, 3, 1, 7⟩ : Cmd)).2.2)) iA rfl dR)
 obtain ⟨q, p, g, I, K, E, P, hS713⟩ := aK
 let jk := ((exR dF 2 ([] : List Ev) ([] : List Ent) 1 10 (⟨0, 0, 0, 1, 3, 1, 7⟩ : Cmd)).1.cells g)
 have iB : vals 5 = (.tuple #[.agg jk.toArray, .bool ((exR dF 2 ([] : List Ev) ([] : List Ent) 1 10 (⟨0, 0, 0, 1, 3, 1, 7⟩ : Cmd)).2.1), Iv ((exR dF 2 ([] : List Ev) ([] : List Ent) 1 10 (⟨0, 0, 0, 1, 3, 1, 7⟩ : Cmd)).2.2)] : Value) := aL 5 dc g E
 exact obl rfl (zj (vs := [.agg jk.toArray, .bool ((exR dF 2 ([] : List Ev) ([] : List Ent) 1 10 (⟨0, 0, 0, 1, 3, 1, 7⟩ : Cmd)).2.1), Iv ((exR dF 2 ([] : List Ev) ([] : List Ent) 1 10 (⟨0, 0, 0, 1, 3, 1, 7⟩ : Cmd)).2.2)]) (i := 2) (v := Iv ((exR dF 2 ([] : List Ev) ([] : List Ent) 1 10 (⟨0, 0, 0, 1, 3, 1, 7⟩ : Cmd)).2.2)) iB rfl dR)
 intro iC vals w716 gt aM hA717
 have bp : iC ∈ [0, 1, 3] := gt
 simp only [List.mem_cons, List.not_mem_nil, or_false] at bp
 rcases bp with rfl | rfl | rfl
 have gu : Sep _ _ _ _ := aM
 refine obl rfl ((zr nT ?_))
 intro w723 I gv
 exact fun u y m => ⟨(Exists.intro I (And.intro y (gu.new gv))), trivial⟩
 obtain ⟨q, p, K, gw⟩ := aM
 refine obl rfl ((zr nT ?_))
 intro w728 I gx
 exact fun u y m => ⟨(Exists.intro q (Exists.intro p (Exists.intro I (And.intro ((m 0 dc).trans K) (And.intro y ((gw.new gx).s10_bcadefghij)))))), trivial⟩
 obtain ⟨q, p, g, K, E, gy⟩ := aM
 refine obl rfl ((zr nT ?_))
 intro w734 I gz
 exact fun u y m => ⟨(Exists.intro q (Exists.intro p (Exists.intro g (Exists.intro I (And.intro ((m 0 dc).trans K) (And.intro ((m 4 dc).trans E) (And.intro y (gy.new gz)))))))), trivial⟩
 intro iD vals w737 gA gB gC
 have bq : iD ∈ [7] := gA
 simp only [List.mem_cons, List.not_mem_nil, or_false] at bq
 subst bq
 obtain ⟨q, p, g, I, K, E, P, aN⟩ := gB
 let iP := ((exR dF 2 ([] : List Ev) ([] : List Ent) 1 10 (⟨0, 0, 0, 1, 3, 1, 7⟩ : Cmd)).1.cells g)
 refine obl rfl ?_
 have iE : vals 6 = (.agg iP.toArray : Value) := gC 6 dc g E
 refine (zp (v := .agg iP.toArray) (c' := iP.toArray) mT P iE (aN.b0) (zW ⟨rfl, rfl, rfl, (aN.depSl (i := 4) rfl).one, rfl, rfl, rfl, rfl, rfl, rfl, trivial⟩) yqc rfl ?_)
 intro w743 gD
 exact fun u y m => ⟨(Exists.intro q (Exists.intro p (Exists.intro g (Exists.intro I (And.intro ((m 0 dc).trans K) (And.intro ((m 4 dc).trans E) (And.intro ((m 9 dc).trans P) (aN.pt0 gD)))))))), trivial⟩
 intro vals w758 gE gF
 obtain ⟨q, p, g, I, K, E, P, cx⟩ := gE
 have iF := gF 12 dc
 refine zT (kv := [(0, .bool false), (15, .agg #[(Iy bJ 1 1), Iz]), (16, .tuple #[Ix A 0, Ix B 0]), (14, .tuple #[Ix A 0, Ix B 0]), (17, Ix A 0), (18, Ix B 0), (1, Ix A 0), (2, Ix B 0), (19, Ix A 0), (20, .bool false), (21, .bool false), (22, Ix B 0), (23, .bool false), (24, .bool false), (25, .agg ((⟨0, 0, 0, 1, 3, 0, 7⟩ : Cmd).cells).toArray), (3, Ix Z 0), (4, Ix C 0), (5, .bool ((exR dF 2 ([] : List Ev) ([] : List Ent) 1 10 (⟨0, 0, 0, 1, 3, 0, 7⟩ : Cmd)).2.1)), (6, Iv ((exR dF 2 ([] : List Ev) ([] : List Ent) 1 10 (⟨0, 0, 0, 1, 3, 0, 7⟩ : Cmd)).2.2)), (35, Ix Z 5), (9, Iv ((exR dF 2 ([] : List Ev) ([] : List Ent) 1 10 (⟨0, 0, 0, 1, 3, 1, 7⟩ : Cmd)).2.2))]) ⟨rfl, rfl, rfl, rfl, rfl, rfl, rfl, rfl, rfl, rfl, rfl, rfl, rfl, rfl, rfl, rfl, rfl, rfl, rfl, rfl, (by exact iF), trivial⟩ (fun ρw758 => ?_)
 refine zd (za (R0 fun _ => st (Zd rfl (stn (yn (v := Iv (-1)) (c := [Iv 0, Iv 0, Iv 0, Iv 1, Iv 3, Iv 1, Iv 7]) (c' := [Iv 0, Iv 0, Iv 0, Iv 1, Iv 3, Iv (-1), Iv 7]) tT rfl rfl (cx.b8) rfl rfl rfl ?_)))))
 intro w763 gG
 have ok765 : Cmd.Ok (⟨0, 0, 0, 1, 3, -1, 7⟩ : Cmd) := ⟨(show InR (0) from dc), (show InR (0) from dc), (show InR (0) from dc), (show InR (1) from dc), (show InR (3) from dc), (show InR (-1) from dc), (show InR (7) from dc)⟩
 have cy := cx.pt8 gG
 refine zd (za (R0 fun _ => st (WZ rfl (stn (yn (v := Iv (-1)) (c := [Iv 0, Iv 0, Iv 0, Iv 1, Iv 3, Iv (-1), Iv 7]) (c' := [Iv 0, Iv 0, Iv 0, Iv 1, Iv (-1), Iv (-1), Iv 7]) tT rfl rfl (cy.b8) rfl rfl rfl ?_)))))
 intro w767 gH
 have cz : Cmd.Ok (⟨0, 0, 0, 1, -1, -1, 7⟩ : Cmd) := ⟨(show InR (0) from dc), (show InR (0) from dc), (show InR (0) from dc), (show InR (1) from dc), (show InR (-1) from dc), (show InR (-1) from dc), (show InR (7) from dc)⟩
 refine zd (za ?_)
 refine WD6 ((fun TT R S T U => WF [fun vals O => Sep G W (R :: S :: T :: U :: TT) O, fun vals O => ∃ (s : Nat) (t : Nat), (vals 0 = (.agg #[(Iy s 1 1), Iz] : Value)) ∧ Sep G W ((Blk s #[(Iy t 1 1)] 53) :: (Blk t #[Iv 1, Iv 1, .bool true, Iz] 110) :: R :: S :: T :: U :: TT) O, fun _ _ => True, fun vals O => ∃ (s : Nat) (t : Nat) (j : Value), (vals 0 = (.agg #[(Iy s 1 1), Iz] : Value)) ∧ (vals 4 = (.tuple #[.agg ((exR dF 2 ([] : List Ev) ([] : List Ent) 1 10 (⟨0, 0, 0, 1, -1, -1, 7⟩ : Cmd)).1.cells j).toArray, .bool ((exR dF 2 ([] : List Ev) ([] : List Ent) 1 10 (⟨0, 0, 0, 1, -1, -1, 7⟩ : Cmd)).2.1), Iv ((exR dF 2 ([] : List Ev) ([] : List Ent) 1 10 (⟨0, 0, 0, 1, -1, -1, 7⟩ : Cmd)).2.2)] : Value)) ∧ Sep G W ((RowE (α := Fld) (shr G W) 110 (Iy t 1 1) [(⟨1, 1, true, []⟩ : Fld)]) :: T :: U :: (DepO j ((exR dF 2 ([] : List Ev) ([] : List Ent) 1 10 (⟨0, 0, 0, 1, -1, -1, 7⟩ : Cmd)).1.deps)) :: R :: S :: TT) O, fun vals O => ∃ (J : Nat), (vals 9 = (Ix J 0 : Value)) ∧ Sep G W ((Blk J #[Iv 0, Iv 0, Iv 0, (Iz), Iv 0, Iv 0, Iv 0, Iv 0, Iv 0, Iv 0] 41) :: R :: S :: T :: U :: TT) O, fun vals O => ∃ (s : Nat) (t : Nat) (J : Nat), (vals 0 = (.agg #[(Iy s 1 1), Iz] : Value)) ∧ (vals 9 = (Ix J 0 : Value)) ∧ Sep G W ((Blk s #[(Iy t 1 1)] 53) :: (Blk t #[Iv 1, Iv 1, .bool true, Iz] 110) :: (Blk J #[Iv 0, Iv 0, Iv 0, (Iz), Iv 0, Iv 0, Iv 0, Iv 0, Iv 0, Iv 0] 41) :: R :: S :: T :: U :: TT) O, fun _ _ => True, fun vals O => ∃ (s : Nat) (t : Nat) (j : Value) (J : Nat), (vals 0 = (.agg #[(Iy s 1 1), Iz] : Value)) ∧ (vals 4 = (.tuple #[.agg ((exR dF 2 ([] : List Ev) ([] : List Ent) 1 10 (⟨0, 0, 0, 1, -1, -1, 7⟩ : Cmd)).1.cells j).toArray, .bool ((exR dF 2 ([] : List Ev) ([] : List Ent) 1 10 (⟨0, 0, 0, 1, -1, -1, 7⟩ : Cmd)).2.1), Iv ((exR dF 2 ([] : List Ev) ([] : List Ent) 1 10 (⟨0, 0, 0, 1, -1, -1, 7⟩ : Cmd)).2.2)] : Value)) ∧ (vals 9 = (Ix J 0 : Value)) ∧ Sep G W ((Blk J #[Iv 0, Iv 0, Iv 0, (Iz), Iv 0, Iv 0, Iv 0, Iv 0, Iv 0, Iv 0] 41) :: (RowE (α := Fld) (shr G W) 110 (Iy t 1 1) [(⟨1, 1, true, []⟩ : Fld)]) :: T :: U :: (DepO j ((exR dF 2 ([] : List Ev) ([] : List Ent) 1 10 (⟨0, 0, 0, 1, -1, -1, 7⟩ : Cmd)).1.deps)) :: R :: S :: TT) O, fun _ _ => True, fun _ _ => True, fun _ _ => True, fun _ _ => True, fun _ _ => True, fun _ _ => True, fun _ _ => True, fun vals O => ∃ (s : Nat) (t : Nat) (j : Value) (J : Nat), (vals 0 = (.agg #[(Iy s 1 1), Iz] : Value)) ∧ (vals 4 = (.tuple #[.agg ((exR dF 2 ([] : List Ev) ([] : List Ent) 1 10 (⟨0, 0, 0, 1, -1, -1, 7⟩ : Cmd)).1.cells j).toArray, .bool ((exR dF 2 ([] : List Ev) ([] : List Ent) 1 10 (⟨0, 0, 0, 1, -1, -1, 7⟩ : Cmd)).2.1), Iv ((exR dF 2 ([] : List Ev) ([] : List Ent) 1 10 (⟨0, 0, 0, 1, -1, -1, 7⟩ : Cmd)).2.2)] : Value)) ∧ (vals 9 = (Ix J 0 : Value)) ∧ Sep G W ((Blk J ((exR dF 2 ([] : List Ev) ([] : List Ent) 1 10 (⟨0, 0, 0, 1, -1, -1, 7⟩ : Cmd)).1.cells j).toArray 41) :: (RowE (α := Fld) (shr G W) 110 (Iy t 1 1) [(⟨1, 1, true, []⟩ : Fld)]) :: T :: U :: (DepO j ((exR dF 2 ([] : List Ev) ([] : List Ent) 1 10 (⟨0, 0, 0, 1, -1, -1, 7⟩ : Cmd)).1.deps)) :: R :: S :: TT) O]) ((DepO g ((exR dF 2 ([] : List Ev) ([] : List Ent) 1 10 (⟨0, 0, 0, 1, 3, 1, 7⟩ : Cmd)).1.deps)) :: iS :: (RowE (α := Fld) (shr G W) 110 (Iy x 1 1) [(⟨1, 1, true, []⟩ : Fld)]) :: (DepO e ((exR dF 2 ([] : List Ev) ([] : List Ent) 1 10 (⟨0, 0, 0, 1, 3, 0, 7⟩ : Cmd)).1.deps)) :: (Blk Z ((⟨0, 0, 0, 1, -1, -1, 7⟩ : Cmd).cells).toArray 28) :: (RowE (α := Fld) (shr G W) 110 (Iy ao 1 1) [(⟨1, 1, true, []⟩ : Fld)]) :: Rs) (Blk I ((exR dF 2 ([] : List Ev) ([] : List Ent) 1 10 (⟨0, 0, 0, 1, 3, 1, 7⟩ : Cmd)).1.cells g).toArray 41) (RowE (α := Fld) (shr G W) 110 (Iy p 1 1) [(⟨1, 1, true, []⟩ : Fld)]) (SetO A 2 ([] : List Ev)) iR) (AF [fun _ => True, Vl 1 (Ix A 0), Vl 2 (Ix B 0), Vl 3 (.agg ((⟨0, 0, 0, 1, -1, -1, 7⟩ : Cmd).cells).toArray), fun _ => True, fun vals => ∀ (j : Value), vals 4 = (.tuple #[.agg ((exR dF 2 ([] : List Ev) ([] : List Ent) 1 10 (⟨0, 0, 0, 1, -1, -1, 7⟩ : Cmd)).1.cells j).toArray, .bool ((exR dF 2 ([] : List Ev) ([] : List Ent) 1 10 (⟨0, 0, 0, 1, -1, -1, 7⟩ : Cmd)).2.1), Iv ((exR dF 2 ([] : List Ev) ([] : List Ent) 1 10 (⟨0, 0, 0, 1, -1, -1, 7⟩ : Cmd)).2.2)] : Value) → vals 5 = (.tuple #[.agg ((exR dF 2 ([] : List Ev) ([] : List Ent) 1 10 (⟨0, 0, 0, 1, -1, -1, 7⟩ : Cmd)).1.cells j).toArray, .bool ((exR dF 2 ([] : List Ev) ([] : List Ent) 1 10 (⟨0, 0, 0, 1, -1, -1, 7⟩ : Cmd)).2.1), Iv ((exR dF 2 ([] : List Ev) ([] : List Ent) 1 10 (⟨0, 0, 0, 1, -1, -1, 7⟩ : Cmd)).2.2)] : Value), fun vals => ∀ (j : Value), vals 4 = (.tuple #[.agg ((exR dF 2 ([] : List Ev) ([] : List Ent) 1 10 (⟨0, 0, 0, 1, -1, -1, 7⟩ : Cmd)).1.cells j).toArray, .bool ((exR dF 2 ([] : List Ev) ([] : List Ent) 1 10 (⟨0, 0, 0, 1, -1, -1, 7⟩ : Cmd)).2.1), Iv ((exR dF 2 ([] : List Ev) ([] : List Ent) 1 10 (⟨0, 0, 0, 1, -1, -1, 7⟩ : Cmd)).2.2)] : Value) → vals 6 = (.agg ((exR dF 2 ([] : List Ev) ([] : List Ent) 1 10 (⟨0, 0, 0, 1, -1, -1, 7⟩ : Cmd)).1.cells j).toArray : Value), Vl 7 (.bool ((exR dF 2 ([] : List Ev) ([] : List Ent) 1 10 (⟨0, 0, 0, 1, -1, -1, 7⟩ : Cmd)).2.1)), Vl 8 (Iv ((exR dF 2 ([] : List Ev) ([] : List Ent) 1 10 (⟨0, 0, 0, 1, -1, -1, 7⟩ : Cmd)).2.2)), fun _ => True, fun _ => True, Vl 11 (.bool ((exR dF 2 ([] : List Ev) ([] : List Ent) 1 10 (⟨0, 0, 0, 1, -1, -1, 7⟩ : Cmd)).2.1)), Vl 12 (Iv ((exR dF 2 ([] : List Ev) ([] : List Ent) 1 10 (⟨0, 0, 0, 1, -1, -1, 7⟩ : Cmd)).2.2))]) [[], [], [], [], (rg 4), (rg 5), (rg 6), (rg 6), (rg 6), [], [0, 1, 2, 3, 4, 5, 6, 9], [0, 1, 2, 3, 4, 5, 6, 7, 9, 10], (rg 12)] [0, 4, 9, 10] [[0, 4], [0, 1, 4, 5], [0, 1, 4, 5], [0, 1, 4, 5], [1, 5], [3, 7], [3, 7], [3, 7, 15], [3, 7, 15], [0, 1, 3], [7], [15], [15]] (cy.pt8 gH) ⟨?_, fun _ _ _ _ _ _ => obl rfl (mV (Ix A 0) dR), fun _ _ _ _ _ _ => obl rfl (mV (Ix B 0) dR), ?_, ?_, ?_, ?_, ?_, ?_, ?_, ?_, fun _ _ _ _ _ da => obl rfl (zR (v := .bool ((exR dF 2 ([] : List Ev) ([] : List Ent) 1 10 (⟨0, 0, 0, 1, -1, -1, 7⟩ : Cmd)).2.1)) (da 7 dc) dR), fun _ _ _ _ _ db => obl rfl (zR (v := Iv ((exR dF 2 ([] : List Ev) ([] : List Ent) 1 10 (⟨0, 0, 0, 1, -1, -1, 7⟩ : Cmd)).2.2)) (db 8 dc) dR), trivial⟩ ?_ (hlocA := yW ⟨dT, dA, dA, dA, dT, fun vals u y h => fun j H => (y 5 (.inl rfl)).trans (h j ((y 4 (.inr dc)).symm.trans H)), fun vals u y h => fun j H => (y 6 (.inl rfl)).trans (h j ((y 4 (.inr dc)).symm.trans H)), dA, dA, dT, dT, dA, dA, trivial⟩)
 intro iG vals w915 gI cC hA916
 have br : iG ∈ [0, 4] := gI
 simp only [List.mem_cons, List.not_mem_nil, or_false] at br
 rcases br with rfl | rfl
 have gJ : Sep _ _ _ _ := cC
 refine obl rfl ((cL sT (xg  gJ) ?_))
 rintro _ w922 ⟨s, t, rfl, gK⟩
 exact fun u y m => ⟨(Exists.intro s (Exists.intro t (And.intro y gK))), trivial⟩
 obtain ⟨J, Q, gL⟩ := cC
 refine obl rfl ((cL sT (xg  gL) ?_))
 rintro _ w927 ⟨s, t, rfl, gM⟩
 exact fun u y m => ⟨(Exists.intro s (Exists.intro t (Exists.intro J (And.intro y (And.intro ((m 9 dc).trans Q) gM))))), trivial⟩
 intro iH vals w940 gN ad hA941
 have bs : iH ∈ [0, 1, 4, 5] := gN
 simp only [List.mem_cons, List.not_mem_nil, or_false] at bs
 rcases bs with rfl | rfl | rfl | rfl
 have gO : Sep _ _ _ _ := ad
 exact obl rfl (zf (k := 7) lT kT rfl rfl (CellsAt.all (gO.b8)) dR)
 obtain ⟨s, t, L, gP⟩ := ad
 exact obl rfl (zf (k := 7) lT kT rfl rfl (CellsAt.all (gP.b10)) dR)
 obtain ⟨J, Q, gQ⟩ := ad
 exact obl rfl (zf (k := 7) lT kT rfl rfl (CellsAt.all (gQ.b9)) dR)
 obtain ⟨s, t, J, L, Q, gR⟩ := ad
 exact obl rfl (zf (k := 7) lT kT rfl rfl (CellsAt.all (gR.b11)) dR)
 intro iI vals aO gS cD Y
 have bt : iI ∈ [1, 5] := gS
 simp only [List.mem_cons, List.not_mem_nil, or_false] at bt
 rcases bt with rfl | rfl
 obtain ⟨s, t, L, gT⟩ := cD
 refine obl rfl ?_
 have cE : Sep _ _ ((RowE (α := Fld) (shr G W) 110 (Iy t 1 1) [(⟨1, 1, true, []⟩ : Fld)]) :: _) _ := Sep.blkRow (src := (shr G W)) (l := [(⟨1, 1, true, []⟩ : Fld)]) (css := [(⟨1, 1, true, []⟩ : Fld).cells (Iz)]) (gT.mv1) rfl ⟨fun _ _ => ⟨_, rfl, (RdS.nil _ _), (show Fld.Ok (⟨1, 1, true, []⟩ : Fld) from ⟨by decide, by decide⟩)⟩, trivial⟩ yqa (show 1 ≤ maxLen by decide)
 have gU := cE.r0
 have hr959s : _ * 48 ≤ _ := gU.2
 obtain ⟨dd, gV, cF, gW, gX⟩ := cE.lend
 have bu := RowE.rdB gV cF
 have hrd966s : _ * 48 ≤ _ := bu.small
 have cG : Sep _ _ ((RowE (α := Typ) (shr dd aO) 53 (Iy s 1 1) [(⟨[(⟨1, 1, true, []⟩ : Fld)]⟩ : Typ)]) :: _) _ := Sep.blkRow (src := (shr dd aO)) (l := [(⟨[(⟨1, 1, true, []⟩ : Fld)]⟩ : Typ)]) (css := [(⟨[(⟨1, 1, true, []⟩ : Fld)]⟩ : Typ).cells (Iy t 1 1)]) gW rfl ⟨fun _ _ => ⟨_, rfl, bu, (show Typ.Ok (⟨[(⟨1, 1, true, []⟩ : Fld)]⟩ : Typ) from ⟨⟩)⟩, trivial⟩ yqa (show 1 ≤ maxLen by decide)
 have gY := cG.r0
 have hr968s : _ * 24 ≤ _ := gY.2
 obtain ⟨G969, gZ, cH, ha, hb⟩ := cG.lend
 have bv := RowE.rdB gZ cH
 have hrd975s : _ * 24 ≤ _ := bv.small
 obtain ⟨G977, cI, cJ, hc, hd⟩ := (ha.mv2).lend
 obtain ⟨vv983, m984, R985, hb986, he, hr988⟩ := SetO.sh cI
 have hsm989 : (zu 2 ([] : List Ev)).length * 8 ≤ 140737488355328 := he.small
 refine (zB (f := 11) (vals := [.agg (dF.cells (Iy s 1 1) (Iz)).toArray, Ix A 0, Ix B 0, Iv 1, Iv 10, .agg ((⟨0, 0, 0, 1, -1, -1, 7⟩ : Cmd).cells).toArray]) (cap := []) rfl (yE ⟨L, (Y 1 dc), (Y 2 dc), rfl, rfl, (Y 3 dc), trivial⟩) oT (Zb (d := dF) (o := 1) (start := 10) (c := (⟨0, 0, 0, 1, -1, -1, 7⟩ : Cmd)) (RdS.base bv cJ) (RdS.nil _ _) (⟨⟩ : Dcl.Ok dF) cI dc dc cz (RdS.base (RdS.base (RdS.base hKN cF) cH) cJ) (hc.mv2) (YP) ((Inv.nil dF)) ((Nat.zero_le _)) (List.Pairwise.nil) ((Good.nil (n := 2)).srt) ((Nat.zero_le _)) (dc)) ?_)
 rintro _ w992 ⟨j, rfl, hf⟩
 have hg := hd _ _ hf
 have hh := hb _ _ hg
 have hi := gX _ _ hh
 exact fun u y m => ⟨(Exists.intro s (Exists.intro t (Exists.intro j (And.intro ((m 0 dc).trans L) (And.intro y (hi.s13_acdefghijklm)))))), trivial⟩
 obtain ⟨s, t, J, L, Q, hj⟩ := cD
 refine obl rfl ?_
 have bw : Sep _ _ ((RowE (α := Fld) (shr G W) 110 (Iy t 1 1) [(⟨1, 1, true, []⟩ : Fld)]) :: _) _ := Sep.blkRow (src := (shr G W)) (l := [(⟨1, 1, true, []⟩ : Fld)]) (css := [(⟨1, 1, true, []⟩ : Fld).cells (Iz)]) (hj.mv1) rfl ⟨fun _ _ => ⟨_, rfl, (RdS.nil _ _), (show Fld.Ok (⟨1, 1, true, []⟩ : Fld) from ⟨by decide, by decide⟩)⟩, trivial⟩ yqa (show 1 ≤ maxLen by decide)
 have de := bw.r0
 have hr1004s : _ * 48 ≤ _ := de.2
 obtain ⟨cK, df, bx, dg, dh⟩ := bw.lend
 have ap := RowE.rdB df bx
 have hrd1011s : _ * 48 ≤ _ := ap.small
 have bz : Sep _ _ ((RowE (α := Typ) (shr cK aO) 53 (Iy s 1 1) [(⟨[(⟨1, 1, true, []⟩ : Fld)]⟩ : Typ)]) :: _) _ := Sep.blkRow (src := (shr cK aO)) (l := [(⟨[(⟨1, 1, true, []⟩ : Fld)]⟩ : Typ)]) (css := [(⟨[(⟨1, 1, true, []⟩ : Fld)]⟩ : Typ).cells (Iy t 1 1)]) dg rfl ⟨fun _ _ => ⟨_, rfl, ap, (show Typ.Ok (⟨[(⟨1, 1, true, []⟩ : Fld)]⟩ : Typ) from ⟨⟩)⟩, trivial⟩ yqa (show 1 ≤ maxLen by decide)
 have di := bz.r0
 have hr1013s : _ * 24 ≤ _ := di.2
 obtain ⟨G1014, dj, bA, dk, dl⟩ := bz.lend
 have aq := RowE.rdB dj bA
 have hrd1020s : _ * 24 ≤ _ := aq.small
 obtain ⟨G1022, bB, bC, dm, dp⟩ := (dk.mv3).lend
 obtain ⟨vv1028, m1029, R1030, hb1031, dq, hr1033⟩ := SetO.sh bB
 have hsm1034 : (zu 2 ([] : List Ev)).length * 8 ≤ 140737488355328 := dq.small
 refine (zB (f := 11) (vals := [.agg (dF.cells (Iy s 1 1) (Iz)).toArray, Ix A 0, Ix B 0, Iv 1, Iv 10, .agg ((⟨0, 0, 0, 1, -1, -1, 7⟩ : Cmd).cells).toArray]) (cap := []) rfl (yE ⟨L, (Y 1 dc), (Y 2 dc), rfl, rfl, (Y 3 dc), trivial⟩) oT (Zb (d := dF) (o := 1) (start := 10) (c := (⟨0, 0, 0, 1, -1, -1, 7⟩ : Cmd)) (RdS.base aq bC) (RdS.nil _ _) (⟨⟩ : Dcl.Ok dF) bB dc dc cz (RdS.base (RdS.base (RdS.base hKN bx) bA) bC) (dm.mv3) (YP) ((Inv.nil dF)) ((Nat.zero_le _)) (List.Pairwise.nil) ((Good.nil (n := 2)).srt) ((Nat.zero_le _)) (dc)) ?_)
 rintro _ w1037 ⟨j, rfl, dr⟩
 have ds := dp _ _ dr
 have dt := dl _ _ ds
 have du := dh _ _ dt
 exact fun u y m => ⟨(Exists.intro s (Exists.intro t (Exists.intro j (Exists.intro J (And.intro ((m 0 dc).trans L) (And.intro y (And.intro ((m 9 dc).trans Q) ((du.s14_acdefghijklmn).mv4)))))))), trivial⟩
 intro hk vals w1045 dv bD hA1046
 have ar : hk ∈ [3, 7] := dv
 simp only [List.mem_cons, List.not_mem_nil, or_false] at ar
 rcases ar with rfl | rfl
 obtain ⟨s, t, j, L, F, hS1049⟩ := bD
 refine obl rfl (ya (v := .tuple #[.agg ((exR dF 2 ([] : List Ev) ([] : List Ent) 1 10 (⟨0, 0, 0, 1, -1, -1, 7⟩ : Cmd)).1.cells j).toArray, .bool ((exR dF 2 ([] : List Ev) ([] : List Ent) 1 10 (⟨0, 0, 0, 1, -1, -1, 7⟩ : Cmd)).2.1), Iv ((exR dF 2 ([] : List Ev) ([] : List Ent) 1 10 (⟨0, 0, 0, 1, -1, -1, 7⟩ : Cmd)).2.2)]) F (fun u y m => ⟨rfl, ?_⟩))
 intro ag H
 rw [m 4 (by decide)] at H; cases F.symm.trans H
 exact y
 obtain ⟨s, t, j, J, L, F, Q, hS1050⟩ := bD
 refine obl rfl (ya (v := .tuple #[.agg ((exR dF 2 ([] : List Ev) ([] : List Ent) 1 10 (⟨0, 0, 0, 1, -1, -1, 7⟩ : Cmd)).1.cells j).toArray, .bool ((exR dF 2 ([] : List Ev) ([] : List Ent) 1 10 (⟨0, 0, 0, 1, -1, -1, 7⟩ : Cmd)).2.1), Iv ((exR dF 2 ([] : List Ev) ([] : List Ent) 1 10 (⟨0, 0, 0, 1, -1, -1, 7⟩ : Cmd)).2.2)]) F (fun u y m => ⟨rfl, ?_⟩))
 intro ag H
 rw [m 4 (by decide)] at H; cases F.symm.trans H
 exact y
 intro hl vals w1052 dw bE bF
 have au : hl ∈ [3, 7] := dw
 simp only [List.mem_cons, List.not_mem_nil, or_false] at au
 rcases au with rfl | rfl
 obtain ⟨s, t, j, L, F, hS1056⟩ := bE
 let bo := ((exR dF 2 ([] : List Ev) ([] : List Ent) 1 10 (⟨0, 0, 0, 1, -1, -1, 7⟩ : Cmd)).1.cells j)
 have hm : vals 5 = (.tuple #[.agg bo.toArray, .bool ((exR dF 2 ([] : List Ev) ([] : List Ent) 1 10 (⟨0, 0, 0, 1, -1, -1, 7⟩ : Cmd)).2.1), Iv ((exR dF 2 ([] : List Ev) ([] : List Ent) 1 10 (⟨0, 0, 0, 1, -1, -1, 7⟩ : Cmd)).2.2)] : Value) := bF 5 dc j F
 refine obl rfl (zj (vs := [.agg bo.toArray, .bool ((exR dF 2 ([] : List Ev) ([] : List Ent) 1 10 (⟨0, 0, 0, 1, -1, -1, 7⟩ : Cmd)).2.1), Iv ((exR dF 2 ([] : List Ev) ([] : List Ent) 1 10 (⟨0, 0, 0, 1, -1, -1, 7⟩ : Cmd)).2.2)]) (i := 0) (v := .agg bo.toArray) hm rfl (fun u y m => ⟨rfl, ?_⟩))
 intro ag H
 rw [m 4 (by decide)] at H; cases F.symm.trans H
 exact y
 obtain ⟨s, t, j, J, L, F, Q, hS1058⟩ := bE
 let eg := ((exR dF 2 ([] : List Ev) ([] : List Ent) 1 10 (⟨0, 0, 0, 1, -1, -1, 7⟩ : Cmd)).1.cells j)
 have hn : vals 5 = (.tuple #[.agg eg.toArray, .bool ((exR dF 2 ([] : List Ev) ([] : List Ent) 1 10 (⟨0, 0, 0, 1, -1, -1, 7⟩ : Cmd)).2.1), Iv ((exR dF 2 ([] : List Ev) ([] : List Ent) 1 10 (⟨0, 0, 0, 1, -1, -1, 7⟩ : Cmd)).2.2)] : Value) := bF 5 dc j F
 refine obl rfl (zj (vs := [.agg eg.toArray, .bool ((exR dF 2 ([] : List Ev) ([] : List Ent) 1 10 (⟨0, 0, 0, 1, -1, -1, 7⟩ : Cmd)).2.1), Iv ((exR dF 2 ([] : List Ev) ([] : List Ent) 1 10 (⟨0, 0, 0, 1, -1, -1, 7⟩ : Cmd)).2.2)]) (i := 0) (v := .agg eg.toArray) hn rfl (fun u y m => ⟨rfl, ?_⟩))
 intro ag H
 rw [m 4 (by decide)] at H; cases F.symm.trans H
 exact y
 intro ho vals w1061 dx ah ai
 have av : ho ∈ [3, 7, 15] := dx
 simp only [List.mem_cons, List.not_mem_nil, or_false] at av
 rcases av with rfl | rfl | rfl
 obtain ⟨s, t, j, L, F, hS1065⟩ := ah
 let iT := ((exR dF 2 ([] : List Ev) ([] : List Ent) 1 10 (⟨0, 0, 0, 1, -1, -1, 7⟩ : Cmd)).1.cells j)
 have hp : vals 5 = (.tuple #[.agg iT.toArray, .bool ((exR dF 2 ([] : List Ev) ([] : List Ent) 1 10 (⟨0, 0, 0, 1, -1, -1, 7⟩ : Cmd)).2.1), Iv ((exR dF 2 ([] : List Ev) ([] : List Ent) 1 10 (⟨0, 0, 0, 1, -1, -1, 7⟩ : Cmd)).2.2)] : Value) := ai 5 dc j F
 exact obl rfl (zj (vs := [.agg iT.toArray, .bool ((exR dF 2 ([] : List Ev) ([] : List Ent) 1 10 (⟨0, 0, 0, 1, -1, -1, 7⟩ : Cmd)).2.1), Iv ((exR dF 2 ([] : List Ev) ([] : List Ent) 1 10 (⟨0, 0, 0, 1, -1, -1, 7⟩ : Cmd)).2.2)]) (i := 1) (v := .bool ((exR dF 2 ([] : List Ev) ([] : List Ent) 1 10 (⟨0, 0, 0, 1, -1, -1, 7⟩ : Cmd)).2.1)) hp rfl dR)
 obtain ⟨s, t, j, J, L, F, Q, hS1067⟩ := ah
 let iU := ((exR dF 2 ([] : List Ev) ([] : List Ent) 1 10 (⟨0, 0, 0, 1, -1, -1, 7⟩ : Cmd)).1.cells j)
 have hq : vals 5 = (.tuple #[.agg iU.toArray, .bool ((exR dF 2 ([] : List Ev) ([] : List Ent) 1 10 (⟨0, 0, 0, 1, -1, -1, 7⟩ : Cmd)).2.1), Iv ((exR dF 2 ([] : List Ev) ([] : List Ent) 1 10 (⟨0, 0, 0, 1, -1, -1, 7⟩ : Cmd)).2.2)] : Value) := ai 5 dc j F
 exact obl rfl (zj (vs := [.agg iU.toArray, .bool ((exR dF 2 ([] : List Ev) ([] : List Ent) 1 10 (⟨0, 0, 0, 1, -1, -1, 7⟩ : Cmd)).2.1), Iv ((exR dF 2 ([] : List Ev) ([] : List Ent) 1 10 (⟨0, 0, 0, 1, -1, -1, 7⟩ : Cmd)).2.2)]) (i := 1) (v := .bool ((exR dF 2 ([] : List Ev) ([] : List Ent) 1 10 (⟨0, 0, 0, 1, -1, -1, 7⟩ : Cmd)).2.1)) hq rfl dR)
 obtain ⟨s, t, j, J, L, F, Q, hS1069⟩ := ah
 let iV := ((exR dF 2 ([] : List Ev) ([] : List Ent) 1 10 (⟨0, 0, 0, 1, -1, -1, 7⟩ : Cmd)).1.cells j)
 have hr : vals 5 = (.tuple #[.agg iV.toArray, .bool ((exR dF 2 ([] : List Ev) ([] : List Ent) 1 10 (⟨0, 0, 0, 1, -1, -1, 7⟩ : Cmd)).2.1), Iv ((exR dF 2 ([] : List Ev) ([] : List Ent) 1 10 (⟨0, 0, 0, 1, -1, -1, 7⟩ : Cmd)).2.2)] : Value) := ai 5 dc j F
 exact obl rfl (zj (vs := [.agg iV.toArray, .bool ((exR dF 2 ([] : List Ev) ([] : List Ent) 1 10 (⟨0, 0, 0, 1, -1, -1, 7⟩ : Cmd)).2.1), Iv ((exR dF 2 ([] : List Ev) ([] : List Ent) 1 10 (⟨0, 0, 0, 1, -1, -1, 7⟩ : Cmd)).2.2)]) (i := 1) (v := .bool ((exR dF 2 ([] : List Ev) ([] : List Ent) 1 10 (⟨0, 0, 0, 1, -1, -1, 7⟩ : Cmd)).2.1)) hr rfl dR)
 intro hs vals w1072 dy aj ak
 have aw : hs ∈ [3, 7, 15] := dy
 simp only [List.mem_cons, List.not_mem_nil, or_false] at aw
 rcases aw with rfl | rfl | rfl
 obtain ⟨s, t, j, L, F, hS1076⟩ := aj
 let iW := ((exR dF 2 ([] : List Ev) ([] : List Ent) 1 10 (⟨0, 0, 0, 1, -1, -1, 7⟩ : Cmd)).1.cells j)
 have ht : vals 5 = (.tuple #[.agg iW.toArray, .bool ((exR dF 2 ([] : List Ev) ([] : List Ent) 1 10 (⟨0, 0, 0, 1, -1, -1, 7⟩ : Cmd)).2.1), Iv ((exR dF 2 ([] : List Ev) ([] : List Ent) 1 10 (⟨0, 0, 0, 1, -1, -1, 7⟩ : Cmd)).2.2)] : Value) := ak 5 dc j F
 exact obl rfl (zj (vs := [.agg iW.toArray, .bool ((exR dF 2 ([] : List Ev) ([] : List Ent) 1 10 (⟨0, 0, 0, 1, -1, -1, 7⟩ : Cmd)).2.1), Iv ((exR dF 2 ([] : List Ev) ([] : List Ent) 1 10 (⟨0, 0, 0, 1, -1, -1, 7⟩ : Cmd)).2.2)]) (i := 2) (v := Iv ((exR dF 2 ([] : List Ev) ([] : List Ent) 1 10 (⟨0, 0, 0, 1, -1, -1, 7⟩ : Cmd)).2.2)) ht rfl dR)
 obtain ⟨s, t, j, J, L, F, Q, hS1078⟩ := aj
 let iX := ((exR dF 2 ([] : List Ev) ([] : List Ent) 1 10 (⟨0, 0, 0, 1, -1, -1, 7⟩ : Cmd)).1.cells j)
 have hu : vals 5 = (.tuple #[.agg iX.toArray, .bool ((exR dF 2 ([] : List Ev) ([] : List Ent) 1 10 (⟨0, 0, 0, 1, -1, -1, 7⟩ : Cmd)).2.1), Iv ((exR dF 2 ([] : List Ev) ([] : List Ent) 1 10 (⟨0, 0, 0, 1, -1, -1, 7⟩ : Cmd)).2.2)] : Value) := ak 5 dc j F
 exact obl rfl (zj (vs := [.agg iX.toArray, .bool ((exR dF 2 ([] : List Ev) ([] : List Ent) 1 10 (⟨0, 0, 0, 1, -1, -1, 7⟩ : Cmd)).2.1), Iv ((exR dF 2 ([] : List Ev) ([] : List Ent) 1 10 (⟨0, 0, 0, 1, -1, -1, 7⟩ : Cmd)).2.2)]) (i := 2) (v := Iv ((exR dF 2 ([] : List Ev) ([] : List Ent) 1 10 (⟨0, 0, 0, 1, -1, -1, 7⟩ : Cmd)).2.2)) hu rfl dR)
 obtain ⟨s, t, j, J, L, F, Q, hS1080⟩ := aj
 let iY := ((exR dF 2 ([] : List Ev) ([] : List Ent) 1 10 (⟨0, 0, 0, 1, -1, -1, 7⟩ : Cmd)).1.cells j)
 have hw : vals 5 = (.tuple #[.agg iY.toArray, .bool ((exR dF 2 ([] : List Ev) ([] : List Ent) 1 10 (⟨0, 0, 0, 1, -1, -1, 7⟩ : Cmd)).2.1), Iv ((exR dF 2 ([] : List Ev) ([] : List Ent) 1 10 (⟨0, 0, 0, 1, -1, -1, 7⟩ : Cmd)).2.2)] : Value) := ak 5 dc j F
 exact obl rfl (zj (vs := [.agg iY.toArray, .bool ((exR dF 2 ([] : List Ev) ([] : List Ent) 1 10 (⟨0, 0, 0, 1, -1, -1, 7⟩ : Cmd)).2.1), Iv ((exR dF 2 ([] : List Ev) ([] : List Ent) 1 10 (⟨0, 0, 0, 1, -1, -1, 7⟩ : Cmd)).2.2)]) (i := 2) (v := Iv ((exR dF 2 ([] : List Ev) ([] : List Ent) 1 10 (⟨0, 0, 0, 1, -1, -1, 7⟩ : Cmd)).2.2)) hw rfl dR)
 intro hx vals w1083 dz al hA1084
 have ax : hx ∈ [0, 1, 3] := dz
 simp only [List.mem_cons, List.not_mem_nil, or_false] at ax
 rcases ax with rfl | rfl | rfl
 have dB : Sep _ _ _ _ := al
 refine obl rfl ((zr nT ?_))
 intro w1090 J dC
 exact fun u y m => ⟨(Exists.intro J (And.intro y (dB.new dC))), trivial⟩
 obtain ⟨s, t, L, dD⟩ := al
 refine obl rfl ((zr nT ?_))
 intro w1095 J dE
 exact fun u y m => ⟨(Exists.intro s (Exists.intro t (Exists.intro J (And.intro ((m 0 dc).trans L) (And.intro y ((dD.new dE).s13_bcadefghijklm)))))), trivial⟩
 obtain ⟨s, t, j, L, F, dG⟩ := al
 refine obl rfl ((zr nT ?_))
 intro w1101 J dH
 exact fun u y m => ⟨(Exists.intro s (Exists.intro t (Exists.intro j (Exists.intro J (And.intro ((m 0 dc).trans L) (And.intro ((m 4 dc).trans F) (And.intro y (dG.new dH)))))))), trivial⟩
 intro hy vals w1104 dI dJ dK
 have ay : hy ∈ [7] := dI
 simp only [List.mem_cons, List.not_mem_nil, or_false] at ay
 subst ay
 obtain ⟨s, t, j, J, L, F, Q, am⟩ := dJ
 let fD := ((exR dF 2 ([] : List Ev) ([] : List Ent) 1 10 (⟨0, 0, 0, 1, -1, -1, 7⟩ : Cmd)).1.cells j)
 refine obl rfl ?_
 have hz : vals 6 = (.agg fD.toArray : Value) := dK 6 dc j F
 refine (zp (v := .agg fD.toArray) (c' := fD.toArray) mT Q hz (am.b0) (zW ⟨rfl, rfl, rfl, (am.depSl (i := 4) rfl).one, rfl, rfl, rfl, rfl, rfl, rfl, trivial⟩) yqc rfl ?_)
 intro w1110 dL
 exact fun u y m => ⟨(Exists.intro s (Exists.intro t (Exists.intro j (Exists.intro J (And.intro ((m 0 dc).trans L) (And.intro ((m 4 dc).trans F) (And.intro ((m 9 dc).trans Q) (am.pt0 dL)))))))), trivial⟩
 intro vals w1125 dM dN
 obtain ⟨s, t, j, J, L, F, Q, dO⟩ := dM
 have hA := dN 12 dc
 refine zT (kv := [(0, .bool false), (15, .agg #[(Iy bJ 1 1), Iz]), (16, .tuple #[Ix A 0, Ix B 0]), (14, .tuple #[Ix A 0, Ix B 0]), (17, Ix A 0), (18, Ix B 0), (1, Ix A 0), (2, Ix B 0), (19, Ix A 0), (20, .bool false), (21, .bool false), (22, Ix B 0), (23, .bool false), (24, .bool false), (25, .agg ((⟨0, 0, 0, 1, 3, 0, 7⟩ : Cmd).cells).toArray), (3, Ix Z 0), (4, Ix C 0), (5, .bool ((exR dF 2 ([] : List Ev) ([] : List Ent) 1 10 (⟨0, 0, 0, 1, 3, 0, 7⟩ : Cmd)).2.1)), (6, Iv ((exR dF 2 ([] : List Ev) ([] : List Ent) 1 10 (⟨0, 0, 0, 1, 3, 0, 7⟩ : Cmd)).2.2)), (35, Ix Z 5), (9, Iv ((exR dF 2 ([] : List Ev) ([] : List Ent) 1 10 (⟨0, 0, 0, 1, 3, 1, 7⟩ : Cmd)).2.2)), (45, Ix Z 5), (46, Ix Z 4), (12, Iv ((exR dF 2 ([] : List Ev) ([] : List Ent) 1 10 (⟨0, 0, 0, 1, -1, -1, 7⟩ : Cmd)).2.2))]) ⟨rfl, rfl, rfl, rfl, rfl, rfl, rfl, rfl, rfl, rfl, rfl, rfl, rfl, rfl, rfl, rfl, rfl, rfl, rfl, rfl, rfl, rfl, rfl, (by exact hA), trivial⟩ (fun ρw1125 => ?_)
 refine zd (za (yq (by kernel_rfl) (fun _ => (st (zI (parts' := [(0, Iv 1), (1, Iv 1)]) (v := .agg #[Iv 1, Iv 1]) rfl (by simp +zetaDelta [Instr.build, Instr.fill, Ev.cells, go_sem, Mv.cells, Fld.cells, Typ.cells, Prj.cells, Dcl.cells, Cel.cells, AskR.cells, CelS.cells, Ev.cells, Ent.cells, Sta.cells, Cmd.cells]) (st (zS (k := 1) (parts' := [(0, Iv 0), (1, Iv 0)]) (c := #[Iv 0, Iv 0]) Tryz.underlying39 tT Tryz.zeroValue3 (by decide) rfl (by kernel_rfl) ?_)))))))
 intro w1132 aa dP
 let iQ := ((⟨1, 1, 11, [0, 0], 0, 0, 0, 1, 3, 7⟩ : Ev).cells (Iy aa 2 2))
 have bG : Sep _ _ ((RowE (α := Int) own 3 (Iy aa 2 2) [0, 0]) :: _) _ := Sep.blkRow (src := own) (l := [0, 0]) (css := [[Iv 0], [Iv 0]]) (dO.new dP) rfl ⟨fun _ _ => ⟨rfl, (by decide)⟩, fun _ _ => ⟨rfl, (by decide)⟩, trivial⟩ yqa (show 2 ≤ maxLen by decide)
 have dQ := bG.r0
 have hr1135s : _ * 8 ≤ _ := dQ.2
 have dS : Ev.Ok (⟨1, 1, 11, [0, 0], 0, 0, 0, 1, 3, 7⟩ : Ev) := ⟨(show InR (1) from dc), (show InR (1) from dc), (show InR (11) from dc), (show InR (0) from dc), (show InR (0) from dc), (show InR (0) from dc), (show InR (1) from dc), (show InR (3) from dc), (show InR (7) from dc)⟩
 refine st (zI (parts' := [(0, .agg #[Iv 1, Iv 1]), (1, Iv 11), (2, (Iy aa 2 2)), (6, Iv 1), (7, Iv 3), (8, Iv 7)]) (v := .agg iQ.toArray) rfl (by simp +zetaDelta [Instr.build, Instr.fill, Ev.cells, go_sem, Mv.cells, Fld.cells, Typ.cells, Prj.cells, Dcl.cells, Cel.cells, AskR.cells, CelS.cells, Ev.cells, Ent.cells, Sta.cells, Cmd.cells]) (st (zr nT ?_)))
 intro w1139 b1138 dU
 have bH := bG.new dU
 refine stn (zp (v := .agg iQ.toArray) (c' := iQ.toArray) mT rfl rfl (bH.b0) (zW ⟨rfl, rfl, rfl, rfl, rfl, rfl, rfl, rfl, rfl, rfl, trivial⟩) yqc rfl ?_)
 intro w1141 dV
 have an := bH.pt0 dV
 refine zd (za (zv kr (st (mV (.bool ((exR dF 2 ([] : List Ev) ([] : List Ent) 1 10 (⟨0, 0, 0, 1, 3, 0, 7⟩ : Cmd)).2.1)) (st (mV (.bool ((exR dF 2 ([] : List Ev) ([] : List Ent) 1 10 (⟨0, 0, 0, 1, 3, 0, 7⟩ : Cmd)).2.1)) ?_))))))
 have cM : ((exR dF 2 ([] : List Ev) ([] : List Ent) 1 10 (⟨0, 0, 0, 1, 3, 0, 7⟩ : Cmd)).2.1) = true := yqf
 rw [cM]
 refine sty rfl rfl (mV (Iv ((exR dF 2 ([] : List Ev) ([] : List Ent) 1 10 (⟨0, 0, 0, 1, 3, 0, 7⟩ : Cmd)).2.2)) (sty rfl rfl (zN (k := .i64) (a := (exR dF 2 ([] : List Ev) ([] : List Ent) 1 10 (⟨0, 0, 0, 1, 3, 0, 7⟩ : Cmd)).2.2) (b := 0) rfl rfl ?_)))
 have cN : (decide (((exR dF 2 ([] : List Ev) ([] : List Ent) 1 10 (⟨0, 0, 0, 1, 3, 0, 7⟩ : Cmd)).2.2) = 0)) = true := yqf
 rw [cN]
 refine st (zQ (v := .bool true) rfl rfl (st (mV (.bool true) (sty rfl rfl (zf (k := 10) qT mT rfl rfl (CellsAt.all (an.b10)) (sty rfl rfl (zf (k := 10) qT mT rfl rfl (CellsAt.all (an.b0)) ?_)))))))
 obtain ⟨G1147, dW, hB1150, dX, dY⟩ := (an.mv12).lend
 have bI := DepO.rd dW
 have hsm1154 : ((exR dF 2 ([] : List Ev) ([] : List Ent) 1 10 (⟨0, 0, 0, 1, 3, 0, 7⟩ : Cmd)).1.deps).length * 8 ≤ 140737488355328 := bI.small
 obtain ⟨G1156, dZ, ea, eb, ec⟩ := (dX.mv1).lend
 have az := RowE.rd dZ
 have hrd1162s : _ * 8 ≤ _ := az.small
 refine sty rfl rfl (cL vT (xO (a := (exR dF 2 ([] : List Ev) ([] : List Ent) 1 10 (⟨0, 0, 0, 1, 3, 0, 7⟩ : Cmd)).1) (b := (⟨1, 1, 11, [0, 0], 0, 0, 0, 1, 3, 7⟩ : Ev)) (RdS.base bI ea) (ZT (by constructor <;> decide) dc dc (fun _ h => absurd h List.not_mem_nil) dc) az dS eb) ?_)
 rintro _ w1163 ⟨rfl, ed⟩
 have ee := ec _ _ ed
 have ef := dY _ _ ee
 have cO : (decide (((exR dF 2 ([] : List Ev) ([] : List Ent) 1 10 (⟨0, 0, 0, 1, 3, 0, 7⟩ : Cmd)).1) = (⟨1, 1, 11, [0, 0], 0, 0, 0, 1, 3, 7⟩ : Ev))) = true := yqf
 rw [cO]
 refine st (zQ (v := .bool true) rfl rfl (st (mV (.bool true) (sty rfl rfl (mV (Iv ((exR dF 2 ([] : List Ev) ([] : List Ent) 1 10 (⟨0, 0, 0, 1, 3, 1, 7⟩ : Cmd)).2.2)) (sty rfl rfl (zN (k := .i64) (a := (exR dF 2 ([] : List Ev) ([] : List Ent) 1 10 (⟨0, 0, 0, 1, 3, 1, 7⟩ : Cmd)).2.2) (b := 11) rfl rfl ?_)))))))
 have cP : (decide (((exR dF 2 ([] : List Ev) ([] : List Ent) 1 10 (⟨0, 0, 0, 1, 3, 1, 7⟩ : Cmd)).2.2) = 11)) = true := yqf
 rw [cP]
 refine st (zQ (v := .bool true) rfl rfl (st (mV (.bool true) (sty rfl rfl (mV (Iv ((exR dF 2 ([] : List Ev) ([] : List Ent) 1 10 (⟨0, 0, 0, 1, -1, -1, 7⟩ : Cmd)).2.2)) (sty rfl rfl (zN (k := .i64) (a := (exR dF 2 ([] : List Ev) ([] : List Ent) 1 10 (⟨0, 0, 0, 1, -1, -1, 7⟩ : Cmd)).2.2) (b := 10) rfl rfl ?_)))))))
 have cQ : (decide (((exR dF 2 ([] : List Ev) ([] : List Ent) 1 10 (⟨0, 0, 0, 1, -1, -1, 7⟩ : Cmd)).2.2) = 10)) = true := yqf
 rw [cQ]
 refine st (zQ (v := .bool true) rfl rfl (st (aS (.bool true) (zd (zk (zG Tryz.results7 (show _ = (.bool true : Value) from rfl) ?_))))))
 refine ⟨rfl, (ef.s15_)⟩

section
variable {d : Dcl} {n : Nat} {L : List Ev} {V : List Ent} {o start lam : Int} {c : Cmd}
theorem Kf {ty f op arg : Int} : yL d ty f op arg ≠ 10 ∧ yL d ty f op arg ≠ 13 ∧ yL d ty f op arg ≠ 11 := by unfold yL; repeat (first | decide | split)
theorem JM : yY d c ≠ 10 ∧ yY d c ≠ 13 ∧ yY d c ≠ 11 := by
  unfold yY
  split
  · decide
  · exact Kf
theorem Jb {t : Typ} {cs : List Cel} {f op arg : Int} : yP t cs f op arg = 0 ∨ yP t cs f op arg = 10 := by unfold yP; split <;> simp
theorem zas (ho : 0 ≤ o ∧ o < n) (hl : 0 ≤ lam) (hL : L.length ≤ 1000) : evN o (zu n L) lam = if lam = 9223372036854775807 then 13 else 0 := by
  have h9 := Vh (n := n) (L := L) o
  unfold evN
  rw [Yn]
  have h1 : ((decide (o < 0) || decide ((n : Int) ≤ o)) || decide (lam < 0)) = false := by
    rw [Bool.or_eq_false_iff, Bool.or_eq_false_iff, decide_eq_false_iff_not, decide_eq_false_iff_not, decide_eq_false_iff_not]; omega
  have h2 : decide (yx (zu n L) o = 9223372036854775807) = false := by rw [decide_eq_false_iff_not]; omega
  rw [h1, h2]
  by_cases h3 : lam = 9223372036854775807 <;> simp [h3]
end
theorem Sep.setOks {G : Nat → Prop} {W w : World} {As : List HP} {b n : Nat} {L : List Ev} (h : Sep G W As w) {i : Nat} (hi : As[i]? = some (SetO b n L)) (hid : (L.map idE).Nodup) : ∀ e ∈ L, e.Ok := by
  obtain ⟨f, hA, _⟩ := h.get hi
  obtain ⟨vv, m, R, _, _, hr⟩ := SetO.sh hA
  exact zay hr hid
end Go.Proofs.YtbbabhaalmkbkaaGreatDoor
set_option maxRecDepth 8000
set_option maxHeartbeats 4000000
namespace Go.Proofs.YtbbabhaalmkbkaaGreatDoor
open Go.Proofs Go.RowKit

section
variable {d : Dcl} {n : Nat} {L : List Ev} {V : List Ent} {o start : Int} {c f r : Cmd}
def XE (a b : Cmd) : Prop := a.ctyp = b.ctyp ∧ a.cagg = b.cagg ∧ a.cfield = b.cfield ∧ a.cop = b.cop ∧ a.carg = b.carg ∧ a.ckey = b.ckey
theorem Wk (h : XE f c) (h1 : -1 ≤ f.expect) (h2 : -1 ≤ c.expect) : yY d f = yY d c := by
  obtain ⟨e1, e2, e3, e4, e5, e6⟩ := h
  unfold yY
  rw [e1, e2, e3, e4, e5, e6, decide_eq_false (show ¬ f.expect < -1 by omega), decide_eq_false (show ¬ c.expect < -1 by omega)]
theorem Kx {v : List Int} {lam : Int} (h : XE f c) : evE f o v lam = evE c o v lam := by
  obtain ⟨e1, e2, e3, e4, e5, e6⟩ := h
  unfold evE evY
  rw [e1, e2, e3, e4, e5, e6]
theorem Vm (h : XE f c) (h1 : -1 ≤ f.expect) (h2 : -1 ≤ c.expect) (hx : xp f ((zU (c.ctyp, c.cagg) V : Nat) : Int) = xp c ((zU (c.ctyp, c.cagg) V : Nat) : Int)) : exR d n L V o start f = exR d n L V o start c := by
  have hc := Wk (d := d) h h1 h2
  have he : ∀ v lam, evE f o v lam = evE c o v lam := fun v lam => Kx h
  obtain ⟨e1, e2, e3, e4, e5, e6⟩ := h
  by_cases h3 : yY d c = 0
  · cases hk : (yN L c.ckey).isSome with
    | true => rw [XP h3 hk, XP (by rw [hc]; exact h3) (by rw [e6]; exact hk), e6]
    | false => rw [Vp h3 hk, Vp (by rw [hc]; exact h3) (by rw [e6]; exact hk), e1, e2, e3, e4, e5, hx, he]
  · rw [Wj h3, Wj (by rw [hc]; exact h3), hc]
theorem Yp (h : f.expect = -1) (v : Int) : xp f v = 0 := by unfold xp; rw [if_pos (by simp [h])]
theorem Qb {v : Int} (h : f.expect = v) : xp f v = 0 := by unfold xp; rw [if_pos (by simp [h])]
theorem Jf {v : Int} (h : f.expect ≠ -1) (h1 : f.expect ≠ v) : xp f v = 11 := by unfold xp; rw [if_neg (by simp [h, h1])]
theorem JS (hf : XE f c) (hr : XE r c) (ef : f.expect = -1) (er : r.expect = ((zU (c.ctyp, c.cagg) V : Nat) : Int)) (hc : 0 ≤ c.expect) (ho : 0 ≤ o ∧ o < n) (ht : 0 ≤ zK L) (hL : L.length ≤ 1000) :
    exR d n L V o 0 r = exR d n L V o 0 f ∧ (c.expect = ((zU (c.ctyp, c.cagg) V : Nat) : Int) → exR d n L V o 0 c = exR d n L V o 0 f) ∧
    (c.expect ≠ ((zU (c.ctyp, c.cagg) V : Nat) : Int) → (((exR d n L V o 0 f).2.2 = 0 ∧ (exR d n L V o 0 f).2.1 = true) ∨ (exR d n L V o 0 f).2.2 = 10 ∨ (exR d n L V o 0 f).2.2 = 13 → (exR d n L V o 0 c).2.2 = 11 ∧ (exR d n L V o 0 c).2.1 = false) ∧
      (¬ (((exR d n L V o 0 f).2.2 = 0 ∧ (exR d n L V o 0 f).2.1 = true) ∨ (exR d n L V o 0 f).2.2 = 10 ∨ (exR d n L V o 0 f).2.2 = 13) → exR d n L V o 0 c = exR d n L V o 0 f)) := by
  have hrf : XE r f := by obtain ⟨a1, a2, a3, a4, a5, a6⟩ := hf; obtain ⟨b1, b2, b3, b4, b5, b6⟩ := hr; exact ⟨b1.trans a1.symm, b2.trans a2.symm, b3.trans a3.symm, b4.trans a4.symm, b5.trans a5.symm, b6.trans a6.symm⟩
  have hcf : XE c f := by obtain ⟨a1, a2, a3, a4, a5, a6⟩ := hf; exact ⟨a1.symm, a2.symm, a3.symm, a4.symm, a5.symm, a6.symm⟩
  have ev : (zU (f.ctyp, f.cagg) V) = zU (c.ctyp, c.cagg) V := by rw [hf.1, hf.2.1]
  refine ⟨Vm hrf (by omega) (by omega) (by rw [ev, Qb er, Yp ef]), fun h => Vm hcf (by omega) (by omega) (by rw [ev, Qb h, Yp ef]), fun h => ?_⟩
  have hch := Wk (d := d) hf (by omega) (by omega)
  have hxf := Yp ef ((zU (f.ctyp, f.cagg) V : Nat) : Int)
  by_cases h3 : yY d c = 0
  · have h3f : yY d f = 0 := hch.trans h3
    cases hk : (yN L c.ckey).isSome with
    | true =>
      have hkf : (yN L f.ckey).isSome = true := by rw [hf.2.2.2.2.2]; exact hk
      rw [XP h3f hkf, XP h3 hk, hf.2.2.2.2.2]
      exact ⟨fun h9 => by rcases h9 with h9 | h9 | h9 <;> simp at h9, fun _ => rfl⟩
    | false =>
      have hkf : (yN L f.ckey).isSome = false := by rw [hf.2.2.2.2.2]; exact hk
      have hoff := Jf (f := c) (v := ((zU (c.ctyp, c.cagg) V : Nat) : Int)) (by omega) h
      have hC := Jo (d := d) (n := n) (o := o) (start := 0) h3 hk (by rw [hoff]; decide)
      rw [hoff] at hC
      refine ⟨fun _ => by rw [hC]; exact ⟨rfl, rfl⟩, fun h9 => absurd ?_ h9⟩
      by_cases hm : yP (xT d f.ctyp) (zY d (f.ctyp, f.cagg) V) f.cfield f.cop f.carg = 0
      · rw [KE h3f hkf hxf hm]
        have e0 := zas (n := n) (L := L) (lam := max (zK L) 0) ho (by omega) hL
        have hv : evN o (zu n L) (max (zK L) 0) = 0 ∨ evN o (zu n L) (max (zK L) 0) = 13 := by rw [e0]; split <;> simp
        rcases hv with hv | hv
        · exact .inl ⟨hv, decide_eq_true hv⟩
        · exact .inr (.inr hv)
      · rw [QZ h3f hkf hxf hm]
        have := Jb (t := xT d f.ctyp) (cs := zY d (f.ctyp, f.cagg) V) (f := f.cfield) (op := f.cop) (arg := f.carg)
        exact .inr (.inl (by show yP _ _ _ _ _ = 10; omega))
  · have h3f : ¬ yY d f = 0 := by rw [hch]; exact h3
    rw [Wj h3f, Wj h3, hch]
    have := JM (d := d) (c := c)
    exact ⟨fun h9 => by rcases h9 with h9 | h9 | h9; exact absurd h9.1 h3; exact absurd h9 this.1; exact absurd h9 this.2.1, fun _ => rfl⟩
end
set_option maxHeartbeats 8000000 in
theorem YU {G : Nat → Prop} {W w : World} {Rs : List HP} {d : Dcl} {dd0 : Value} (hdd0 : RdS W G dd0 d.types) {dd1 : Value} (hdd1 : RdS W G dd1 d.projs) (od : d.Ok) {n : Int} (hn : InR n) {vl : Value} {l : List Ev} (hl : RdS W G vl l) {o : Int} (ho : InR o) {c : Cmd} (oc : c.Ok) (hKN : RdS W G (.slice (some ⟨0, 0, none⟩) 6 6) kindsL) (hS0 : Sep G W Rs w) : Ret Tryz.prog 5 [.agg (d.cells dd0 dd1).toArray, .int .i64 (n), vl, .int .i64 (o), .agg (c.cells).toArray] w (fun r w' => r = (.bool true : Value) ∧ Sep G W Rs w') := by
 have hdd0s : _ * 24 ≤ _ := hdd0.small
 have hdd1s : _ * 40 ≤ _ := hdd1.small
 have hls : _ * 96 ≤ _ := hl.small
 have hKNs : _ * 8 ≤ _ := hKN.small
 refine zi (args := [.agg (d.cells dd0 dd1).toArray, Iv n, vl, Iv o, .agg (c.cells).toArray]) Tryz.func5 rfl rfl ?_
 refine za (R0 fun _ => st (zH (v := .agg (d.cells dd0 dd1).toArray) rfl ?_))
 intro w3 b2 dL
 refine st (zH (v := .agg (c.cells).toArray) rfl ?_)
 intro w7 b6 dM
 have db := (hS0.new dL).new dM
 refine st (aS (.bool false) (zd (za (za (zv kr (st (zf (k := 2) rT pT rfl rfl (CellsAt.all (db.b1)) (st (cL Tryz.call6 (zab (d := d) hdd0 hdd1 od db) ?_)))))))))
 rintro _ w11 ⟨b9, rfl, de, aq⟩
 refine st (yH (a := b9) rfl (st (mV (.bool (!b9)) (stc (V := Ix b6 5) rfl rfl (fun df => ?_) ?_))))
 have dg := df
 try simp only [ze] at dg
 exact Zd rfl ⟨rfl, rfl⟩
 refine stc (V := Iv (c.expect)) rfl rfl (fun aR => ?_) ?_
 have dh := aR
 try simp only [ze] at dh
 exact lD (Iv (c.expect)) uT (if_pos aR) (zb (aq.b0) rfl) ⟨rfl, rfl⟩
 refine stc (V := .bool (decide (c.expect < 0))) rfl rfl (fun aT => ?_) ?_
 have di := aT
 try simp only [ze] at di
 exact zF (k := .i64) (a := c.expect) (b := 0) (if_pos aT) rfl ⟨rfl, rfl⟩
 refine st (zo (b := !b9) (b' := decide (c.expect < 0)) rfl (fun hbp => (if_pos hbp)) (zd ?_))
 cases ar : (!b9) || (decide (c.expect < 0))
 have bs := ar
 try simp only [ze] at ar
 have aU := bs
 rw [Bool.or_eq_false_iff] at aU
 have U := de (by simpa using aU.1)
 have dj : 0 ≤ c.expect := by have N := fD aU.2; omega
 refine zg rfl (zl (za (R0 fun _ => st (mV (Iv n) ?_))))
 refine st (cL qR (Kh (x := n) (n := 64) hn yqe aq) ?_)
 rintro _ w22 ⟨j, rfl, hq21, dk⟩
 have dl : InR ((1 + j : Nat) : Int) := bo
 refine st (zV (r := ((1 + j : Nat) : Int)) (k := .i64) (a := 1) (b := ((j : Nat) : Int)) rfl rfl (by rw [show (1 + ((j : Nat) : Int) : Int) = ((1 + j : Nat) : Int) from bo]; exact zJ dl) (st (aS (Iw (1 + j)) (zd (za (yq (by kernel_rfl) (fun _ => (st (mV (Iv o) (st (mV (Iw (1 + j)) ?_)))))))))))
 refine st (cL qR (Kh (x := o) (n := 1 + j) ho yqe dk) ?_)
 rintro _ w27 ⟨m, rfl, hq26, dm⟩
 refine st (aS (Iw m) (zd (za ?_)))
 refine WD4 ((fun TT aV => WF [fun vals wq => Sep G W (aV :: TT) wq, fun vals wq => ∃ (y : Value) (s : List Ev), (vals 4 = (y : Value)) ∧ (s.length ≤ 60) ∧ (∀ i, i < s.length → XZ (s.getD i default) ((1 + j : Nat) : Int)) ∧ Sep G W ((RowE (α := Ev) (shr G W) 41 y s) :: aV :: TT) wq, fun vals wq => ∃ (y : Value) (s : List Ev) (q : Nat) (p : Nat), (vals 4 = (y : Value)) ∧ (vals 5 = (.tuple #[Ix q 0, Ix p 0] : Value)) ∧ (s.length ≤ 60) ∧ (∀ i, i < s.length → XZ (s.getD i default) ((1 + j : Nat) : Int)) ∧ Sep G W ((RowE (α := Ev) (shr G W) 41 y s) :: (SetO q (1 + j) (yR (1 + j) s)) :: (ViewO p d (zt d (yR (1 + j) s)) (zt d (yR (1 + j) s))) :: aV :: TT) wq]) ((Blk b2 (d.cells dd0 dd1).toArray 25) :: Rs) (Blk b6 (c.cells).toArray 28)) (AF [Vl 0 (.agg (d.cells dd0 dd1).toArray), Vl 1 (Iw (1 + j)), Vl 2 (Iw (1 + j)), Vl 3 (vl), fun _ => True, fun _ => True, fun vals => ∀ (q : Nat) (p : Nat), vals 5 = (.tuple #[Ix q 0, Ix p 0] : Value) → vals 6 = (.tuple #[Ix q 0, Ix p 0] : Value), fun vals => ∀ (q : Nat) (p : Nat), vals 5 = (.tuple #[Ix q 0, Ix p 0] : Value) → vals 7 = (Ix q 0 : Value), fun vals => ∀ (q : Nat) (p : Nat), vals 5 = (.tuple #[Ix q 0, Ix p 0] : Value) → vals 8 = (Ix p 0 : Value), fun vals => ∀ (q : Nat) (p : Nat), vals 5 = (.tuple #[Ix q 0, Ix p 0] : Value) → vals 9 = (Ix q 0 : Value), fun vals => ∀ (q : Nat) (p : Nat), vals 5 = (.tuple #[Ix q 0, Ix p 0] : Value) → vals 10 = (Ix p 0 : Value)]) [[], [], [], [], [2, 3], (rg 5), (rg 6), (rg 7), (rg 7), (rg 8), (rg 10)] [4, 5] [(0, 1), (0, 1), (0, 0), (0, 0), (0, 0), (1, 1), (2, 2), (2, 2), (2, 2), (2, 2), (2, 2)] dm ⟨?_, fun _ _ _ _ _ _ _ => obl rfl (mV (Iw (1 + j)) dR), fun _ _ _ _ _ _ _ => obl rfl (mV (Iw (1 + j)) dR), fun _ _ _ _ _ _ _ => obl rfl (mV vl dR), ?_, ?_, ?_, ?_, ?_, ?_, ?_, trivial⟩ ?_ (hlocA := yW ⟨dA, dA, dA, dA, dT, dT, fun vals A C h => fun q p t => (C 6 (.inl rfl)).trans (h q p ((C 5 (.inr dc)).symm.trans t)), fun vals A C h => fun q p t => (C 7 (.inl rfl)).trans (h q p ((C 5 (.inr dc)).symm.trans t)), fun vals A C h => fun q p t => (C 8 (.inl rfl)).trans (h q p ((C 5 (.inr dc)).symm.trans t)), fun vals A C h => fun q p t => (C 9 (.inl rfl)).trans (h q p ((C 5 (.inr dc)).symm.trans t)), fun vals A C h => fun q p t => (C 10 (.inl rfl)).trans (h q p ((C 5 (.inr dc)).symm.trans t)), trivial⟩)
 refine fun Z _ _ dp dq au _ => ?_
 have hkk : Z = 0 ∨ Z = 1 := by have h1 : 0 ≤ Z := dp; have h2 : Z ≤ 1 := dq; omega
 rcases hkk with rfl | rfl
 have bt : Sep _ _ _ _ := au
 exact obl rfl (zf (k := 2) rT pT rfl rfl (CellsAt.all (bt.b1)) dR)
 obtain ⟨y, s, F, B, D, bu⟩ := au
 exact obl rfl (zf (k := 2) rT pT rfl rfl (CellsAt.all (bu.b2)) dR)
 refine ob1 0 fun vals _ (dr : Sep _ _ _ _) aX => (obl rfl ((zB (f := 9) (vals := [Iw (1 + j), vl]) (cap := []) rfl (yE ⟨(aX 2 dc), (aX 3 dc), trivial⟩) Tryz.call9 (KQ (n := ((1 + j : Nat) : Int)) (l := l) (vl := vl) om hl dr) ?_)))
 rintro y w67 ⟨_, s, rfl, B, D, aY⟩
 have ds := aY.r0
 have hr69s : _ * 96 ≤ _ := ds.2
 exact fun A C M => ⟨(Exists.intro y (Exists.intro s (And.intro C (And.intro B (And.intro D aY))))), trivial⟩
 refine ob1 1 fun vals _ dt aZ => ?_
 obtain ⟨y, s, F, B, D, du⟩ := dt
 refine obl rfl ?_
 obtain ⟨G80, dv, aa, dw, dx⟩ := du.lend
 have av := RowE.rdB dv aa
 have hrd86s : _ * 96 ≤ _ := av.small
 refine (zB (f := 10) (vals := [.agg (d.cells dd0 dd1).toArray, Iw (1 + j), y]) (cap := []) rfl (yE ⟨(aZ 0 dc), (aZ 1 dc), F, trivial⟩) nR (UZ (d := d) (n := 1 + j) (l := s) (vl := y) (RdS.base hdd0 aa) (RdS.base hdd1 aa) od yqe av (RdS.base hKN aa) dw (U.1) (om)) ?_)
 rintro _ w89 ⟨q, p, rfl, dy⟩
 have dz := dx _ _ dy
 exact fun A C M => ⟨(Exists.intro y (Exists.intro s (Exists.intro q (Exists.intro p (And.intro ((M 4 dc).trans F) (And.intro C (And.intro B (And.intro D dz)))))))), trivial⟩
 refine ob1 2 fun _ _ bv _ => ?_
 obtain ⟨y, s, q, p, F, u, B, D, hS164⟩ := bv
 refine obl rfl (ya (v := .tuple #[Ix q 0, Ix p 0]) u (fun A C M => ⟨rfl, ?_⟩))
 intro Q R t
 rw [M 5 (by decide)] at t; cases u.symm.trans t
 exact C
 refine ob1 2 fun vals _ bw bx => ?_
 obtain ⟨y, s, q, p, F, u, B, D, hS171⟩ := bw
 have dB : vals 6 = (.tuple #[Ix q 0, Ix p 0] : Value) := bx 6 dc q p u
 refine obl rfl (zj (vs := [Ix q 0, Ix p 0]) (i := 0) (v := Ix q 0) dB rfl (fun A C M => ⟨rfl, ?_⟩))
 intro Q R t
 rw [M 5 (by decide)] at t; cases u.symm.trans t
 exact C
 refine ob1 2 fun vals _ bz bA => ?_
 obtain ⟨y, s, q, p, F, u, B, D, hS179⟩ := bz
 have dC : vals 6 = (.tuple #[Ix q 0, Ix p 0] : Value) := bA 6 dc q p u
 refine obl rfl (zj (vs := [Ix q 0, Ix p 0]) (i := 1) (v := Ix p 0) dC rfl (fun A C M => ⟨rfl, ?_⟩))
 intro Q R t
 rw [M 5 (by decide)] at t; cases u.symm.trans t
 exact C
 refine ob1 2 fun vals _ bB bC => ?_
 obtain ⟨y, s, q, p, F, u, B, D, hS187⟩ := bB
 have dD : vals 7 = (Ix q 0 : Value) := bC 7 dc q p u
 refine obl rfl (zR (v := Ix q 0) dD (fun A C M => ⟨rfl, ?_⟩))
 intro Q R t
 rw [M 5 (by decide)] at t; cases u.symm.trans t
 exact C
 refine ob1 2 fun vals _ bD bE => ?_
 obtain ⟨y, s, q, p, F, u, B, D, hS195⟩ := bD
 have dE : vals 8 = (Ix p 0 : Value) := bE 8 dc q p u
 refine obl rfl (zR (v := Ix p 0) dE (fun A C M => ⟨rfl, ?_⟩))
 intro Q R t
 rw [M 5 (by decide)] at t; cases u.symm.trans t
 exact C
 intro vals dG bF aw
 obtain ⟨y, s, q, p, F, u, B, D, ax⟩ := bF
 have dH : vals 9 = (Ix q 0 : Value) := aw 9 dc q p u
 have dI : vals 10 = (Ix p 0 : Value) := aw 10 dc q p u
 refine zT (kv := [(0, .agg (d.cells dd0 dd1).toArray), (1, Iw (1 + j)), (2, vl), (3, Iw m), (4, .agg (c.cells).toArray), (5, Ix b2 0), (9, Ix b6 0), (10, .bool false), (26, .agg (d.cells dd0 dd1).toArray), (27, .bool b9), (28, .bool (!b9)), (29, .bool (!b9)), (33, .bool false), (35, Iv n), (36, Iw j), (37, Iw (1 + j)), (38, Iv o), (39, Iw (1 + j)), (40, Iw m), (11, Ix q 0), (12, Ix p 0)]) ⟨rfl, rfl, rfl, rfl, rfl, rfl, rfl, rfl, rfl, rfl, rfl, rfl, rfl, rfl, rfl, rfl, rfl, rfl, rfl, (by exact dH), (by exact dI), trivial⟩ (fun ρw197 => (zd (za (za ?_))))
 obtain ⟨g, ba⟩ : ∃ z, (yR (1 + j) s) = z := ⟨_, rfl⟩
 have X : Good (1 + j) g := by rw [← ba]; exact laidL_good
 have hLl9 : g.length ≤ 60 := by rw [← ba]; exact Nat.le_trans ZE B
 rw [ba] at ax
 have ab : Sep G W ((RowE (α := Ev) (shr G W) 41 y s) :: (SetO q (1 + j) g) :: (ViewO p d (zt d g) (zt d g)) :: (Blk b6 (c.cells).toArray 28) :: (Blk b2 (d.cells dd0 dd1).toArray 25) :: Rs) dG := ax
 have O : ∀ e ∈ g, e.Ok := (ab).setOks (i := 1) rfl X.ids
 have dJ := Ko O
 have hrl9 := YW d g
 refine zv kr (st (mV (Ix q 0) (st (xZ (b := q) (o := 0) oR rfl (st (mV (.bool false) (sty rfl rfl (mV (Ix p 0) (sty rfl rfl (xZ (b := p) (o := 0) pR rfl (st (zZ (v := .bool false) rfl rfl (zd (zg rfl (zl (za (R0 fun _ => st (zf (k := 7) lT kT rfl rfl (CellsAt.all (ab.b3)) (st (zr lR ?_))))))))))))))))))))
 intro w206 b205 bG
 have ay := ab.new bG
 refine stn (zp (v := .agg (c.cells).toArray) (c' := (c.cells).toArray) kT rfl rfl (ay.b0) (zW ⟨rfl, rfl, rfl, rfl, rfl, rfl, rfl, trivial⟩) yqc rfl ?_)
 intro w208 bH
 have az := ay.pt0 bH
 refine zd (za (R0 fun _ => st (Zd rfl (stn (yn (v := Iv (-1)) (c := [Iv (c.ctyp), Iv (c.cagg), Iv (c.cfield), Iv (c.cop), Iv (c.carg), Iv (c.expect), Iv (c.ckey)]) (c' := [Iv (c.ctyp), Iv (c.cagg), Iv (c.cfield), Iv (c.cop), Iv (c.carg), Iv (-1), Iv (c.ckey)]) tT rfl rfl (az.b0) rfl rfl rfl ?_)))))
 intro w211 bI
 have S : Cmd.Ok (⟨c.ctyp, c.cagg, c.cfield, c.cop, c.carg, -1, c.ckey⟩ : Cmd) := ⟨(show InR (c.ctyp) from oc.ctyp), (show InR (c.cagg) from oc.cagg), (show InR (c.cfield) from oc.cfield), (show InR (c.cop) from oc.cop), (show InR (c.carg) from oc.carg), (show InR (-1) from dc), (show InR (c.ckey) from oc.ckey)⟩
 have aA := az.pt0 bI
 refine zd (za (R0 fun _ => st (zf (k := 7) lT kT rfl rfl (CellsAt.all (aA.b4)) (st (zr lR ?_)))))
 intro w217 b216 bJ
 have aB := aA.new bJ
 refine stn (zp (v := .agg (c.cells).toArray) (c' := (c.cells).toArray) kT rfl rfl (aB.b0) (zW ⟨rfl, rfl, rfl, rfl, rfl, rfl, rfl, trivial⟩) yqc rfl ?_)
 intro w219 bK
 have ac := aB.pt0 bK
 refine zd (za (R0 fun _ => st (mV (Ix p 0) (st (Xu rfl (st (lD (Iv (c.ctyp)) uT rfl (zb (ac.b5) rfl) (st (Wz rfl (st (lD (Iv (c.cagg)) uT rfl (zb (ac.b5) rfl) (st (cL Tryz.call12 (UM (ty := c.ctyp) (no := c.cagg) oc.ctyp oc.cagg (ac.mv4)) ?_)))))))))))))
 rintro _ w224 ⟨P, rfl, aC⟩
 let br := (yT d (c.ctyp, c.cagg) (zt d g)).cells P
 have aD := aC.r1
 have hr226s : _ * 32 ≤ _ := aD.2
 refine st (mV (.tuple #[.agg br.toArray, .bool ((zq d (zt d g) (c.ctyp, c.cagg)).isSome)]) (st (zj (vs := [.agg br.toArray, .bool ((zq d (zt d g) (c.ctyp, c.cagg)).isSome)]) (i := 0) (v := .agg br.toArray) rfl rfl (st (zj (vs := [.agg br.toArray, .bool ((zq d (zt d g) (c.ctyp, c.cagg)).isSome)]) (i := 1) (v := .bool ((zq d (zt d g) (c.ctyp, c.cagg)).isSome)) rfl rfl (st (zr Tryz.zeroValue47 ?_)))))))
 intro w229 b228 bL
 have aE := aC.new bL
 refine stn (zp (v := .agg br.toArray) (c' := br.toArray) Tryz.sizeOf47 rfl rfl (aE.b0) (zW ⟨rfl, aD.1.one, trivial⟩) yqc rfl ?_)
 intro w231 bM
 have ad := aE.pt0 bM
 refine st (aS (.bool ((zq d (zt d g) (c.ctyp, c.cagg)).isSome)) (zd (za (R0 fun _ => st (WK rfl (st (lD (Iv ((yT d (c.ctyp, c.cagg) (zt d g)).ver)) uT rfl (zb (ad.b0) rfl) (st (Zd rfl (stn (yn (v := Iv ((yT d (c.ctyp, c.cagg) (zt d g)).ver)) (c := [Iv (c.ctyp), Iv (c.cagg), Iv (c.cfield), Iv (c.cop), Iv (c.carg), Iv (c.expect), Iv (c.ckey)]) (c' := [Iv (c.ctyp), Iv (c.cagg), Iv (c.cfield), Iv (c.cop), Iv (c.carg), Iv ((yT d (c.ctyp, c.cagg) (zt d g)).ver), Iv (c.ckey)]) tT rfl rfl (ad.b3) rfl rfl rfl ?_)))))))))))
 intro w234 bN
 have aF : Cmd.Ok (⟨c.ctyp, c.cagg, c.cfield, c.cop, c.carg, (yT d (c.ctyp, c.cagg) (zt d g)).ver, c.ckey⟩ : Cmd) := ⟨(show InR (c.ctyp) from oc.ctyp), (show InR (c.cagg) from oc.cagg), (show InR (c.cfield) from oc.cfield), (show InR (c.cop) from oc.cop), (show InR (c.carg) from oc.carg), (show InR ((yT d (c.ctyp, c.cagg) (zt d g)).ver) from (⟨(show InR ((zU (c.ctyp, c.cagg) (zt d g) : Nat) : Int) from by have N := Yo (c.ctyp, c.cagg) (zt d g); rw [YW] at N; omega)⟩ : Sta.Ok (yT d (c.ctyp, c.cagg) (zt d g))).ver), (show InR (c.ckey) from oc.ckey)⟩
 have ae := ad.pt3 bN
 refine zd (za ?_)
 have dK := JS (d := d) (n := (1 + j)) (L := g) (V := zt d g) (o := ((m : Nat) : Int)) (c := c) (f := (⟨c.ctyp, c.cagg, c.cfield, c.cop, c.carg, -1, c.ckey⟩ : Cmd)) (r := (⟨c.ctyp, c.cagg, c.cfield, c.cop, c.carg, (yT d (c.ctyp, c.cagg) (zt d g)).ver, c.ckey⟩ : Cmd)) ⟨rfl, rfl, rfl, rfl, rfl, rfl⟩ ⟨rfl, rfl, rfl, rfl, rfl, rfl⟩ rfl rfl dj om dJ.1 om
 obtain ⟨bb, dN, dd⟩ := dK
 refine R0 fun _ => st (zf (k := 2) rT pT rfl rfl (CellsAt.all (ae.b8)) (st (mV (Ix q 0) (st (mV (Ix p 0) (st (mV (Iw m) (st (zf (k := 7) lT kT rfl rfl (CellsAt.all (ae.b4)) ?_)))))))))
 obtain ⟨G239, aG, af, bO, bP⟩ := (ae.mv6).lend
 obtain ⟨vv245, m246, R247, hb248, bQ, hr250⟩ := SetO.sh aG
 have hsm251 : (zu (1 + j) g).length * 8 ≤ 140737488355328 := bQ.small
 refine st (cL oT (Zb (d := d) (o := ((m : Nat) : Int)) (start := 0) (c := (⟨c.ctyp, c.cagg, c.cfield, c.cop, c.carg, -1, c.ckey⟩ : Cmd)) (RdS.base hdd0 af) (RdS.base hdd1 af) od aG om dc S (RdS.base hKN af) (bO.mv1) (U.1) ((Inv.run U.1 _)) (om) (X.ids) (X.srt) (om) (om)) ?_)
 rintro _ w254 ⟨H, rfl, bR⟩
 let ap := ((exR d (1 + j) g (zt d g) ((m : Nat) : Int) 0 (⟨c.ctyp, c.cagg, c.cfield, c.cop, c.carg, -1, c.ckey⟩ : Cmd)).1.cells H)
 have bS := bP _ _ bR
 refine st (mV (.tuple #[.agg ap.toArray, .bool ((exR d (1 + j) g (zt d g) ((m : Nat) : Int) 0 (⟨c.ctyp, c.cagg, c.cfield, c.cop, c.carg, -1, c.ckey⟩ : Cmd)).2.1), Iv ((exR d (1 + j) g (zt d g) ((m : Nat) : Int) 0 (⟨c.ctyp, c.cagg, c.cfield, c.cop, c.carg, -1, c.ckey⟩ : Cmd)).2.2)]) (st (zj (vs := [.agg ap.toArray, .bool ((exR d (1 + j) g (zt d g) ((m : Nat) : Int) 0 (⟨c.ctyp, c.cagg, c.cfield, c.cop, c.carg, -1, c.ckey⟩ : Cmd)).2.1), Iv ((exR d (1 + j) g (zt d g) ((m : Nat) : Int) 0 (⟨c.ctyp, c.cagg, c.cfield, c.cop, c.carg, -1, c.ckey⟩ : Cmd)).2.2)]) (i := 0) (v := .agg ap.toArray) rfl rfl ?_)))
 refine st (zj (vs := [.agg ap.toArray, .bool ((exR d (1 + j) g (zt d g) ((m : Nat) : Int) 0 (⟨c.ctyp, c.cagg, c.cfield, c.cop, c.carg, -1, c.ckey⟩ : Cmd)).2.1), Iv ((exR d (1 + j) g (zt d g) ((m : Nat) : Int) 0 (⟨c.ctyp, c.cagg, c.cfield, c.cop, c.carg, -1, c.ckey⟩ : Cmd)).2.2)]) (i := 1) (v := .bool ((exR d (1 + j) g (zt d g) ((m : Nat) : Int) 0 (⟨c.ctyp, c.cagg, c.cfield, c.cop, c.carg, -1, c.ckey⟩ : Cmd)).2.1)) rfl rfl ?_)
 refine st (zj (vs := [.agg ap.toArray, .bool ((exR d (1 + j) g (zt d g) ((m : Nat) : Int) 0 (⟨c.ctyp, c.cagg, c.cfield, c.cop, c.carg, -1, c.ckey⟩ : Cmd)).2.1), Iv ((exR d (1 + j) g (zt d g) ((m : Nat) : Int) 0 (⟨c.ctyp, c.cagg, c.cfield, c.cop, c.carg, -1, c.ckey⟩ : Cmd)).2.2)]) (i := 2) (v := Iv ((exR d (1 + j) g (zt d g) ((m : Nat) : Int) 0 (⟨c.ctyp, c.cagg, c.cfield, c.cop, c.carg, -1, c.ckey⟩ : Cmd)).2.2)) rfl rfl (st (zr nT ?_)))
 intro w259 b258 bT
 have ag := bS.new bT
 refine stn (zp (v := .agg ap.toArray) (c' := ap.toArray) mT rfl rfl (ag.b0) (zW ⟨rfl, rfl, rfl, (ag.depSl (i := 3) rfl).one, rfl, rfl, rfl, rfl, rfl, rfl, trivial⟩) yqc rfl ?_)
 intro w261 bU
 have ah := ag.pt0 bU
 refine st (aS (.bool ((exR d (1 + j) g (zt d g) ((m : Nat) : Int) 0 (⟨c.ctyp, c.cagg, c.cfield, c.cop, c.carg, -1, c.ckey⟩ : Cmd)).2.1)) (st (aS (Iv ((exR d (1 + j) g (zt d g) ((m : Nat) : Int) 0 (⟨c.ctyp, c.cagg, c.cfield, c.cop, c.carg, -1, c.ckey⟩ : Cmd)).2.2)) (zd (za (R0 fun _ => st (zf (k := 2) rT pT rfl rfl (CellsAt.all (ah.b10)) (st (mV (Ix q 0) (st (mV (Ix p 0) (st (mV (Iw m) (st (zf (k := 7) lT kT rfl rfl (CellsAt.all (ah.b6)) ?_)))))))))))))))
 obtain ⟨G265, aH, ai, bV, bW⟩ := (ah.mv1).lend
 obtain ⟨vv271, m272, R273, hb274, bX, hr276⟩ := SetO.sh aH
 have hsm277 : (zu (1 + j) g).length * 8 ≤ 140737488355328 := bX.small
 refine st (cL oT (Zb (d := d) (o := ((m : Nat) : Int)) (start := 0) (c := (⟨c.ctyp, c.cagg, c.cfield, c.cop, c.carg, (yT d (c.ctyp, c.cagg) (zt d g)).ver, c.ckey⟩ : Cmd)) (RdS.base hdd0 ai) (RdS.base hdd1 ai) od aH om dc aF (RdS.base hKN ai) (bV.mv1) (U.1) ((Inv.run U.1 _)) (om) (X.ids) (X.srt) (om) (om)) ?_)
 rintro _ w280 ⟨I, rfl, bY⟩
 let ao := ((exR d (1 + j) g (zt d g) ((m : Nat) : Int) 0 (⟨c.ctyp, c.cagg, c.cfield, c.cop, c.carg, (yT d (c.ctyp, c.cagg) (zt d g)).ver, c.ckey⟩ : Cmd)).1.cells I)
 have bZ := bW _ _ bY
 refine st (mV (.tuple #[.agg ao.toArray, .bool ((exR d (1 + j) g (zt d g) ((m : Nat) : Int) 0 (⟨c.ctyp, c.cagg, c.cfield, c.cop, c.carg, (yT d (c.ctyp, c.cagg) (zt d g)).ver, c.ckey⟩ : Cmd)).2.1), Iv ((exR d (1 + j) g (zt d g) ((m : Nat) : Int) 0 (⟨c.ctyp, c.cagg, c.cfield, c.cop, c.carg, (yT d (c.ctyp, c.cagg) (zt d g)).ver, c.ckey⟩ : Cmd)).2.2)]) ?_)
 refine st (zj (vs := [.agg ao.toArray, .bool ((exR d (1 + j) g (zt d g) ((m : Nat) : Int) 0 (⟨c.ctyp, c.cagg, c.cfield, c.cop, c.carg, (yT d (c.ctyp, c.cagg) (zt d g)).ver, c.ckey⟩ : Cmd)).2.1), Iv ((exR d (1 + j) g (zt d g) ((m : Nat) : Int) 0 (⟨c.ctyp, c.cagg, c.cfield, c.cop, c.carg, (yT d (c.ctyp, c.cagg) (zt d g)).ver, c.ckey⟩ : Cmd)).2.2)]) (i := 0) (v := .agg ao.toArray) rfl rfl ?_)
 refine st (zj (vs := [.agg ao.toArray, .bool ((exR d (1 + j) g (zt d g) ((m : Nat) : Int) 0 (⟨c.ctyp, c.cagg, c.cfield, c.cop, c.carg, (yT d (c.ctyp, c.cagg) (zt d g)).ver, c.ckey⟩ : Cmd)).2.1), Iv ((exR d (1 + j) g (zt d g) ((m : Nat) : Int) 0 (⟨c.ctyp, c.cagg, c.cfield, c.cop, c.carg, (yT d (c.ctyp, c.cagg) (zt d g)).ver, c.ckey⟩ : Cmd)).2.2)]) (i := 1) (v := .bool ((exR d (1 + j) g (zt d g) ((m : Nat) : Int) 0 (⟨c.ctyp, c.cagg, c.cfield, c.cop, c.carg, (yT d (c.ctyp, c.cagg) (zt d g)).ver, c.ckey⟩ : Cmd)).2.1)) rfl rfl ?_)
 refine st (zj (vs := [.agg ao.toArray, .bool ((exR d (1 + j) g (zt d g) ((m : Nat) : Int) 0 (⟨c.ctyp, c.cagg, c.cfield, c.cop, c.carg, (yT d (c.ctyp, c.cagg) (zt d g)).ver, c.ckey⟩ : Cmd)).2.1), Iv ((exR d (1 + j) g (zt d g) ((m : Nat) : Int) 0 (⟨c.ctyp, c.cagg, c.cfield, c.cop, c.carg, (yT d (c.ctyp, c.cagg) (zt d g)).ver, c.ckey⟩ : Cmd)).2.2)]) (i := 2) (v := Iv ((exR d (1 + j) g (zt d g) ((m : Nat) : Int) 0 (⟨c.ctyp, c.cagg, c.cfield, c.cop, c.carg, (yT d (c.ctyp, c.cagg) (zt d g)).ver, c.ckey⟩ : Cmd)).2.2)) rfl rfl (st (zr nT ?_)))
 intro w285 b284 ca
 have aj := bZ.new ca
 refine stn (zp (v := .agg ao.toArray) (c' := ao.toArray) mT rfl rfl (aj.b0) (zW ⟨rfl, rfl, rfl, (aj.depSl (i := 3) rfl).one, rfl, rfl, rfl, rfl, rfl, rfl, trivial⟩) yqc rfl ?_)
 intro w287 cb
 have ak := aj.pt0 cb
 refine st (aS (.bool ((exR d (1 + j) g (zt d g) ((m : Nat) : Int) 0 (⟨c.ctyp, c.cagg, c.cfield, c.cop, c.carg, (yT d (c.ctyp, c.cagg) (zt d g)).ver, c.ckey⟩ : Cmd)).2.1)) (st (aS (Iv ((exR d (1 + j) g (zt d g) ((m : Nat) : Int) 0 (⟨c.ctyp, c.cagg, c.cfield, c.cop, c.carg, (yT d (c.ctyp, c.cagg) (zt d g)).ver, c.ckey⟩ : Cmd)).2.2)) (zd (za (za (zv kr (st (mV (.bool ((exR d (1 + j) g (zt d g) ((m : Nat) : Int) 0 (⟨c.ctyp, c.cagg, c.cfield, c.cop, c.carg, -1, c.ckey⟩ : Cmd)).2.1)) (st (mV (.bool ((exR d (1 + j) g (zt d g) ((m : Nat) : Int) 0 (⟨c.ctyp, c.cagg, c.cfield, c.cop, c.carg, (yT d (c.ctyp, c.cagg) (zt d g)).ver, c.ckey⟩ : Cmd)).2.1)) (st (zau (a := (exR d (1 + j) g (zt d g) ((m : Nat) : Int) 0 (⟨c.ctyp, c.cagg, c.cfield, c.cop, c.carg, -1, c.ckey⟩ : Cmd)).2.1) (b := (exR d (1 + j) g (zt d g) ((m : Nat) : Int) 0 (⟨c.ctyp, c.cagg, c.cfield, c.cop, c.carg, (yT d (c.ctyp, c.cagg) (zt d g)).ver, c.ckey⟩ : Cmd)).2.1) mR rfl rfl ?_)))))))))))))
 have bc : (!(((exR d (1 + j) g (zt d g) ((m : Nat) : Int) 0 (⟨c.ctyp, c.cagg, c.cfield, c.cop, c.carg, -1, c.ckey⟩ : Cmd)).2.1) == ((exR d (1 + j) g (zt d g) ((m : Nat) : Int) 0 (⟨c.ctyp, c.cagg, c.cfield, c.cop, c.carg, (yT d (c.ctyp, c.cagg) (zt d g)).ver, c.ckey⟩ : Cmd)).2.1))) = false := (by rw [bb]; simp)
 rw [bc]
 refine st (mV (.bool false) (sty rfl rfl (mV (Iv ((exR d (1 + j) g (zt d g) ((m : Nat) : Int) 0 (⟨c.ctyp, c.cagg, c.cfield, c.cop, c.carg, -1, c.ckey⟩ : Cmd)).2.2)) (sty rfl rfl (mV (Iv ((exR d (1 + j) g (zt d g) ((m : Nat) : Int) 0 (⟨c.ctyp, c.cagg, c.cfield, c.cop, c.carg, (yT d (c.ctyp, c.cagg) (zt d g)).ver, c.ckey⟩ : Cmd)).2.2)) (sty rfl rfl (yr (k := .i64) (a := (exR d (1 + j) g (zt d g) ((m : Nat) : Int) 0 (⟨c.ctyp, c.cagg, c.cfield, c.cop, c.carg, -1, c.ckey⟩ : Cmd)).2.2) (b := (exR d (1 + j) g (zt d g) ((m : Nat) : Int) 0 (⟨c.ctyp, c.cagg, c.cfield, c.cop, c.carg, (yT d (c.ctyp, c.cagg) (zt d g)).ver, c.ckey⟩ : Cmd)).2.2) rfl rfl ?_)))))))
 have bd : (!decide (((exR d (1 + j) g (zt d g) ((m : Nat) : Int) 0 (⟨c.ctyp, c.cagg, c.cfield, c.cop, c.carg, -1, c.ckey⟩ : Cmd)).2.2) = ((exR d (1 + j) g (zt d g) ((m : Nat) : Int) 0 (⟨c.ctyp, c.cagg, c.cfield, c.cop, c.carg, (yT d (c.ctyp, c.cagg) (zt d g)).ver, c.ckey⟩ : Cmd)).2.2))) = false := (by rw [bb]; simp)
 rw [bd]
 refine st (zZ (v := .bool false) rfl rfl (st (mV (.bool false) (sty rfl rfl (zf (k := 10) qT mT rfl rfl (CellsAt.all (ak.b4)) (sty rfl rfl (zf (k := 10) qT mT rfl rfl (CellsAt.all (ak.b0)) ?_)))))))
 obtain ⟨G293, cc, hB296, cd, ce⟩ := (ak.mv5).lend
 have aI := DepO.rd cc
 have hsm300 : ((exR d (1 + j) g (zt d g) ((m : Nat) : Int) 0 (⟨c.ctyp, c.cagg, c.cfield, c.cop, c.carg, -1, c.ckey⟩ : Cmd)).1.deps).length * 8 ≤ 140737488355328 := aI.small
 obtain ⟨G302, cf, cg, ch, ci⟩ := (cd.mv3).lend
 have aJ := DepO.rd cf
 have hsm309 : ((exR d (1 + j) g (zt d g) ((m : Nat) : Int) 0 (⟨c.ctyp, c.cagg, c.cfield, c.cop, c.carg, (yT d (c.ctyp, c.cagg) (zt d g)).ver, c.ckey⟩ : Cmd)).1.deps).length * 8 ≤ 140737488355328 := aJ.small
 refine sty rfl rfl (cL vT (xO (a := (exR d (1 + j) g (zt d g) ((m : Nat) : Int) 0 (⟨c.ctyp, c.cagg, c.cfield, c.cop, c.carg, -1, c.ckey⟩ : Cmd)).1) (b := (exR d (1 + j) g (zt d g) ((m : Nat) : Int) 0 (⟨c.ctyp, c.cagg, c.cfield, c.cop, c.carg, (yT d (c.ctyp, c.cagg) (zt d g)).ver, c.ckey⟩ : Cmd)).1) (RdS.base aI cg) (ZT S om dc O om) aJ (ZT aF om dc O om) ch) ?_)
 rintro _ w310 ⟨rfl, cj⟩
 have ck := ci _ _ cj
 have al := ce _ _ ck
 have be : (decide (((exR d (1 + j) g (zt d g) ((m : Nat) : Int) 0 (⟨c.ctyp, c.cagg, c.cfield, c.cop, c.carg, -1, c.ckey⟩ : Cmd)).1) = ((exR d (1 + j) g (zt d g) ((m : Nat) : Int) 0 (⟨c.ctyp, c.cagg, c.cfield, c.cop, c.carg, (yT d (c.ctyp, c.cagg) (zt d g)).ver, c.ckey⟩ : Cmd)).1))) = true := (by rw [bb]; exact decide_eq_true rfl)
 rw [be]
 refine sty rfl rfl (yH (a := true) rfl (st (zZ (v := .bool false) rfl rfl (zd (zg rfl (zl (za (R0 fun _ => st (zf (k := 2) rT pT rfl rfl (CellsAt.all (al.b12)) (st (mV (Ix q 0) (st (mV (Ix p 0) (st (mV (Iw m) (st (zf (k := 7) lT kT rfl rfl (CellsAt.all (al.b11)) ?_)))))))))))))))))
 obtain ⟨G316, aK, am, cl, cm⟩ := (al.mv3).lend
 obtain ⟨vv322, m323, R324, hb325, cn, hr327⟩ := SetO.sh aK
 have hsm328 : (zu (1 + j) g).length * 8 ≤ 140737488355328 := cn.small
 refine st (cL oT (Zb (d := d) (o := ((m : Nat) : Int)) (start := 0) (c := c) (RdS.base hdd0 am) (RdS.base hdd1 am) od aK om dc oc (RdS.base hKN am) (cl.mv3) (U.1) ((Inv.run U.1 _)) (om) (X.ids) (X.srt) (om) (om)) ?_)
 rintro _ w331 ⟨J, rfl, co⟩
 let aW := ((exR d (1 + j) g (zt d g) ((m : Nat) : Int) 0 c).1.cells J)
 have cp := cm _ _ co
 refine st (mV (.tuple #[.agg aW.toArray, .bool ((exR d (1 + j) g (zt d g) ((m : Nat) : Int) 0 c).2.1), Iv ((exR d (1 + j) g (zt d g) ((m : Nat) : Int) 0 c).2.2)]) (st (zj (vs := [.agg aW.toArray, .bool ((exR d (1 + j) g (zt d g) ((m : Nat) : Int) 0 c).2.1), Iv ((exR d (1 + j) g (zt d g) ((m : Nat) : Int) 0 c).2.2)]) (i := 0) (v := .agg aW.toArray) rfl rfl (st (zj (vs := [.agg aW.toArray, .bool ((exR d (1 + j) g (zt d g) ((m : Nat) : Int) 0 c).2.1), Iv ((exR d (1 + j) g (zt d g) ((m : Nat) : Int) 0 c).2.2)]) (i := 1) (v := .bool ((exR d (1 + j) g (zt d g) ((m : Nat) : Int) 0 c).2.1)) rfl rfl ?_)))))
 refine st (zj (vs := [.agg aW.toArray, .bool ((exR d (1 + j) g (zt d g) ((m : Nat) : Int) 0 c).2.1), Iv ((exR d (1 + j) g (zt d g) ((m : Nat) : Int) 0 c).2.2)]) (i := 2) (v := Iv ((exR d (1 + j) g (zt d g) ((m : Nat) : Int) 0 c).2.2)) rfl rfl (st (zr nT ?_)))
 intro w336 b335 cq
 have an := cp.new cq
 refine stn (zp (v := .agg aW.toArray) (c' := aW.toArray) mT rfl rfl (an.b0) (zW ⟨rfl, rfl, rfl, (an.depSl (i := 3) rfl).one, rfl, rfl, rfl, rfl, rfl, rfl, trivial⟩) yqc rfl ?_)
 intro w338 cr
 have E := an.pt0 cr
 refine st (aS (.bool ((exR d (1 + j) g (zt d g) ((m : Nat) : Int) 0 c).2.1)) (st (aS (Iv ((exR d (1 + j) g (zt d g) ((m : Nat) : Int) 0 c).2.2)) (zd (za (za (R0 fun _ => st (Zd rfl (st (lD (Iv (c.expect)) uT rfl (zb (E.b13) rfl) (st (WK rfl (st (lD (Iv ((yT d (c.ctyp, c.cagg) (zt d g)).ver)) uT rfl (zb (E.b8) rfl) (st (zN (k := .i64) (a := c.expect) (b := (yT d (c.ctyp, c.cagg) (zt d g)).ver) rfl rfl (zd ?_)))))))))))))))))
 cases K : decide (c.expect = ((yT d (c.ctyp, c.cagg) (zt d g)).ver))
 have hc341r := K
 have K := fD K
 have bf := K
 refine zg rfl (zl (za (za (zv kr (st (mV (Iv ((exR d (1 + j) g (zt d g) ((m : Nat) : Int) 0 (⟨c.ctyp, c.cagg, c.cfield, c.cop, c.carg, -1, c.ckey⟩ : Cmd)).2.2)) (st (zN (k := .i64) (a := (exR d (1 + j) g (zt d g) ((m : Nat) : Int) 0 (⟨c.ctyp, c.cagg, c.cfield, c.cop, c.carg, -1, c.ckey⟩ : Cmd)).2.2) (b := 0) rfl rfl (st (mV (.bool (decide (((exR d (1 + j) g (zt d g) ((m : Nat) : Int) 0 (⟨c.ctyp, c.cagg, c.cfield, c.cop, c.carg, -1, c.ckey⟩ : Cmd)).2.2) = 0))) (stc (V := .bool ((exR d (1 + j) g (zt d g) ((m : Nat) : Int) 0 (⟨c.ctyp, c.cagg, c.cfield, c.cop, c.carg, -1, c.ckey⟩ : Cmd)).2.1)) rfl rfl (fun cs => ?_) ?_)))))))))))
 have hl343 := tD cs
 exact mV (.bool ((exR d (1 + j) g (zt d g) ((m : Nat) : Int) 0 (⟨c.ctyp, c.cagg, c.cfield, c.cop, c.carg, -1, c.ckey⟩ : Cmd)).2.1)) ⟨rfl, rfl⟩
 refine st (zy (b := decide (((exR d (1 + j) g (zt d g) ((m : Nat) : Int) 0 (⟨c.ctyp, c.cagg, c.cfield, c.cop, c.carg, -1, c.ckey⟩ : Cmd)).2.2) = 0)) (b' := (exR d (1 + j) g (zt d g) ((m : Nat) : Int) 0 (⟨c.ctyp, c.cagg, c.cfield, c.cop, c.carg, -1, c.ckey⟩ : Cmd)).2.1) rfl (fun hbp => (if_pos hbp)) (st (mV (.bool ((decide (((exR d (1 + j) g (zt d g) ((m : Nat) : Int) 0 (⟨c.ctyp, c.cagg, c.cfield, c.cop, c.carg, -1, c.ckey⟩ : Cmd)).2.2) = 0)) && ((exR d (1 + j) g (zt d g) ((m : Nat) : Int) 0 (⟨c.ctyp, c.cagg, c.cfield, c.cop, c.carg, -1, c.ckey⟩ : Cmd)).2.1))) (stc (V := Iv ((exR d (1 + j) g (zt d g) ((m : Nat) : Int) 0 (⟨c.ctyp, c.cagg, c.cfield, c.cop, c.carg, -1, c.ckey⟩ : Cmd)).2.2)) rfl rfl (fun ct => ?_) ?_))))
 have cu := ct
 try simp only [ze] at cu
 exact mV (Iv ((exR d (1 + j) g (zt d g) ((m : Nat) : Int) 0 (⟨c.ctyp, c.cagg, c.cfield, c.cop, c.carg, -1, c.ckey⟩ : Cmd)).2.2)) ⟨rfl, rfl⟩
 refine stc (V := .bool (decide (((exR d (1 + j) g (zt d g) ((m : Nat) : Int) 0 (⟨c.ctyp, c.cagg, c.cfield, c.cop, c.carg, -1, c.ckey⟩ : Cmd)).2.2) = 10))) rfl rfl (fun aL => ?_) ?_
 have cv := aL
 try simp only [ze] at cv
 exact zN (k := .i64) (a := (exR d (1 + j) g (zt d g) ((m : Nat) : Int) 0 (⟨c.ctyp, c.cagg, c.cfield, c.cop, c.carg, -1, c.ckey⟩ : Cmd)).2.2) (b := 10) (if_pos aL) rfl ⟨rfl, rfl⟩
 refine st (zo (b := (decide (((exR d (1 + j) g (zt d g) ((m : Nat) : Int) 0 (⟨c.ctyp, c.cagg, c.cfield, c.cop, c.carg, -1, c.ckey⟩ : Cmd)).2.2) = 0)) && ((exR d (1 + j) g (zt d g) ((m : Nat) : Int) 0 (⟨c.ctyp, c.cagg, c.cfield, c.cop, c.carg, -1, c.ckey⟩ : Cmd)).2.1)) (b' := decide (((exR d (1 + j) g (zt d g) ((m : Nat) : Int) 0 (⟨c.ctyp, c.cagg, c.cfield, c.cop, c.carg, -1, c.ckey⟩ : Cmd)).2.2) = 10)) rfl (fun hbp => (if_pos hbp)) (st (mV (.bool (((decide (((exR d (1 + j) g (zt d g) ((m : Nat) : Int) 0 (⟨c.ctyp, c.cagg, c.cfield, c.cop, c.carg, -1, c.ckey⟩ : Cmd)).2.2) = 0)) && ((exR d (1 + j) g (zt d g) ((m : Nat) : Int) 0 (⟨c.ctyp, c.cagg, c.cfield, c.cop, c.carg, -1, c.ckey⟩ : Cmd)).2.1)) || (decide (((exR d (1 + j) g (zt d g) ((m : Nat) : Int) 0 (⟨c.ctyp, c.cagg, c.cfield, c.cop, c.carg, -1, c.ckey⟩ : Cmd)).2.2) = 10)))) (stc (V := Iv ((exR d (1 + j) g (zt d g) ((m : Nat) : Int) 0 (⟨c.ctyp, c.cagg, c.cfield, c.cop, c.carg, -1, c.ckey⟩ : Cmd)).2.2)) rfl rfl (fun cw => ?_) ?_))))
 have cx := cw
 try simp only [ze] at cx
 exact mV (Iv ((exR d (1 + j) g (zt d g) ((m : Nat) : Int) 0 (⟨c.ctyp, c.cagg, c.cfield, c.cop, c.carg, -1, c.ckey⟩ : Cmd)).2.2)) ⟨rfl, rfl⟩
 refine stc (V := .bool (decide (((exR d (1 + j) g (zt d g) ((m : Nat) : Int) 0 (⟨c.ctyp, c.cagg, c.cfield, c.cop, c.carg, -1, c.ckey⟩ : Cmd)).2.2) = 13))) rfl rfl (fun aM => ?_) ?_
 have cy := aM
 try simp only [ze] at cy
 exact zN (k := .i64) (a := (exR d (1 + j) g (zt d g) ((m : Nat) : Int) 0 (⟨c.ctyp, c.cagg, c.cfield, c.cop, c.carg, -1, c.ckey⟩ : Cmd)).2.2) (b := 13) (if_pos aM) rfl ⟨rfl, rfl⟩
 refine st (zo (b := ((decide (((exR d (1 + j) g (zt d g) ((m : Nat) : Int) 0 (⟨c.ctyp, c.cagg, c.cfield, c.cop, c.carg, -1, c.ckey⟩ : Cmd)).2.2) = 0)) && ((exR d (1 + j) g (zt d g) ((m : Nat) : Int) 0 (⟨c.ctyp, c.cagg, c.cfield, c.cop, c.carg, -1, c.ckey⟩ : Cmd)).2.1)) || (decide (((exR d (1 + j) g (zt d g) ((m : Nat) : Int) 0 (⟨c.ctyp, c.cagg, c.cfield, c.cop, c.carg, -1, c.ckey⟩ : Cmd)).2.2) = 10))) (b' := decide (((exR d (1 + j) g (zt d g) ((m : Nat) : Int) 0 (⟨c.ctyp, c.cagg, c.cfield, c.cop, c.carg, -1, c.ckey⟩ : Cmd)).2.2) = 13)) rfl (fun hbp => (if_pos hbp)) (zd ?_))
 cases T : (((decide (((exR d (1 + j) g (zt d g) ((m : Nat) : Int) 0 (⟨c.ctyp, c.cagg, c.cfield, c.cop, c.carg, -1, c.ckey⟩ : Cmd)).2.2) = 0)) && ((exR d (1 + j) g (zt d g) ((m : Nat) : Int) 0 (⟨c.ctyp, c.cagg, c.cfield, c.cop, c.carg, -1, c.ckey⟩ : Cmd)).2.1)) || (decide (((exR d (1 + j) g (zt d g) ((m : Nat) : Int) 0 (⟨c.ctyp, c.cagg, c.cfield, c.cop, c.carg, -1, c.ckey⟩ : Cmd)).2.2) = 10))) || (decide (((exR d (1 + j) g (zt d g) ((m : Nat) : Int) 0 (⟨c.ctyp, c.cagg, c.cfield, c.cop, c.carg, -1, c.ckey⟩ : Cmd)).2.2) = 13))
 have Y := T
 try simp only [ze] at T
 have bg := (dd bf).2 (by intro h8; have N := Y; simp only [Bool.or_eq_false_iff, Bool.and_eq_false_iff, decide_eq_false_iff_not] at N; rcases h8 with h8 | h8 | h8; rcases N.1.1 with h7 | h7; exact h7 h8.1; rw [h8.2] at h7; cases h7; exact N.1.2 h8; exact N.2 h8)
 refine zg rfl (zl (za (zv kr (st (mV (Iv ((exR d (1 + j) g (zt d g) ((m : Nat) : Int) 0 c).2.2)) (st (mV (Iv ((exR d (1 + j) g (zt d g) ((m : Nat) : Int) 0 (⟨c.ctyp, c.cagg, c.cfield, c.cop, c.carg, -1, c.ckey⟩ : Cmd)).2.2)) (st (zN (k := .i64) (a := (exR d (1 + j) g (zt d g) ((m : Nat) : Int) 0 c).2.2) (b := (exR d (1 + j) g (zt d g) ((m : Nat) : Int) 0 (⟨c.ctyp, c.cagg, c.cfield, c.cop, c.carg, -1, c.ckey⟩ : Cmd)).2.2) rfl rfl ?_)))))))))
 have bh : (decide (((exR d (1 + j) g (zt d g) ((m : Nat) : Int) 0 c).2.2) = ((exR d (1 + j) g (zt d g) ((m : Nat) : Int) 0 (⟨c.ctyp, c.cagg, c.cfield, c.cop, c.carg, -1, c.ckey⟩ : Cmd)).2.2))) = true := (by rw [bg]; exact decide_eq_true rfl)
 rw [bh]
 refine st (mV (.bool true) (sty rfl rfl (mV (.bool ((exR d (1 + j) g (zt d g) ((m : Nat) : Int) 0 c).2.1)) (sty rfl rfl (mV (.bool ((exR d (1 + j) g (zt d g) ((m : Nat) : Int) 0 (⟨c.ctyp, c.cagg, c.cfield, c.cop, c.carg, -1, c.ckey⟩ : Cmd)).2.1)) (sty rfl rfl (WN (a := (exR d (1 + j) g (zt d g) ((m : Nat) : Int) 0 c).2.1) (b := (exR d (1 + j) g (zt d g) ((m : Nat) : Int) 0 (⟨c.ctyp, c.cagg, c.cfield, c.cop, c.carg, -1, c.ckey⟩ : Cmd)).2.1) mR rfl rfl ?_)))))))
 have bi : (((exR d (1 + j) g (zt d g) ((m : Nat) : Int) 0 c).2.1) == ((exR d (1 + j) g (zt d g) ((m : Nat) : Int) 0 (⟨c.ctyp, c.cagg, c.cfield, c.cop, c.carg, -1, c.ckey⟩ : Cmd)).2.1)) = true := (by rw [bg]; simp)
 rw [bi]
 refine st (zQ (v := .bool true) rfl rfl (st (mV (.bool true) (sty rfl rfl (zf (k := 10) qT mT rfl rfl (CellsAt.all (E.b0)) (sty rfl rfl (zf (k := 10) qT mT rfl rfl (CellsAt.all (E.b7)) ?_)))))))
 obtain ⟨G356, cC, hB359, cD, cE⟩ := (E.mv3).lend
 have aN := DepO.rd cC
 have hsm363 : ((exR d (1 + j) g (zt d g) ((m : Nat) : Int) 0 c).1.deps).length * 8 ≤ 140737488355328 := aN.small
 obtain ⟨G365, cF, cG, cH, cI⟩ := (cD.mv3).lend
 have aO := DepO.rd cF
 have hsm372 : ((exR d (1 + j) g (zt d g) ((m : Nat) : Int) 0 (⟨c.ctyp, c.cagg, c.cfield, c.cop, c.carg, -1, c.ckey⟩ : Cmd)).1.deps).length * 8 ≤ 140737488355328 := aO.small
 refine sty rfl rfl (cL vT (xO (a := (exR d (1 + j) g (zt d g) ((m : Nat) : Int) 0 c).1) (b := (exR d (1 + j) g (zt d g) ((m : Nat) : Int) 0 (⟨c.ctyp, c.cagg, c.cfield, c.cop, c.carg, -1, c.ckey⟩ : Cmd)).1) (RdS.base aN cG) (ZT oc om dc O om) aO (ZT S om dc O om) cH) ?_)
 rintro _ w373 ⟨rfl, cJ⟩
 have cK := cI _ _ cJ
 have cM := cE _ _ cK
 have bj : (decide (((exR d (1 + j) g (zt d g) ((m : Nat) : Int) 0 c).1) = ((exR d (1 + j) g (zt d g) ((m : Nat) : Int) 0 (⟨c.ctyp, c.cagg, c.cfield, c.cop, c.carg, -1, c.ckey⟩ : Cmd)).1))) = true := (by rw [bg]; exact decide_eq_true rfl)
 rw [bj]
 refine st (zQ (v := .bool true) rfl rfl (st (mV (.bool true) (sty rfl rfl (cL wT (ZG  hKN cM) ?_)))))
 rintro _ w378 ⟨rfl, cN⟩
 refine st (zQ (v := .bool true) rfl rfl (st (aS (.bool true) (zd (zk (zG kR (show _ = (.bool true : Value) from rfl) ?_))))))
 refine ⟨rfl, (cN.s15_)⟩
 have Y := T
 try simp only [ze] at T
 obtain ⟨dO, dP⟩ := (dd bf).1 (by have N := Y; simp only [Bool.or_eq_true, Bool.and_eq_true, decide_eq_true_eq] at N; rcases N with (N | N) | N; exact .inl N; exact .inr (.inl N); exact .inr (.inr N))
 refine zh rfl (za (zv kr (st (mV (Iv ((exR d (1 + j) g (zt d g) ((m : Nat) : Int) 0 c).2.2)) (st (zN (k := .i64) (a := (exR d (1 + j) g (zt d g) ((m : Nat) : Int) 0 c).2.2) (b := 11) rfl rfl ?_))))))
 have bk : (decide (((exR d (1 + j) g (zt d g) ((m : Nat) : Int) 0 c).2.2) = 11)) = true := decide_eq_true dO
 rw [bk]
 refine st (mV (.bool true) (sty rfl rfl (mV (.bool ((exR d (1 + j) g (zt d g) ((m : Nat) : Int) 0 c).2.1)) (sty rfl rfl (yH (a := (exR d (1 + j) g (zt d g) ((m : Nat) : Int) 0 c).2.1) rfl ?_)))))
 have bl : (!((exR d (1 + j) g (zt d g) ((m : Nat) : Int) 0 c).2.1)) = true := (by rw [dP]; rfl)
 rw [bl]
 refine st (zQ (v := .bool true) rfl rfl (st (mV (.bool true) (sty rfl rfl (cL wT (ZG  hKN E) ?_)))))
 rintro _ w383 ⟨rfl, cO⟩
 refine st (zQ (v := .bool true) rfl rfl (st (aS (.bool true) (zd (zk (zG kR (show _ = (.bool true : Value) from rfl) ?_))))))
 refine ⟨rfl, (cO.s15_)⟩
 have K := tD K
 have bm := dN K
 refine zh rfl (za (zv kr (st (mV (.bool ((exR d (1 + j) g (zt d g) ((m : Nat) : Int) 0 c).2.1)) (st (mV (.bool ((exR d (1 + j) g (zt d g) ((m : Nat) : Int) 0 (⟨c.ctyp, c.cagg, c.cfield, c.cop, c.carg, -1, c.ckey⟩ : Cmd)).2.1)) (st (WN (a := (exR d (1 + j) g (zt d g) ((m : Nat) : Int) 0 c).2.1) (b := (exR d (1 + j) g (zt d g) ((m : Nat) : Int) 0 (⟨c.ctyp, c.cagg, c.cfield, c.cop, c.carg, -1, c.ckey⟩ : Cmd)).2.1) mR rfl rfl ?_))))))))
 have bn : (((exR d (1 + j) g (zt d g) ((m : Nat) : Int) 0 c).2.1) == ((exR d (1 + j) g (zt d g) ((m : Nat) : Int) 0 (⟨c.ctyp, c.cagg, c.cfield, c.cop, c.carg, -1, c.ckey⟩ : Cmd)).2.1)) = true := (by rw [bm]; simp)
 rw [bn]
 refine st (mV (.bool true) (sty rfl rfl (mV (Iv ((exR d (1 + j) g (zt d g) ((m : Nat) : Int) 0 c).2.2)) (sty rfl rfl (mV (Iv ((exR d (1 + j) g (zt d g) ((m : Nat) : Int) 0 (⟨c.ctyp, c.cagg, c.cfield, c.cop, c.carg, -1, c.ckey⟩ : Cmd)).2.2)) (sty rfl rfl (zN (k := .i64) (a := (exR d (1 + j) g (zt d g) ((m : Nat) : Int) 0 c).2.2) (b := (exR d (1 + j) g (zt d g) ((m : Nat) : Int) 0 (⟨c.ctyp, c.cagg, c.cfield, c.cop, c.carg, -1, c.ckey⟩ : Cmd)).2.2) rfl rfl ?_)))))))
 have bp : (decide (((exR d (1 + j) g (zt d g) ((m : Nat) : Int) 0 c).2.2) = ((exR d (1 + j) g (zt d g) ((m : Nat) : Int) 0 (⟨c.ctyp, c.cagg, c.cfield, c.cop, c.carg, -1, c.ckey⟩ : Cmd)).2.2))) = true := (by rw [bm]; exact decide_eq_true rfl)
 rw [bp]
 refine st (zQ (v := .bool true) rfl rfl (st (mV (.bool true) (sty rfl rfl (zf (k := 10) qT mT rfl rfl (CellsAt.all (E.b0)) (sty rfl rfl (zf (k := 10) qT mT rfl rfl (CellsAt.all (E.b7)) ?_)))))))
 obtain ⟨G389, cP, hB392, cQ, cR⟩ := (E.mv3).lend
 have aP := DepO.rd cP
 have hsm396 : ((exR d (1 + j) g (zt d g) ((m : Nat) : Int) 0 c).1.deps).length * 8 ≤ 140737488355328 := aP.small
 obtain ⟨G398, cS, cT, cU, cV⟩ := (cQ.mv3).lend
 have aQ := DepO.rd cS
 have hsm405 : ((exR d (1 + j) g (zt d g) ((m : Nat) : Int) 0 (⟨c.ctyp, c.cagg, c.cfield, c.cop, c.carg, -1, c.ckey⟩ : Cmd)).1.deps).length * 8 ≤ 140737488355328 := aQ.small
 refine sty rfl rfl (cL vT (xO (a := (exR d (1 + j) g (zt d g) ((m : Nat) : Int) 0 c).1) (b := (exR d (1 + j) g (zt d g) ((m : Nat) : Int) 0 (⟨c.ctyp, c.cagg, c.cfield, c.cop, c.carg, -1, c.ckey⟩ : Cmd)).1) (RdS.base aP cT) (ZT oc om dc O om) aQ (ZT S om dc O om) cU) ?_)
 rintro _ w406 ⟨rfl, cW⟩
 have cX := cV _ _ cW
 have cY := cR _ _ cX
 have bq : (decide (((exR d (1 + j) g (zt d g) ((m : Nat) : Int) 0 c).1) = ((exR d (1 + j) g (zt d g) ((m : Nat) : Int) 0 (⟨c.ctyp, c.cagg, c.cfield, c.cop, c.carg, -1, c.ckey⟩ : Cmd)).1))) = true := (by rw [bm]; exact decide_eq_true rfl)
 rw [bq]
 refine st (zQ (v := .bool true) rfl rfl (st (mV (.bool true) (sty rfl rfl (cL wT (ZG  hKN cY) ?_)))))
 rintro _ w411 ⟨rfl, cZ⟩
 refine st (zQ (v := .bool true) rfl rfl (st (aS (.bool true) (zd (zk (zG kR (show _ = (.bool true : Value) from rfl) ?_))))))
 refine ⟨rfl, (cZ.s15_)⟩
 try simp only [ze] at ar
 refine zh rfl (za (R0 fun _ => st (cL wT (ZG  hKN aq) ?_)))
 rintro _ w414 ⟨rfl, da⟩
 refine st (aS (.bool true) (zd (zk (zG kR (show _ = (.bool true : Value) from rfl) ?_))))
 refine ⟨rfl, (da.s2_)⟩

end Go.Proofs.YtbbabhaalmkbkaaGreatDoor
set_option maxRecDepth 8000
set_option maxHeartbeats 4000000
namespace Go.Proofs.YtbbabhaalmkbkaaGreatDoor
open Go.Proofs Go.RowKit

theorem Xb {w : World} {d : Dcl} {dd0 dd1 : Value} (h0 : RdS w (xi w) dd0 d.types) (h1 : RdS w (xi w) dd1 d.projs) (od : d.Ok) {n0 : Int} (hn0 : InR n0) {vl : Value} {l : List Ev} (hl : RdS w (xi w) vl l) {n1 : Int} (hn1 : InR n1) {c : Cmd} (oc : c.Ok) (hK : RdS w (xi w) (.slice (some ⟨0, 0, none⟩) 6 6) kindsL) : Ret Tryz.prog 5 [.agg (d.cells dd0 dd1).toArray, .int .i64 n0, vl, .int .i64 n1, .agg (c.cells).toArray] w (fun r w' => r = .bool true ∧ Ext w w') :=
  Ret.mono (YU h0 h1 od hn0 hl hn1 oc hK (Sep.start w)) (fun r w' h => ⟨h.1, h.2.fin⟩)
end Go.Proofs.YtbbabhaalmkbkaaGreatDoor
