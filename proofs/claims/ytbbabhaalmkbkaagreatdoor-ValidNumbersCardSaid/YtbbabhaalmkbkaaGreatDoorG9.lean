import Derived.Test.YtbbabhaalmkbkaaGreatDoorG8
set_option linter.unusedSimpArgs false
set_option linter.unusedVariables false
set_option linter.unusedSectionVars false
set_option linter.deprecated false
set_option maxRecDepth 8000
set_option maxHeartbeats 4000000
open Go.Proofs.Tryz renaming sizeOf28 → kT, isAgg28 → lT, zeroValue41 → mT, sizeOf41 → nT, call11 → oT, sizeOf25 → pT, isAgg25 → qT, call23 → rT, call7 → sT, results4 → tT, sizeOf3 → uT, isAgg41 → vT, call10 → wT, underlying33 → kR, underlying34 → lR, call17 → mR, call8 → nR
namespace Go.Proofs.YtbbabhaalmkbkaaGreatDoor
open Go.Proofs Go.RowKit
theorem yqf {p : Prop} (h : p := by decide +kernel) : p := h

theorem Ky {d : Dcl} {n : Nat} {L : List Ev} {V : List Ent} {o start : Int} {c : Cmd} (oc : c.Ok) (ho : InR o) (hs : InR start) (hL : ∀ e ∈ L, e.Ok) (hl : L.length ≤ 1000000) : (exR d n L V o start c).1.Ok := by
  by_cases h : xg d c = 0
  · cases hk : (yQ L c.ckey).isSome with
    | true => rw [QU h hk]; exact zar hL hk
    | false =>
      by_cases hx : xp c ((zW (c.ctyp, c.cagg) V : Nat) : Int) = 0
      · by_cases hm : yM (xK d c.ctyp) (zV d (c.ctyp, c.cagg) V) c.cfield c.cop c.carg = 0
        · rw [QQ h hk hx hm]
          have h9 := Vn (n := n) (L := L) o
          have h8 := Kw hL
          exact zbi oc ho (by omega) (by omega)
        · rw [KW h hk hx hm]; exact Xu
      · rw [KN h hk hx]; exact Xu
  · rw [Kx h]; exact Xu
def dF : Dcl := ⟨[⟨[⟨1, 1, true, []⟩]⟩], []⟩
theorem Xq : DclOk dF := by
  have one : ∀ {P : Nat → Prop}, P 0 → ∀ i, i < 1 → P i := fun {P} h i hi => (show i = 0 by omega) ▸ h
  refine ⟨Nat.le_refl 1, (by show 1 ≤ 8; decide), one (P := fun i => TypOk (dF.types.getD i default)) ?_⟩
  refine ⟨Nat.le_refl 1, (by show 1 ≤ 8; decide), ?_, ?_, ?_, ?_⟩
  · intro i hi; obtain rfl : i = 0 := by have : i < 1 := hi; omega
    exact ⟨(by decide : (1 : Int) ≤ 1), (by decide : (1 : Int) ≤ 4)⟩
  · intro i hi h; obtain rfl : i = 0 := by have : i < 1 := hi; omega
    rfl
  · intro i hi; obtain rfl : i = 0 := by have : i < 1 := hi; omega
    exact ⟨fun h => absurd h (by show ¬ (1 : Int) = 4; decide), Nat.zero_le _⟩
  · intro i hi j hj; obtain rfl : i = 0 := by have : i < 1 := hi; omega
    exact absurd hj (Nat.not_lt_zero j)
theorem xh {G : Nat → Prop} {W w : World} {Rs : List HP}  (hS0 : Sep G W Rs w) : Ret Tryz.prog 23 [] w (fun r w' => ∃ (bt : Nat) (bf : Nat), r = (.agg #[(.slice (some ⟨bt, 0, none⟩) 1 1), .slice none 0 0] : Value) ∧ Sep G W ((Blk bt #[(.slice (some ⟨bf, 0, none⟩) 1 1)] 53) :: (Blk bf #[.int .i64 (1), .int .i64 (1), .bool true, .slice none 0 0] 110) :: Rs) w') := by
 refine zi (args := []) Tryz.func23 rfl rfl ?_
 refine za (R0 fun _ => st (zq Tryz.zeroValue25 ?_))
 intro w3 b2 h
 refine zd (za (yq (by kernel_rfl) (fun _ => (st (zH (parts' := [(0, Iv 1), (1, Iv 1), (2, .bool true)]) (v := .agg #[Iv 1, Iv 1, .bool true, (Iz)]) rfl (by simp +zetaDelta [Instr.build, Instr.fill, Ev.cells, go_sem, Mv.cells, Fld.cells, Typ.cells, Prj.cells, Dcl.cells, Cel.cells, AskR.cells, CelS.cells, Ev.cells, Ent.cells, Sta.cells, Cmd.cells]) (st (zS (k := 4) (parts' := [(0, .agg #[Iv 1, Iv 1, .bool true, (Iz)])]) (c := #[Iv 1, Iv 1, .bool true, (Iz)]) Tryz.underlying51 Tryz.sizeOf110 Tryz.zeroValue110 (by decide) rfl (by kernel_rfl) ?_)))))))
 intro w7 d i
 refine st (zH (parts' := [(0, (Iy d 1 1))]) (v := .agg #[(Iy d 1 1)]) rfl (by simp +zetaDelta [Instr.build, Instr.fill, Ev.cells, go_sem, Mv.cells, Fld.cells, Typ.cells, Prj.cells, Dcl.cells, Cel.cells, AskR.cells, CelS.cells, Ev.cells, Ent.cells, Sta.cells, Cmd.cells]) (st (zS (k := 1) (parts' := [(0, .agg #[(Iy d 1 1)])]) (c := #[(Iy d 1 1)]) Tryz.underlying22 Tryz.sizeOf53 Tryz.zeroValue53 (by decide) rfl (by kernel_rfl) ?_)))
 intro w11 a j
 have e := ((hS0.new h).new i).new j
 refine st (zH (parts' := [(0, (Iy a 1 1))]) (v := .agg #[(Iy a 1 1), (Iz)]) rfl (by simp +zetaDelta [Instr.build, Instr.fill, Ev.cells, go_sem, Mv.cells, Fld.cells, Typ.cells, Prj.cells, Dcl.cells, Cel.cells, AskR.cells, CelS.cells, Ev.cells, Ent.cells, Sta.cells, Cmd.cells]) (stn (zp (v := .agg #[(Iy a 1 1), (Iz)]) (c' := #[(Iy a 1 1), (Iz)]) pT rfl rfl (e.b2) (zY ⟨rfl, rfl, trivial⟩) yqc rfl ?_)))
 intro w13 g
 have f := e.pt2 g
 refine zd (zj (UY (b := b2) Tryz.results23 qT pT rfl rfl (CellsAt.all (f.b2)) ?_))
 refine ⟨a, d, rfl, (f.s3_ab)⟩

set_option maxHeartbeats 8000000 in
set_option maxRecDepth 20000 in
theorem xZ {G : Nat → Prop} {W w : World} {Rs : List HP} (hKN : RdS W G (.slice (some ⟨0, 0, none⟩) 6 6) kindsL) (hS0 : Sep G W Rs w) : Ret Tryz.prog 7 [] w (fun r w' => r = (.bool true : Value) ∧ Sep G W Rs w') := by
 have hKNs : _ * 8 ≤ _ := hKN.small
 refine zi (args := []) Tryz.func7 rfl rfl ?_
 refine za (R0 fun _ => st (aS (.bool false) (zd (za (R0 fun _ => st (cL rT (xh  hS0) ?_))))))
 rintro _ w3 ⟨bJ, ao, rfl, iL⟩
 have hD : Sep _ _ ((RowE (α := Fld) (shr G W) 110 (Iy ao 1 1) [(⟨1, 1, true, []⟩ : Fld)]) :: _) _ := Sep.blkRow (src := (shr G W)) (l := [(⟨1, 1, true, []⟩ : Fld)]) (css := [(⟨1, 1, true, []⟩ : Fld).cells (Iz)]) (iL.mv1) rfl ⟨fun _ _ => ⟨_, rfl, (RdS.nil _ _), (show Fld.Ok (⟨1, 1, true, []⟩ : Fld) from ⟨by decide, by decide⟩)⟩, trivial⟩ yqa (show 1 ≤ maxLen by decide)
 have iM := hD.r0
 have hr7s : _ * 48 ≤ _ := iM.2
 obtain ⟨G8, hF, cR, hG, hH⟩ := hD.lend
 have bK := RowE.rdB hF cR
 have hrd14s : _ * 48 ≤ _ := bK.small
 have cS : Sep G8 w3 ((RowE (α := Typ) (shr G8 w3) 53 (Iy bJ 1 1) [(⟨[(⟨1, 1, true, []⟩ : Fld)]⟩ : Typ)]) :: Rs) w3 := Sep.blkRow (src := (shr G8 w3)) (l := [(⟨[(⟨1, 1, true, []⟩ : Fld)]⟩ : Typ)]) (css := [(⟨[(⟨1, 1, true, []⟩ : Fld)]⟩ : Typ).cells (Iy ao 1 1)]) hG rfl ⟨fun _ _ => ⟨_, rfl, bK, (show Typ.Ok (⟨[(⟨1, 1, true, []⟩ : Fld)]⟩ : Typ) from ⟨⟩)⟩, trivial⟩ yqa (show 1 ≤ maxLen by decide)
 have hI := cS.r0
 have hr16s : _ * 24 ≤ _ := hI.2
 obtain ⟨G17, hJ, cT, hK, hL⟩ := cS.lend
 have bL := RowE.rdB hJ cT
 have hrd23s : _ * 24 ≤ _ := bL.small
 refine st (cL wT (UK (d := dF) (n := 2) (l := ([] : List Ev)) (vl := (Iz)) bL (RdS.nil _ _) (⟨⟩ : Dcl.Ok dF) yqe (RdS.nil _ _) (RdS.base (RdS.base hKN cR) cT) hK (Xq) ((Nat.zero_le _))) ?_)
 rintro _ iN ⟨A, B, rfl, hM⟩
 let iT := (ViewO B dF ([] : List Ent) ([] : List Ent))
 have hN := hL _ _ hM
 have hO := hH _ _ hN
 refine st (mV (.tuple #[Ix A 0, Ix B 0]) (st (zk (vs := [Ix A 0, Ix B 0]) (i := 0) (v := Ix A 0) rfl rfl (st (zk (vs := [Ix A 0, Ix B 0]) (i := 1) (v := Ix B 0) rfl rfl (st (aS (Ix A 0) (st (aS (Ix B 0) (zd (za (za ?_))))))))))))
 have hP : Sep G W ((RowE (α := Fld) (shr G W) 110 (Iy ao 1 1) [(⟨1, 1, true, []⟩ : Fld)]) :: (SetO A 2 ([] : List Ev)) :: iT :: Rs) iN := (hO.s4_acd)
 refine zu kr (st (mV (Ix A 0) (st (xW (b := A) (o := 0) kR rfl (st (mV (.bool false) (sty rfl rfl (mV (Ix B 0) (sty rfl rfl (xW (b := B) (o := 0) lR rfl (st (zZ (v := .bool false) rfl rfl (zd (zg rfl (zl (za (R0 fun _ => ?_)))))))))))))))))
 have cU : Cmd.Ok (⟨0, 0, 0, 1, 3, 0, 7⟩ : Cmd) := ⟨(show InR (0) from dc), (show InR (0) from dc), (show InR (0) from dc), (show InR (1) from dc), (show InR (3) from dc), (show InR (0) from dc), (show InR (7) from dc)⟩
 refine st (zH (parts' := [(3, Iv 1), (4, Iv 3), (6, Iv 7)]) (v := .agg ((⟨0, 0, 0, 1, 3, 0, 7⟩ : Cmd).cells).toArray) rfl (by simp +zetaDelta [Instr.build, Instr.fill, Ev.cells, go_sem, Mv.cells, Fld.cells, Typ.cells, Prj.cells, Dcl.cells, Cel.cells, AskR.cells, CelS.cells, Ev.cells, Ent.cells, Sta.cells, Cmd.cells]) (st (zq Tryz.zeroValue28 ?_)))
 intro w35 Z hQ
 have cV := hP.new hQ
 refine stn (zp (v := .agg ((⟨0, 0, 0, 1, 3, 0, 7⟩ : Cmd).cells).toArray) (c' := ((⟨0, 0, 0, 1, 3, 0, 7⟩ : Cmd).cells).toArray) kT rfl rfl (cV.b0) (zY ⟨rfl, rfl, rfl, rfl, rfl, rfl, rfl, trivial⟩) yqc rfl ?_)
 intro w37 hR
 refine zd (za ?_)
 refine WD6 ((fun R S T U => WF [fun vals O => Sep G W (R :: S :: T :: U :: Rs) O, fun vals O => ∃ (z : Nat) (x : Nat), (vals 0 = (.agg #[(Iy z 1 1), Iz] : Value)) ∧ Sep G W ((Blk z #[(Iy x 1 1)] 53) :: (Blk x #[Iv 1, Iv 1, .bool true, Iz] 110) :: R :: S :: T :: U :: Rs) O, fun _ _ => True, fun vals O => ∃ (z : Nat) (x : Nat) (e : Value), (vals 0 = (.agg #[(Iy z 1 1), Iz] : Value)) ∧ (vals 4 = (.tuple #[.agg ((exR dF 2 ([] : List Ev) ([] : List Ent) 1 10 (⟨0, 0, 0, 1, 3, 0, 7⟩ : Cmd)).1.cells e).toArray, .bool ((exR dF 2 ([] : List Ev) ([] : List Ent) 1 10 (⟨0, 0, 0, 1, 3, 0, 7⟩ : Cmd)).2.1), Iv ((exR dF 2 ([] : List Ev) ([] : List Ent) 1 10 (⟨0, 0, 0, 1, 3, 0, 7⟩ : Cmd)).2.2)] : Value)) ∧ Sep G W ((RowE (α := Fld) (shr G W) 110 (Iy x 1 1) [(⟨1, 1, true, []⟩ : Fld)]) :: T :: U :: (DepO e ((exR dF 2 ([] : List Ev) ([] : List Ent) 1 10 (⟨0, 0, 0, 1, 3, 0, 7⟩ : Cmd)).1.deps)) :: R :: S :: Rs) O, fun vals O => ∃ (C : Nat), (vals 9 = (Ix C 0 : Value)) ∧ Sep G W ((Blk C #[Iv 0, Iv 0, Iv 0, (Iz), Iv 0, Iv 0, Iv 0, Iv 0, Iv 0, Iv 0] 41) :: R :: S :: T :: U :: Rs) O, fun vals O => ∃ (z : Nat) (x : Nat) (C : Nat), (vals 0 = (.agg #[(Iy z 1 1), Iz] : Value)) ∧ (vals 9 = (Ix C 0 : Value)) ∧ Sep G W ((Blk z #[(Iy x 1 1)] 53) :: (Blk x #[Iv 1, Iv 1, .bool true, Iz] 110) :: (Blk C #[Iv 0, Iv 0, Iv 0, (Iz), Iv 0, Iv 0, Iv 0, Iv 0, Iv 0, Iv 0] 41) :: R :: S :: T :: U :: Rs) O, fun _ _ => True, fun vals O => ∃ (z : Nat) (x : Nat) (e : Value) (C : Nat), (vals 0 = (.agg #[(Iy z 1 1), Iz] : Value)) ∧ (vals 4 = (.tuple #[.agg ((exR dF 2 ([] : List Ev) ([] : List Ent) 1 10 (⟨0, 0, 0, 1, 3, 0, 7⟩ : Cmd)).1.cells e).toArray, .bool ((exR dF 2 ([] : List Ev) ([] : List Ent) 1 10 (⟨0, 0, 0, 1, 3, 0, 7⟩ : Cmd)).2.1), Iv ((exR dF 2 ([] : List Ev) ([] : List Ent) 1 10 (⟨0, 0, 0, 1, 3, 0, 7⟩ : Cmd)).2.2)] : Value)) ∧ (vals 9 = (Ix C 0 : Value)) ∧ Sep G W ((Blk C #[Iv 0, Iv 0, Iv 0, (Iz), Iv 0, Iv 0, Iv 0, Iv 0, Iv 0, Iv 0] 41) :: (RowE (α := Fld) (shr G W) 110 (Iy x 1 1) [(⟨1, 1, true, []⟩ : Fld)]) :: T :: U :: (DepO e ((exR dF 2 ([] : List Ev) ([] : List Ent) 1 10 (⟨0, 0, 0, 1, 3, 0, 7⟩ : Cmd)).1.deps)) :: R :: S :: Rs) O, fun _ _ => True, fun _ _ => True, fun _ _ => True, fun _ _ => True, fun _ _ => True, fun _ _ => True, fun _ _ => True, fun vals O => ∃ (z : Nat) (x : Nat) (e : Value) (C : Nat), (vals 0 = (.agg #[(Iy z 1 1), Iz] : Value)) ∧ (vals 4 = (.tuple #[.agg ((exR dF 2 ([] : List Ev) ([] : List Ent) 1 10 (⟨0, 0, 0, 1, 3, 0, 7⟩ : Cmd)).1.cells e).toArray, .bool ((exR dF 2 ([] : List Ev) ([] : List Ent) 1 10 (⟨0, 0, 0, 1, 3, 0, 7⟩ : Cmd)).2.1), Iv ((exR dF 2 ([] : List Ev) ([] : List Ent) 1 10 (⟨0, 0, 0, 1, 3, 0, 7⟩ : Cmd)).2.2)] : Value)) ∧ (vals 9 = (Ix C 0 : Value)) ∧ Sep G W ((Blk C ((exR dF 2 ([] : List Ev) ([] : List Ent) 1 10 (⟨0, 0, 0, 1, 3, 0, 7⟩ : Cmd)).1.cells e).toArray 41) :: (RowE (α := Fld) (shr G W) 110 (Iy x 1 1) [(⟨1, 1, true, []⟩ : Fld)]) :: T :: U :: (DepO e ((exR dF 2 ([] : List Ev) ([] : List Ent) 1 10 (⟨0, 0, 0, 1, 3, 0, 7⟩ : Cmd)).1.deps)) :: R :: S :: Rs) O]) (Blk Z ((⟨0, 0, 0, 1, 3, 0, 7⟩ : Cmd).cells).toArray 28) (RowE (α := Fld) (shr G W) 110 (Iy ao 1 1) [(⟨1, 1, true, []⟩ : Fld)]) (SetO A 2 ([] : List Ev)) iT) (AF [fun _ => True, Vl 1 (Ix A 0), Vl 2 (Ix B 0), Vl 3 (.agg ((⟨0, 0, 0, 1, 3, 0, 7⟩ : Cmd).cells).toArray), fun _ => True, fun vals => ∀ (e : Value), vals 4 = (.tuple #[.agg ((exR dF 2 ([] : List Ev) ([] : List Ent) 1 10 (⟨0, 0, 0, 1, 3, 0, 7⟩ : Cmd)).1.cells e).toArray, .bool ((exR dF 2 ([] : List Ev) ([] : List Ent) 1 10 (⟨0, 0, 0, 1, 3, 0, 7⟩ : Cmd)).2.1), Iv ((exR dF 2 ([] : List Ev) ([] : List Ent) 1 10 (⟨0, 0, 0, 1, 3, 0, 7⟩ : Cmd)).2.2)] : Value) → vals 5 = (.tuple #[.agg ((exR dF 2 ([] : List Ev) ([] : List Ent) 1 10 (⟨0, 0, 0, 1, 3, 0, 7⟩ : Cmd)).1.cells e).toArray, .bool ((exR dF 2 ([] : List Ev) ([] : List Ent) 1 10 (⟨0, 0, 0, 1, 3, 0, 7⟩ : Cmd)).2.1), Iv ((exR dF 2 ([] : List Ev) ([] : List Ent) 1 10 (⟨0, 0, 0, 1, 3, 0, 7⟩ : Cmd)).2.2)] : Value), fun vals => ∀ (e : Value), vals 4 = (.tuple #[.agg ((exR dF 2 ([] : List Ev) ([] : List Ent) 1 10 (⟨0, 0, 0, 1, 3, 0, 7⟩ : Cmd)).1.cells e).toArray, .bool ((exR dF 2 ([] : List Ev) ([] : List Ent) 1 10 (⟨0, 0, 0, 1, 3, 0, 7⟩ : Cmd)).2.1), Iv ((exR dF 2 ([] : List Ev) ([] : List Ent) 1 10 (⟨0, 0, 0, 1, 3, 0, 7⟩ : Cmd)).2.2)] : Value) → vals 6 = (.agg ((exR dF 2 ([] : List Ev) ([] : List Ent) 1 10 (⟨0, 0, 0, 1, 3, 0, 7⟩ : Cmd)).1.cells e).toArray : Value), Vl 7 (.bool ((exR dF 2 ([] : List Ev) ([] : List Ent) 1 10 (⟨0, 0, 0, 1, 3, 0, 7⟩ : Cmd)).2.1)), Vl 8 (Iv ((exR dF 2 ([] : List Ev) ([] : List Ent) 1 10 (⟨0, 0, 0, 1, 3, 0, 7⟩ : Cmd)).2.2)), fun _ => True, fun _ => True, Vl 11 (.bool ((exR dF 2 ([] : List Ev) ([] : List Ent) 1 10 (⟨0, 0, 0, 1, 3, 0, 7⟩ : Cmd)).2.1)), Vl 12 (Iv ((exR dF 2 ([] : List Ev) ([] : List Ent) 1 10 (⟨0, 0, 0, 1, 3, 0, 7⟩ : Cmd)).2.2))]) [[], [], [], [], (rg 4), (rg 5), (rg 6), (rg 6), (rg 6), [], [0, 1, 2, 3, 4, 5, 6, 9], [0, 1, 2, 3, 4, 5, 6, 7, 9, 10], (rg 12)] [0, 4, 9, 10] [[0, 4], [0, 1, 4, 5], [0, 1, 4, 5], [0, 1, 4, 5], [1, 5], [3, 7], [3, 7], [3, 7, 15], [3, 7, 15], [0, 1, 3], [7], [15], [15]] (cV.pt0 hR) ⟨?_, fun _ _ _ _ _ _ => obl rfl (mV (Ix A 0) dR), fun _ _ _ _ _ _ => obl rfl (mV (Ix B 0) dR), ?_, ?_, ?_, ?_, ?_, ?_, ?_, ?_, fun _ _ _ _ _ ei => obl rfl (zQ (v := .bool ((exR dF 2 ([] : List Ev) ([] : List Ent) 1 10 (⟨0, 0, 0, 1, 3, 0, 7⟩ : Cmd)).2.1)) (ei 7 dc) dR), fun _ _ _ _ _ ej => obl rfl (zQ (v := Iv ((exR dF 2 ([] : List Ev) ([] : List Ent) 1 10 (⟨0, 0, 0, 1, 3, 0, 7⟩ : Cmd)).2.2)) (ej 8 dc) dR), trivial⟩ ?_ (hlocA := yV ⟨dT, dA, dA, dA, dT, fun vals u y h => fun e H => (y 5 (.inl rfl)).trans (h e ((y 4 (.inr dc)).symm.trans H)), fun vals u y h => fun e H => (y 6 (.inl rfl)).trans (h e ((y 4 (.inr dc)).symm.trans H)), dA, dA, dT, dT, dA, dA, trivial⟩)
 intro hS vals w184 ek bM hA185
 have aP : hS ∈ [0, 4] := ek
 simp only [List.mem_cons, List.not_mem_nil, or_false] at aP
 rcases aP with rfl | rfl
 have el : Sep _ _ _ _ := bM
 refine obl rfl ((cL rT (xh  el) ?_))
 rintro _ w191 ⟨z, x, rfl, em⟩
 exact fun u y m => ⟨(Exists.intro z (Exists.intro x (And.intro y em))), trivial⟩
 obtain ⟨C, N, en⟩ := bM
 refine obl rfl ((cL rT (xh  en) ?_))
 rintro _ w196 ⟨z, x, rfl, eo⟩
 exact fun u y m => ⟨(Exists.intro z (Exists.intro x (Exists.intro C (And.intro y (And.intro ((m 9 dc).trans N) eo))))), trivial⟩
 intro hT vals w209 er ab hA210
 have aQ : hT ∈ [0, 1, 4, 5] := er
 simp only [List.mem_cons, List.not_mem_nil, or_false] at aQ
 rcases aQ with rfl | rfl | rfl | rfl
 have es : Sep _ _ _ _ := ab
 exact obl rfl (zf (k := 7) lT kT rfl rfl (CellsAt.all (es.b0)) dR)
 obtain ⟨z, x, M, et⟩ := ab
 exact obl rfl (zf (k := 7) lT kT rfl rfl (CellsAt.all (et.b2)) dR)
 obtain ⟨C, N, eu⟩ := ab
 exact obl rfl (zf (k := 7) lT kT rfl rfl (CellsAt.all (eu.b1)) dR)
 obtain ⟨z, x, C, M, N, ew⟩ := ab
 exact obl rfl (zf (k := 7) lT kT rfl rfl (CellsAt.all (ew.b3)) dR)
 intro hU vals aA ex bN V
 have aR : hU ∈ [1, 5] := ex
 simp only [List.mem_cons, List.not_mem_nil, or_false] at aR
 rcases aR with rfl | rfl
 obtain ⟨z, x, M, ey⟩ := bN
 refine obl rfl ?_
 have bO : Sep _ _ ((RowE (α := Fld) (shr G W) 110 (Iy x 1 1) [(⟨1, 1, true, []⟩ : Fld)]) :: _) _ := Sep.blkRow (src := (shr G W)) (l := [(⟨1, 1, true, []⟩ : Fld)]) (css := [(⟨1, 1, true, []⟩ : Fld).cells (Iz)]) (ey.mv1) rfl ⟨fun _ _ => ⟨_, rfl, (RdS.nil _ _), (show Fld.Ok (⟨1, 1, true, []⟩ : Fld) from ⟨by decide, by decide⟩)⟩, trivial⟩ yqa (show 1 ≤ maxLen by decide)
 have ez := bO.r0
 have hr228s : _ * 48 ≤ _ := ez.2
 obtain ⟨cW, eA, bP, eB, eC⟩ := bO.lend
 have aT := RowE.rdB eA bP
 have hrd235s : _ * 48 ≤ _ := aT.small
 have bQ : Sep _ _ ((RowE (α := Typ) (shr cW aA) 53 (Iy z 1 1) [(⟨[(⟨1, 1, true, []⟩ : Fld)]⟩ : Typ)]) :: _) _ := Sep.blkRow (src := (shr cW aA)) (l := [(⟨[(⟨1, 1, true, []⟩ : Fld)]⟩ : Typ)]) (css := [(⟨[(⟨1, 1, true, []⟩ : Fld)]⟩ : Typ).cells (Iy x 1 1)]) eB rfl ⟨fun _ _ => ⟨_, rfl, aT, (show Typ.Ok (⟨[(⟨1, 1, true, []⟩ : Fld)]⟩ : Typ) from ⟨⟩)⟩, trivial⟩ yqa (show 1 ≤ maxLen by decide)
 have eD := bQ.r0
 have hr237s : _ * 24 ≤ _ := eD.2
 obtain ⟨G238, eE, bR, eF, eG⟩ := bQ.lend
 have aU := RowE.rdB eE bR
 have hrd244s : _ * 24 ≤ _ := aU.small
 obtain ⟨G246, bS, bT, eH, eI⟩ := (eF.mv2).lend
 obtain ⟨vv252, m253, R254, hb255, eJ, hr257⟩ := SetO.sh bS
 have hsm258 : (zt 2 ([] : List Ev)).length * 8 ≤ 140737488355328 := eJ.small
 refine (zB (f := 11) (vals := [.agg (dF.cells (Iy z 1 1) (Iz)).toArray, Ix A 0, Ix B 0, Iv 1, Iv 10, .agg ((⟨0, 0, 0, 1, 3, 0, 7⟩ : Cmd).cells).toArray]) (cap := []) rfl (yE ⟨M, (V 1 dc), (V 2 dc), rfl, rfl, (V 3 dc), trivial⟩) oT (Zh (d := dF) (o := 1) (start := 10) (c := (⟨0, 0, 0, 1, 3, 0, 7⟩ : Cmd)) (RdS.base aU bT) (RdS.nil _ _) (⟨⟩ : Dcl.Ok dF) bS dc dc cU (RdS.base (RdS.base (RdS.base hKN bP) bR) bT) (eH.mv2) (Xq) ((Inv.nil dF)) ((Nat.zero_le _)) (List.Pairwise.nil) ((Good.nil (n := 2)).srt) ((Nat.zero_le _)) (dc)) ?_)
 rintro _ w261 ⟨e, rfl, eK⟩
 have eL := eI _ _ eK
 have eM := eG _ _ eL
 have eN := eC _ _ eM
 exact fun u y m => ⟨(Exists.intro z (Exists.intro x (Exists.intro e (And.intro ((m 0 dc).trans M) (And.intro y (eN.s7_acdefg)))))), trivial⟩
 obtain ⟨z, x, C, M, N, eO⟩ := bN
 refine obl rfl ?_
 have bU : Sep _ _ ((RowE (α := Fld) (shr G W) 110 (Iy x 1 1) [(⟨1, 1, true, []⟩ : Fld)]) :: _) _ := Sep.blkRow (src := (shr G W)) (l := [(⟨1, 1, true, []⟩ : Fld)]) (css := [(⟨1, 1, true, []⟩ : Fld).cells (Iz)]) (eO.mv1) rfl ⟨fun _ _ => ⟨_, rfl, (RdS.nil _ _), (show Fld.Ok (⟨1, 1, true, []⟩ : Fld) from ⟨by decide, by decide⟩)⟩, trivial⟩ yqa (show 1 ≤ maxLen by decide)
 have eP := bU.r0
 have hr273s : _ * 48 ≤ _ := eP.2
 obtain ⟨cX, eQ, bV, eR, eS⟩ := bU.lend
 have aV := RowE.rdB eQ bV
 have hrd280s : _ * 48 ≤ _ := aV.small
 have bW : Sep _ _ ((RowE (α := Typ) (shr cX aA) 53 (Iy z 1 1) [(⟨[(⟨1, 1, true, []⟩ : Fld)]⟩ : Typ)]) :: _) _ := Sep.blkRow (src := (shr cX aA)) (l := [(⟨[(⟨1, 1, true, []⟩ : Fld)]⟩ : Typ)]) (css := [(⟨[(⟨1, 1, true, []⟩ : Fld)]⟩ : Typ).cells (Iy x 1 1)]) eR rfl ⟨fun _ _ => ⟨_, rfl, aV, (show Typ.Ok (⟨[(⟨1, 1, true, []⟩ : Fld)]⟩ : Typ) from ⟨⟩)⟩, trivial⟩ yqa (show 1 ≤ maxLen by decide)
 have eT := bW.r0
 have hr282s : _ * 24 ≤ _ := eT.2
 obtain ⟨G283, eU, bX, eV, eW⟩ := bW.lend
 have aW := RowE.rdB eU bX
 have hrd289s : _ * 24 ≤ _ := aW.small
 obtain ⟨G291, bY, bZ, eX, eY⟩ := (eV.mv3).lend
 obtain ⟨vv297, m298, R299, hb300, eZ, hr302⟩ := SetO.sh bY
 have hsm303 : (zt 2 ([] : List Ev)).length * 8 ≤ 140737488355328 := eZ.small
 refine (zB (f := 11) (vals := [.agg (dF.cells (Iy z 1 1) (Iz)).toArray, Ix A 0, Ix B 0, Iv 1, Iv 10, .agg ((⟨0, 0, 0, 1, 3, 0, 7⟩ : Cmd).cells).toArray]) (cap := []) rfl (yE ⟨M, (V 1 dc), (V 2 dc), rfl, rfl, (V 3 dc), trivial⟩) oT (Zh (d := dF) (o := 1) (start := 10) (c := (⟨0, 0, 0, 1, 3, 0, 7⟩ : Cmd)) (RdS.base aW bZ) (RdS.nil _ _) (⟨⟩ : Dcl.Ok dF) bY dc dc cU (RdS.base (RdS.base (RdS.base hKN bV) bX) bZ) (eX.mv3) (Xq) ((Inv.nil dF)) ((Nat.zero_le _)) (List.Pairwise.nil) ((Good.nil (n := 2)).srt) ((Nat.zero_le _)) (dc)) ?_)
 rintro _ w306 ⟨e, rfl, fa⟩
 have fb := eY _ _ fa
 have fc := eW _ _ fb
 have fd := eS _ _ fc
 exact fun u y m => ⟨(Exists.intro z (Exists.intro x (Exists.intro e (Exists.intro C (And.intro ((m 0 dc).trans M) (And.intro y (And.intro ((m 9 dc).trans N) ((fd.s8_acdefgh).mv4)))))))), trivial⟩
 intro hV vals w314 fe ca hA315
 have aX : hV ∈ [3, 7] := fe
 simp only [List.mem_cons, List.not_mem_nil, or_false] at aX
 rcases aX with rfl | rfl
 obtain ⟨z, x, e, M, D, hS318⟩ := ca
 refine obl rfl (ya (v := .tuple #[.agg ((exR dF 2 ([] : List Ev) ([] : List Ent) 1 10 (⟨0, 0, 0, 1, 3, 0, 7⟩ : Cmd)).1.cells e).toArray, .bool ((exR dF 2 ([] : List Ev) ([] : List Ent) 1 10 (⟨0, 0, 0, 1, 3, 0, 7⟩ : Cmd)).2.1), Iv ((exR dF 2 ([] : List Ev) ([] : List Ent) 1 10 (⟨0, 0, 0, 1, 3, 0, 7⟩ : Cmd)).2.2)]) D (fun u y m => ⟨rfl, ?_⟩))
 intro ae H
 rw [m 4 (by decide)] at H; cases D.symm.trans H
 exact y
 obtain ⟨z, x, e, C, M, D, N, hS319⟩ := ca
 refine obl rfl (ya (v := .tuple #[.agg ((exR dF 2 ([] : List Ev) ([] : List Ent) 1 10 (⟨0, 0, 0, 1, 3, 0, 7⟩ : Cmd)).1.cells e).toArray, .bool ((exR dF 2 ([] : List Ev) ([] : List Ent) 1 10 (⟨0, 0, 0, 1, 3, 0, 7⟩ : Cmd)).2.1), Iv ((exR dF 2 ([] : List Ev) ([] : List Ent) 1 10 (⟨0, 0, 0, 1, 3, 0, 7⟩ : Cmd)).2.2)]) D (fun u y m => ⟨rfl, ?_⟩))
 intro ae H
 rw [m 4 (by decide)] at H; cases D.symm.trans H
 exact y
 intro hW vals w321 ff cb cc
 have aY : hW ∈ [3, 7] := ff
 simp only [List.mem_cons, List.not_mem_nil, or_false] at aY
 rcases aY with rfl | rfl
 obtain ⟨z, x, e, M, D, hS325⟩ := cb
 let hv := ((exR dF 2 ([] : List Ev) ([] : List Ent) 1 10 (⟨0, 0, 0, 1, 3, 0, 7⟩ : Cmd)).1.cells e)
 have hX : vals 5 = (.tuple #[.agg hv.toArray, .bool ((exR dF 2 ([] : List Ev) ([] : List Ent) 1 10 (⟨0, 0, 0, 1, 3, 0, 7⟩ : Cmd)).2.1), Iv ((exR dF 2 ([] : List Ev) ([] : List Ent) 1 10 (⟨0, 0, 0, 1, 3, 0, 7⟩ : Cmd)).2.2)] : Value) := cc 5 dc e D
 refine obl rfl (zk (vs := [.agg hv.toArray, .bool ((exR dF 2 ([] : List Ev) ([] : List Ent) 1 10 (⟨0, 0, 0, 1, 3, 0, 7⟩ : Cmd)).2.1), Iv ((exR dF 2 ([] : List Ev) ([] : List Ent) 1 10 (⟨0, 0, 0, 1, 3, 0, 7⟩ : Cmd)).2.2)]) (i := 0) (v := .agg hv.toArray) hX rfl (fun u y m => ⟨rfl, ?_⟩))
 intro ae H
 rw [m 4 (by decide)] at H; cases D.symm.trans H
 exact y
 obtain ⟨z, x, e, C, M, D, N, hS327⟩ := cb
 let hE := ((exR dF 2 ([] : List Ev) ([] : List Ent) 1 10 (⟨0, 0, 0, 1, 3, 0, 7⟩ : Cmd)).1.cells e)
 have hY : vals 5 = (.tuple #[.agg hE.toArray, .bool ((exR dF 2 ([] : List Ev) ([] : List Ent) 1 10 (⟨0, 0, 0, 1, 3, 0, 7⟩ : Cmd)).2.1), Iv ((exR dF 2 ([] : List Ev) ([] : List Ent) 1 10 (⟨0, 0, 0, 1, 3, 0, 7⟩ : Cmd)).2.2)] : Value) := cc 5 dc e D
 refine obl rfl (zk (vs := [.agg hE.toArray, .bool ((exR dF 2 ([] : List Ev) ([] : List Ent) 1 10 (⟨0, 0, 0, 1, 3, 0, 7⟩ : Cmd)).2.1), Iv ((exR dF 2 ([] : List Ev) ([] : List Ent) 1 10 (⟨0, 0, 0, 1, 3, 0, 7⟩ : Cmd)).2.2)]) (i := 0) (v := .agg hE.toArray) hY rfl (fun u y m => ⟨rfl, ?_⟩))
 intro ae H
 rw [m 4 (by decide)] at H; cases D.symm.trans H
 exact y
 intro hZ vals w330 fg aB aC
 have aZ : hZ ∈ [3, 7, 15] := fg
 simp only [List.mem_cons, List.not_mem_nil, or_false] at aZ
 rcases aZ with rfl | rfl | rfl
 obtain ⟨z, x, e, M, D, hS334⟩ := aB
 let jb := ((exR dF 2 ([] : List Ev) ([] : List Ent) 1 10 (⟨0, 0, 0, 1, 3, 0, 7⟩ : Cmd)).1.cells e)
 have ia : vals 5 = (.tuple #[.agg jb.toArray, .bool ((exR dF 2 ([] : List Ev) ([] : List Ent) 1 10 (⟨0, 0, 0, 1, 3, 0, 7⟩ : Cmd)).2.1), Iv ((exR dF 2 ([] : List Ev) ([] : List Ent) 1 10 (⟨0, 0, 0, 1, 3, 0, 7⟩ : Cmd)).2.2)] : Value) := aC 5 dc e D
 exact obl rfl (zk (vs := [.agg jb.toArray, .bool ((exR dF 2 ([] : List Ev) ([] : List Ent) 1 10 (⟨0, 0, 0, 1, 3, 0, 7⟩ : Cmd)).2.1), Iv ((exR dF 2 ([] : List Ev) ([] : List Ent) 1 10 (⟨0, 0, 0, 1, 3, 0, 7⟩ : Cmd)).2.2)]) (i := 1) (v := .bool ((exR dF 2 ([] : List Ev) ([] : List Ent) 1 10 (⟨0, 0, 0, 1, 3, 0, 7⟩ : Cmd)).2.1)) ia rfl dR)
 obtain ⟨z, x, e, C, M, D, N, hS336⟩ := aB
 let jc := ((exR dF 2 ([] : List Ev) ([] : List Ent) 1 10 (⟨0, 0, 0, 1, 3, 0, 7⟩ : Cmd)).1.cells e)
 have ib : vals 5 = (.tuple #[.agg jc.toArray, .bool ((exR dF 2 ([] : List Ev) ([] : List Ent) 1 10 (⟨0, 0, 0, 1, 3, 0, 7⟩ : Cmd)).2.1), Iv ((exR dF 2 ([] : List Ev) ([] : List Ent) 1 10 (⟨0, 0, 0, 1, 3, 0, 7⟩ : Cmd)).2.2)] : Value) := aC 5 dc e D
 exact obl rfl (zk (vs := [.agg jc.toArray, .bool ((exR dF 2 ([] : List Ev) ([] : List Ent) 1 10 (⟨0, 0, 0, 1, 3, 0, 7⟩ : Cmd)).2.1), Iv ((exR dF 2 ([] : List Ev) ([] : List Ent) 1 10 (⟨0, 0, 0, 1, 3, 0, 7⟩ : Cmd)).2.2)]) (i := 1) (v := .bool ((exR dF 2 ([] : List Ev) ([] : List Ent) 1 10 (⟨0, 0, 0, 1, 3, 0, 7⟩ : Cmd)).2.1)) ib rfl dR)
 obtain ⟨z, x, e, C, M, D, N, hS338⟩ := aB
 let jd := ((exR dF 2 ([] : List Ev) ([] : List Ent) 1 10 (⟨0, 0, 0, 1, 3, 0, 7⟩ : Cmd)).1.cells e)
 have ic : vals 5 = (.tuple #[.agg jd.toArray, .bool ((exR dF 2 ([] : List Ev) ([] : List Ent) 1 10 (⟨0, 0, 0, 1, 3, 0, 7⟩ : Cmd)).2.1), Iv ((exR dF 2 ([] : List Ev) ([] : List Ent) 1 10 (⟨0, 0, 0, 1, 3, 0, 7⟩ : Cmd)).2.2)] : Value) := aC 5 dc e D
 exact obl rfl (zk (vs := [.agg jd.toArray, .bool ((exR dF 2 ([] : List Ev) ([] : List Ent) 1 10 (⟨0, 0, 0, 1, 3, 0, 7⟩ : Cmd)).2.1), Iv ((exR dF 2 ([] : List Ev) ([] : List Ent) 1 10 (⟨0, 0, 0, 1, 3, 0, 7⟩ : Cmd)).2.2)]) (i := 1) (v := .bool ((exR dF 2 ([] : List Ev) ([] : List Ent) 1 10 (⟨0, 0, 0, 1, 3, 0, 7⟩ : Cmd)).2.1)) ic rfl dR)
 intro id vals w341 fh aD aE
 have ba : id ∈ [3, 7, 15] := fh
 simp only [List.mem_cons, List.not_mem_nil, or_false] at ba
 rcases ba with rfl | rfl | rfl
 obtain ⟨z, x, e, M, D, hS345⟩ := aD
 let je := ((exR dF 2 ([] : List Ev) ([] : List Ent) 1 10 (⟨0, 0, 0, 1, 3, 0, 7⟩ : Cmd)).1.cells e)
 have ie : vals 5 = (.tuple #[.agg je.toArray, .bool ((exR dF 2 ([] : List Ev) ([] : List Ent) 1 10 (⟨0, 0, 0, 1, 3, 0, 7⟩ : Cmd)).2.1), Iv ((exR dF 2 ([] : List Ev) ([] : List Ent) 1 10 (⟨0, 0, 0, 1, 3, 0, 7⟩ : Cmd)).2.2)] : Value) := aE 5 dc e D
 exact obl rfl (zk (vs := [.agg je.toArray, .bool ((exR dF 2 ([] : List Ev) ([] : List Ent) 1 10 (⟨0, 0, 0, 1, 3, 0, 7⟩ : Cmd)).2.1), Iv ((exR dF 2 ([] : List Ev) ([] : List Ent) 1 10 (⟨0, 0, 0, 1, 3, 0, 7⟩ : Cmd)).2.2)]) (i := 2) (v := Iv ((exR dF 2 ([] : List Ev) ([] : List Ent) 1 10 (⟨0, 0, 0, 1, 3, 0, 7⟩ : Cmd)).2.2)) ie rfl dR)
 obtain ⟨z, x, e, C, M, D, N, hS347⟩ := aD
 let jf := ((exR dF 2 ([] : List Ev) ([] : List Ent) 1 10 (⟨0, 0, 0, 1, 3, 0, 7⟩ : Cmd)).1.cells e)
 have ig : vals 5 = (.tuple #[.agg jf.toArray, .bool ((exR dF 2 ([] : List Ev) ([] : List Ent) 1 10 (⟨0, 0, 0, 1, 3, 0, 7⟩ : Cmd)).2.1), Iv ((exR dF 2 ([] : List Ev) ([] : List Ent) 1 10 (⟨0, 0, 0, 1, 3, 0, 7⟩ : Cmd)).2.2)] : Value) := aE 5 dc e D
 exact obl rfl (zk (vs := [.agg jf.toArray, .bool ((exR dF 2 ([] : List Ev) ([] : List Ent) 1 10 (⟨0, 0, 0, 1, 3, 0, 7⟩ : Cmd)).2.1), Iv ((exR dF 2 ([] : List Ev) ([] : List Ent) 1 10 (⟨0, 0, 0, 1, 3, 0, 7⟩ : Cmd)).2.2)]) (i := 2) (v := Iv ((exR dF 2 ([] : List Ev) ([] : List Ent) 1 10 (⟨0, 0, 0, 1, 3, 0, 7⟩ : Cmd)).2.2)) ig rfl dR)
 obtain ⟨z, x, e, C, M, D, N, hS349⟩ := aD
 let jg := ((exR dF 2 ([] : List Ev) ([] : List Ent) 1 10 (⟨0, 0, 0, 1, 3, 0, 7⟩ : Cmd)).1.cells e)
 have ih : vals 5 = (.tuple #[.agg jg.toArray, .bool ((exR dF 2 ([] : List Ev) ([] : List Ent) 1 10 (⟨0, 0, 0, 1, 3, 0, 7⟩ : Cmd)).2.1), Iv ((exR dF 2 ([] : List Ev) ([] : List Ent) 1 10 (⟨0, 0, 0, 1, 3, 0, 7⟩ : Cmd)).2.2)] : Value) := aE 5 dc e D
 exact obl rfl (zk (vs := [.agg jg.toArray, .bool ((exR dF 2 ([] : List Ev) ([] : List Ent) 1 10 (⟨0, 0, 0, 1, 3, 0, 7⟩ : Cmd)).2.1), Iv ((exR dF 2 ([] : List Ev) ([] : List Ent) 1 10 (⟨0, 0, 0, 1, 3, 0, 7⟩ : Cmd)).2.2)]) (i := 2) (v := Iv ((exR dF 2 ([] : List Ev) ([] : List Ent) 1 10 (⟨0, 0, 0, 1, 3, 0, 7⟩ : Cmd)).2.2)) ih rfl dR)
 intro ii vals w352 fi aF hA353
 have bb : ii ∈ [0, 1, 3] := fi
 simp only [List.mem_cons, List.not_mem_nil, or_false] at bb
 rcases bb with rfl | rfl | rfl
 have fj : Sep _ _ _ _ := aF
 refine obl rfl ((zq mT ?_))
 intro w359 C fk
 exact fun u y m => ⟨(Exists.intro C (And.intro y (fj.new fk))), trivial⟩
 obtain ⟨z, x, M, fl⟩ := aF
 refine obl rfl ((zq mT ?_))
 intro w364 C fm
 exact fun u y m => ⟨(Exists.intro z (Exists.intro x (Exists.intro C (And.intro ((m 0 dc).trans M) (And.intro y ((fl.new fm).s7_bcadefg)))))), trivial⟩
 obtain ⟨z, x, e, M, D, fn⟩ := aF
 refine obl rfl ((zq mT ?_))
 intro w370 C fo
 exact fun u y m => ⟨(Exists.intro z (Exists.intro x (Exists.intro e (Exists.intro C (And.intro ((m 0 dc).trans M) (And.intro ((m 4 dc).trans D) (And.intro y (fn.new fo)))))))), trivial⟩
 intro ij vals w373 fp fq fr
 have bc : ij ∈ [7] := fp
 simp only [List.mem_cons, List.not_mem_nil, or_false] at bc
 subst bc
 obtain ⟨z, x, e, C, M, D, N, aG⟩ := fq
 let iO := ((exR dF 2 ([] : List Ev) ([] : List Ent) 1 10 (⟨0, 0, 0, 1, 3, 0, 7⟩ : Cmd)).1.cells e)
 refine obl rfl ?_
 have ik : vals 6 = (.agg iO.toArray : Value) := fr 6 dc e D
 refine (zp (v := .agg iO.toArray) (c' := iO.toArray) nT N ik (aG.b0) (zY ⟨rfl, rfl, rfl, (aG.depSl (i := 4) rfl).one, rfl, rfl, rfl, rfl, rfl, rfl, trivial⟩) yqc rfl ?_)
 intro w379 fs
 exact fun u y m => ⟨(Exists.intro z (Exists.intro x (Exists.intro e (Exists.intro C (And.intro ((m 0 dc).trans M) (And.intro ((m 4 dc).trans D) (And.intro ((m 9 dc).trans N) (aG.pt0 fs)))))))), trivial⟩
 intro vals w394 ft cd
 obtain ⟨z, x, e, C, M, D, N, ce⟩ := ft
 let iU := (Blk C ((exR dF 2 ([] : List Ev) ([] : List Ent) 1 10 (⟨0, 0, 0, 1, 3, 0, 7⟩ : Cmd)).1.cells e).toArray 41)
 have il := cd 11 dc
 have im := cd 12 dc
 refine zT (kv := [(0, .bool false), (15, .agg #[(Iy bJ 1 1), Iz]), (16, .tuple #[Ix A 0, Ix B 0]), (14, .tuple #[Ix A 0, Ix B 0]), (17, Ix A 0), (18, Ix B 0), (1, Ix A 0), (2, Ix B 0), (19, Ix A 0), (20, .bool false), (21, .bool false), (22, Ix B 0), (23, .bool false), (24, .bool false), (25, .agg ((⟨0, 0, 0, 1, 3, 0, 7⟩ : Cmd).cells).toArray), (3, Ix Z 0), (4, Ix C 0), (5, .bool ((exR dF 2 ([] : List Ev) ([] : List Ent) 1 10 (⟨0, 0, 0, 1, 3, 0, 7⟩ : Cmd)).2.1)), (6, Iv ((exR dF 2 ([] : List Ev) ([] : List Ent) 1 10 (⟨0, 0, 0, 1, 3, 0, 7⟩ : Cmd)).2.2))]) ⟨rfl, rfl, rfl, rfl, rfl, rfl, rfl, rfl, rfl, rfl, rfl, rfl, rfl, rfl, rfl, rfl, (by exact N), (by exact il), (by exact im), trivial⟩ (fun ρw394 => (zd (za (R0 fun _ => st (Xs rfl ?_)))))
 refine stn (yw (v := Iv 1) (c := [Iv 0, Iv 0, Iv 0, Iv 1, Iv 3, Iv 0, Iv 7]) (c' := [Iv 0, Iv 0, Iv 0, Iv 1, Iv 3, Iv 1, Iv 7]) uT rfl rfl (ce.b5) rfl rfl rfl ?_)
 intro w400 fu
 have cf : Cmd.Ok (⟨0, 0, 0, 1, 3, 1, 7⟩ : Cmd) := ⟨(show InR (0) from dc), (show InR (0) from dc), (show InR (0) from dc), (show InR (1) from dc), (show InR (3) from dc), (show InR (1) from dc), (show InR (7) from dc)⟩
 refine zd (za ?_)
 refine WD6 ((fun TT R S T U => WF [fun vals O => Sep G W (R :: S :: T :: U :: TT) O, fun vals O => ∃ (q : Nat) (p : Nat), (vals 0 = (.agg #[(Iy q 1 1), Iz] : Value)) ∧ Sep G W ((Blk q #[(Iy p 1 1)] 53) :: (Blk p #[Iv 1, Iv 1, .bool true, Iz] 110) :: R :: S :: T :: U :: TT) O, fun _ _ => True, fun vals O => ∃ (q : Nat) (p : Nat) (g : Value), (vals 0 = (.agg #[(Iy q 1 1), Iz] : Value)) ∧ (vals 4 = (.tuple #[.agg ((exR dF 2 ([] : List Ev) ([] : List Ent) 1 10 (⟨0, 0, 0, 1, 3, 1, 7⟩ : Cmd)).1.cells g).toArray, .bool ((exR dF 2 ([] : List Ev) ([] : List Ent) 1 10 (⟨0, 0, 0, 1, 3, 1, 7⟩ : Cmd)).2.1), Iv ((exR dF 2 ([] : List Ev) ([] : List Ent) 1 10 (⟨0, 0, 0, 1, 3, 1, 7⟩ : Cmd)).2.2)] : Value)) ∧ Sep G W ((RowE (α := Fld) (shr G W) 110 (Iy p 1 1) [(⟨1, 1, true, []⟩ : Fld)]) :: T :: U :: (DepO g ((exR dF 2 ([] : List Ev) ([] : List Ent) 1 10 (⟨0, 0, 0, 1, 3, 1, 7⟩ : Cmd)).1.deps)) :: R :: S :: TT) O, fun vals O => ∃ (I : Nat), (vals 9 = (Ix I 0 : Value)) ∧ Sep G W ((Blk I #[Iv 0, Iv 0, Iv 0, (Iz), Iv 0, Iv 0, Iv 0, Iv 0, Iv 0, Iv 0] 41) :: R :: S :: T :: U :: TT) O, fun vals O => ∃ (q : Nat) (p : Nat) (I : Nat), (vals 0 = (.agg #[(Iy q 1 1), Iz] : Value)) ∧ (vals 9 = (Ix I 0 : Value)) ∧ Sep G W ((Blk q #[(Iy p 1 1)] 53) :: (Blk p #[Iv 1, Iv 1, .bool true, Iz] 110) :: (Blk I #[Iv 0, Iv 0, Iv 0, (Iz), Iv 0, Iv 0, Iv 0, Iv 0, Iv 0, Iv 0] 41) :: R :: S :: T :: U :: TT) O, fun _ _ => True, fun vals O => ∃ (q : Nat) (p : Nat) (g : Value) (I : Nat), (vals 0 = (.agg #[(Iy q 1 1), Iz] : Value)) ∧ (vals 4 = (.tuple #[.agg ((exR dF 2 ([] : List Ev) ([] : List Ent) 1 10 (⟨0, 0, 0, 1, 3, 1, 7⟩ : Cmd)).1.cells g).toArray, .bool ((exR dF 2 ([] : List Ev) ([] : List Ent) 1 10 (⟨0, 0, 0, 1, 3, 1, 7⟩ : Cmd)).2.1), Iv ((exR dF 2 ([] : List Ev) ([] : List Ent) 1 10 (⟨0, 0, 0, 1, 3, 1, 7⟩ : Cmd)).2.2)] : Value)) ∧ (vals 9 = (Ix I 0 : Value)) ∧ Sep G W ((Blk I #[Iv 0, Iv 0, Iv 0, (Iz), Iv 0, Iv 0, Iv 0, Iv 0, Iv 0, Iv 0] 41) :: (RowE (α := Fld) (shr G W) 110 (Iy p 1 1) [(⟨1, 1, true, []⟩ : Fld)]) :: T :: U :: (DepO g ((exR dF 2 ([] : List Ev) ([] : List Ent) 1 10 (⟨0, 0, 0, 1, 3, 1, 7⟩ : Cmd)).1.deps)) :: R :: S :: TT) O, fun _ _ => True, fun _ _ => True, fun _ _ => True, fun _ _ => True, fun _ _ => True, fun _ _ => True, fun _ _ => True, fun vals O => ∃ (q : Nat) (p : Nat) (g : Value) (I : Nat), (vals 0 = (.agg #[(Iy q 1 1), Iz] : Value)) ∧ (vals 4 = (.tuple #[.agg ((exR dF 2 ([] : List Ev) ([] : List Ent) 1 10 (⟨0, 0, 0, 1, 3, 1, 7⟩ : Cmd)).1.cells g).toArray, .bool ((exR dF 2 ([] : List Ev) ([] : List Ent) 1 10 (⟨0, 0, 0, 1, 3, 1, 7⟩ : Cmd)).2.1), Iv ((exR dF 2 ([] : List Ev) ([] : List Ent) 1 10 (⟨0, 0, 0, 1, 3, 1, 7⟩ : Cmd)).2.2)] : Value)) ∧ (vals 9 = (Ix I 0 : Value)) ∧ Sep G W ((Blk I ((exR dF 2 ([] : List Ev) ([] : List Ent) 1 10 (⟨0, 0, 0, 1, 3, 1, 7⟩ : Cmd)).1.cells g).toArray 41) :: (RowE (α := Fld) (shr G W) 110 (Iy p 1 1) [(⟨1, 1, true, []⟩ : Fld)]) :: T :: U :: (DepO g ((exR dF 2 ([] : List Ev) ([] : List Ent) 1 10 (⟨0, 0, 0, 1, 3, 1, 7⟩ : Cmd)).1.deps)) :: R :: S :: TT) O]) ((DepO e ((exR dF 2 ([] : List Ev) ([] : List Ent) 1 10 (⟨0, 0, 0, 1, 3, 0, 7⟩ : Cmd)).1.deps)) :: (Blk Z ((⟨0, 0, 0, 1, 3, 1, 7⟩ : Cmd).cells).toArray 28) :: (RowE (α := Fld) (shr G W) 110 (Iy ao 1 1) [(⟨1, 1, true, []⟩ : Fld)]) :: Rs) iU (RowE (α := Fld) (shr G W) 110 (Iy x 1 1) [(⟨1, 1, true, []⟩ : Fld)]) (SetO A 2 ([] : List Ev)) iT) (AF [fun _ => True, Vl 1 (Ix A 0), Vl 2 (Ix B 0), Vl 3 (.agg ((⟨0, 0, 0, 1, 3, 1, 7⟩ : Cmd).cells).toArray), fun _ => True, fun vals => ∀ (g : Value), vals 4 = (.tuple #[.agg ((exR dF 2 ([] : List Ev) ([] : List Ent) 1 10 (⟨0, 0, 0, 1, 3, 1, 7⟩ : Cmd)).1.cells g).toArray, .bool ((exR dF 2 ([] : List Ev) ([] : List Ent) 1 10 (⟨0, 0, 0, 1, 3, 1, 7⟩ : Cmd)).2.1), Iv ((exR dF 2 ([] : List Ev) ([] : List Ent) 1 10 (⟨0, 0, 0, 1, 3, 1, 7⟩ : Cmd)).2.2)] : Value) → vals 5 = (.tuple #[.agg ((exR dF 2 ([] : List Ev) ([] : List Ent) 1 10 (⟨0, 0, 0, 1, 3, 1, 7⟩ : Cmd)).1.cells g).toArray, .bool ((exR dF 2 ([] : List Ev) ([] : List Ent) 1 10 (⟨0, 0, 0, 1, 3, 1, 7⟩ : Cmd)).2.1), Iv ((exR dF 2 ([] : List Ev) ([] : List Ent) 1 10 (⟨0, 0, 0, 1, 3, 1, 7⟩ : Cmd)).2.2)] : Value), fun vals => ∀ (g : Value), vals 4 = (.tuple #[.agg ((exR dF 2 ([] : List Ev) ([] : List Ent) 1 10 (⟨0, 0, 0, 1, 3, 1, 7⟩ : Cmd)).1.cells g).toArray, .bool ((exR dF 2 ([] : List Ev) ([] : List Ent) 1 10 (⟨0, 0, 0, 1, 3, 1, 7⟩ : Cmd)).2.1), Iv ((exR dF 2 ([] : List Ev) ([] : List Ent) 1 10 (⟨0, 0, 0, 1, 3, 1, 7⟩ : Cmd)).2.2)] : Value) → vals 6 = (.agg ((exR dF 2 ([] : List Ev) ([] : List Ent) 1 10 (⟨0, 0, 0, 1, 3, 1, 7⟩ : Cmd)).1.cells g).toArray : Value), Vl 7 (.bool ((exR dF 2 ([] : List Ev) ([] : List Ent) 1 10 (⟨0, 0, 0, 1, 3, 1, 7⟩ : Cmd)).2.1)), Vl 8 (Iv ((exR dF 2 ([] : List Ev) ([] : List Ent) 1 10 (⟨0, 0, 0, 1, 3, 1, 7⟩ : Cmd)).2.2)), fun _ => True, fun _ => True, Vl 11 (.bool ((exR dF 2 ([] : List Ev) ([] : List Ent) 1 10 (⟨0, 0, 0, 1, 3, 1, 7⟩ : Cmd)).2.1)), Vl 12 (Iv ((exR dF 2 ([] : List Ev) ([] : List Ent) 1 10 (⟨0, 0, 0, 1, 3, 1, 7⟩ : Cmd)).2.2))]) [[], [], [], [], (rg 4), (rg 5), (rg 6), (rg 6), (rg 6), [], [0, 1, 2, 3, 4, 5, 6, 9], [0, 1, 2, 3, 4, 5, 6, 7, 9, 10], (rg 12)] [0, 4, 9, 10] [[0, 4], [0, 1, 4, 5], [0, 1, 4, 5], [0, 1, 4, 5], [1, 5], [3, 7], [3, 7], [3, 7, 15], [3, 7, 15], [0, 1, 3], [7], [15], [15]] (ce.pt5 fu) ⟨?_, fun _ _ _ _ _ _ => obl rfl (mV (Ix A 0) dR), fun _ _ _ _ _ _ => obl rfl (mV (Ix B 0) dR), ?_, ?_, ?_, ?_, ?_, ?_, ?_, ?_, fun _ _ _ _ _ fv => obl rfl (zQ (v := .bool ((exR dF 2 ([] : List Ev) ([] : List Ent) 1 10 (⟨0, 0, 0, 1, 3, 1, 7⟩ : Cmd)).2.1)) (fv 7 dc) dR), fun _ _ _ _ _ fw => obl rfl (zQ (v := Iv ((exR dF 2 ([] : List Ev) ([] : List Ent) 1 10 (⟨0, 0, 0, 1, 3, 1, 7⟩ : Cmd)).2.2)) (fw 8 dc) dR), trivial⟩ ?_ (hlocA := yV ⟨dT, dA, dA, dA, dT, fun vals u y h => fun g H => (y 5 (.inl rfl)).trans (h g ((y 4 (.inr dc)).symm.trans H)), fun vals u y h => fun g H => (y 6 (.inl rfl)).trans (h g ((y 4 (.inr dc)).symm.trans H)), dA, dA, dT, dT, dA, dA, trivial⟩)
 intro io vals w548 fx cg hA549
 have bd : io ∈ [0, 4] := fx
 simp only [List.mem_cons, List.not_mem_nil, or_false] at bd
 rcases bd with rfl | rfl
 have fy : Sep _ _ _ _ := cg
 refine obl rfl ((cL rT (xh  fy) ?_))
 rintro _ w555 ⟨q, p, rfl, fz⟩
 exact fun u y m => ⟨(Exists.intro q (Exists.intro p (And.intro y fz))), trivial⟩
 obtain ⟨I, P, fA⟩ := cg
 refine obl rfl ((cL rT (xh  fA) ?_))
 rintro _ w560 ⟨q, p, rfl, fB⟩
 exact fun u y m => ⟨(Exists.intro q (Exists.intro p (Exists.intro I (And.intro y (And.intro ((m 9 dc).trans P) fB))))), trivial⟩
 intro ip vals w573 fC ac hA574
 have be : ip ∈ [0, 1, 4, 5] := fC
 simp only [List.mem_cons, List.not_mem_nil, or_false] at be
 rcases be with rfl | rfl | rfl | rfl
 have fE : Sep _ _ _ _ := ac
 exact obl rfl (zf (k := 7) lT kT rfl rfl (CellsAt.all (fE.b5)) dR)
 obtain ⟨q, p, K, fF⟩ := ac
 exact obl rfl (zf (k := 7) lT kT rfl rfl (CellsAt.all (fF.b7)) dR)
 obtain ⟨I, P, fG⟩ := ac
 exact obl rfl (zf (k := 7) lT kT rfl rfl (CellsAt.all (fG.b6)) dR)
 obtain ⟨q, p, I, K, P, fH⟩ := ac
 exact obl rfl (zf (k := 7) lT kT rfl rfl (CellsAt.all (fH.b8)) dR)
 intro iq vals aH fI ch X
 have bf : iq ∈ [1, 5] := fI
 simp only [List.mem_cons, List.not_mem_nil, or_false] at bf
 rcases bf with rfl | rfl
 obtain ⟨q, p, K, fJ⟩ := ch
 refine obl rfl ?_
 have ci : Sep _ _ ((RowE (α := Fld) (shr G W) 110 (Iy p 1 1) [(⟨1, 1, true, []⟩ : Fld)]) :: _) _ := Sep.blkRow (src := (shr G W)) (l := [(⟨1, 1, true, []⟩ : Fld)]) (css := [(⟨1, 1, true, []⟩ : Fld).cells (Iz)]) (fJ.mv1) rfl ⟨fun _ _ => ⟨_, rfl, (RdS.nil _ _), (show Fld.Ok (⟨1, 1, true, []⟩ : Fld) from ⟨by decide, by decide⟩)⟩, trivial⟩ yqa (show 1 ≤ maxLen by decide)
 have fK := ci.r0
 have hr592s : _ * 48 ≤ _ := fK.2
 obtain ⟨cY, fL, cj, fM, fN⟩ := ci.lend
 have bg := RowE.rdB fL cj
 have hrd599s : _ * 48 ≤ _ := bg.small
 have ck : Sep _ _ ((RowE (α := Typ) (shr cY aH) 53 (Iy q 1 1) [(⟨[(⟨1, 1, true, []⟩ : Fld)]⟩ : Typ)]) :: _) _ := Sep.blkRow (src := (shr cY aH)) (l := [(⟨[(⟨1, 1, true, []⟩ : Fld)]⟩ : Typ)]) (css := [(⟨[(⟨1, 1, true, []⟩ : Fld)]⟩ : Typ).cells (Iy p 1 1)]) fM rfl ⟨fun _ _ => ⟨_, rfl, bg, (show Typ.Ok (⟨[(⟨1, 1, true, []⟩ : Fld)]⟩ : Typ) from ⟨⟩)⟩, trivial⟩ yqa (show 1 ≤ maxLen by decide)
 have fO := ck.r0
 have hr601s : _ * 24 ≤ _ := fO.2
 obtain ⟨G602, fP, cl, fQ, fR⟩ := ck.lend
 have bh := RowE.rdB fP cl
 have hrd608s : _ * 24 ≤ _ := bh.small
 obtain ⟨G610, cm, cn, fS, fT⟩ := (fQ.mv2).lend
 obtain ⟨vv616, m617, R618, hb619, fU, hr621⟩ := SetO.sh cm
 have hsm622 : (zt 2 ([] : List Ev)).length * 8 ≤ 140737488355328 := fU.small
 refine (zB (f := 11) (vals := [.agg (dF.cells (Iy q 1 1) (Iz)).toArray, Ix A 0, Ix B 0, Iv 1, Iv 10, .agg ((⟨0, 0, 0, 1, 3, 1, 7⟩ : Cmd).cells).toArray]) (cap := []) rfl (yE ⟨K, (X 1 dc), (X 2 dc), rfl, rfl, (X 3 dc), trivial⟩) oT (Zh (d := dF) (o := 1) (start := 10) (c := (⟨0, 0, 0, 1, 3, 1, 7⟩ : Cmd)) (RdS.base bh cn) (RdS.nil _ _) (⟨⟩ : Dcl.Ok dF) cm dc dc cf (RdS.base (RdS.base (RdS.base hKN cj) cl) cn) (fS.mv2) (Xq) ((Inv.nil dF)) ((Nat.zero_le _)) (List.Pairwise.nil) ((Good.nil (n := 2)).srt) ((Nat.zero_le _)) (dc)) ?_)
 rintro _ w625 ⟨g, rfl, fV⟩
 have fW := fT _ _ fV
 have fX := fR _ _ fW
 have fY := fN _ _ fX
 exact fun u y m => ⟨(Exists.intro q (Exists.intro p (Exists.intro g (And.intro ((m 0 dc).trans K) (And.intro y (fY.s10_acdefghij)))))), trivial⟩
 obtain ⟨q, p, I, K, P, fZ⟩ := ch
 refine obl rfl ?_
 have co : Sep _ _ ((RowE (α := Fld) (shr G W) 110 (Iy p 1 1) [(⟨1, 1, true, []⟩ : Fld)]) :: _) _ := Sep.blkRow (src := (shr G W)) (l := [(⟨1, 1, true, []⟩ : Fld)]) (css := [(⟨1, 1, true, []⟩ : Fld).cells (Iz)]) (fZ.mv1) rfl ⟨fun _ _ => ⟨_, rfl, (RdS.nil _ _), (show Fld.Ok (⟨1, 1, true, []⟩ : Fld) from ⟨by decide, by decide⟩)⟩, trivial⟩ yqa (show 1 ≤ maxLen by decide)
 have ga := co.r0
 have hr637s : _ * 48 ≤ _ := ga.2
 obtain ⟨cZ, gc, cp, gd, ge⟩ := co.lend
 have bi := RowE.rdB gc cp
 have hrd644s : _ * 48 ≤ _ := bi.small
 have cq : Sep _ _ ((RowE (α := Typ) (shr cZ aH) 53 (Iy q 1 1) [(⟨[(⟨1, 1, true, []⟩ : Fld)]⟩ : Typ)]) :: _) _ := Sep.blkRow (src := (shr cZ aH)) (l := [(⟨[(⟨1, 1, true, []⟩ : Fld)]⟩ : Typ)]) (css := [(⟨[(⟨1, 1, true, []⟩ : Fld)]⟩ : Typ).cells (Iy p 1 1)]) gd rfl ⟨fun _ _ => ⟨_, rfl, bi, (show Typ.Ok (⟨[(⟨1, 1, true, []⟩ : Fld)]⟩ : Typ) from ⟨⟩)⟩, trivial⟩ yqa (show 1 ≤ maxLen by decide)
 have gf := cq.r0
 have hr646s : _ * 24 ≤ _ := gf.2
 obtain ⟨G647, gg, cr, gh, gi⟩ := cq.lend
 have bj := RowE.rdB gg cr
 have hrd653s : _ * 24 ≤ _ := bj.small
 obtain ⟨G655, cs, ct, gj, gk⟩ := (gh.mv3).lend
 obtain ⟨vv661, m662, R663, hb664, gl, hr666⟩ := SetO.sh cs
 have hsm667 : (zt 2 ([] : List Ev)).length * 8 ≤ 140737488355328 := gl.small
 refine (zB (f := 11) (vals := [.agg (dF.cells (Iy q 1 1) (Iz)).toArray, Ix A 0, Ix B 0, Iv 1, Iv 10, .agg ((⟨0, 0, 0, 1, 3, 1, 7⟩ : Cmd).cells).toArray]) (cap := []) rfl (yE ⟨K, (X 1 dc), (X 2 dc), rfl, rfl, (X 3 dc), trivial⟩) oT (Zh (d := dF) (o := 1) (start := 10) (c := (⟨0, 0, 0, 1, 3, 1, 7⟩ : Cmd)) (RdS.base bj ct) (RdS.nil _ _) (⟨⟩ : Dcl.Ok dF) cs dc dc cf (RdS.base (RdS.base (RdS.base hKN cp) cr) ct) (gj.mv3) (Xq) ((Inv.nil dF)) ((Nat.zero_le _)) (List.Pairwise.nil) ((Good.nil (n := 2)).srt) ((Nat.zero_le _)) (dc)) ?_)
 rintro _ w670 ⟨g, rfl, gm⟩
 have gn := gk _ _ gm
 have go := gi _ _ gn
 have gp := ge _ _ go
 exact fun u y m => ⟨(Exists.intro q (Exists.intro p (Exists.intro g (Exists.intro I (And.intro ((m 0 dc).trans K) (And.intro y (And.intro ((m 9 dc).trans P) ((gp.s11_acdefghijk).mv4)))))))), trivial⟩
 intro ir vals w678 gq cu hA679
 have bk : ir ∈ [3, 7] := gq
 simp only [List.mem_cons, List.not_mem_nil, or_false] at bk
 rcases bk with rfl | rfl
 obtain ⟨q, p, g, K, E, hS682⟩ := cu
 refine obl rfl (ya (v := .tuple #[.agg ((exR dF 2 ([] : List Ev) ([] : List Ent) 1 10 (⟨0, 0, 0, 1, 3, 1, 7⟩ : Cmd)).1.cells g).toArray, .bool ((exR dF 2 ([] : List Ev) ([] : List Ent) 1 10 (⟨0, 0, 0, 1, 3, 1, 7⟩ : Cmd)).2.1), Iv ((exR dF 2 ([] : List Ev) ([] : List Ent) 1 10 (⟨0, 0, 0, 1, 3, 1, 7⟩ : Cmd)).2.2)]) E (fun u y m => ⟨rfl, ?_⟩))
 intro af H
 rw [m 4 (by decide)] at H; cases E.symm.trans H
 exact y
 obtain ⟨q, p, g, I, K, E, P, hS683⟩ := cu
 refine obl rfl (ya (v := .tuple #[.agg ((exR dF 2 ([] : List Ev) ([] : List Ent) 1 10 (⟨0, 0, 0, 1, 3, 1, 7⟩ : Cmd)).1.cells g).toArray, .bool ((exR dF 2 ([] : List Ev) ([] : List Ent) 1 10 (⟨0, 0, 0, 1, 3, 1, 7⟩ : Cmd)).2.1), Iv ((exR dF 2 ([] : List Ev) ([] : List Ent) 1 10 (⟨0, 0, 0, 1, 3, 1, 7⟩ : Cmd)).2.2)]) E (fun u y m => ⟨rfl, ?_⟩))
 intro af H
 rw [m 4 (by decide)] at H; cases E.symm.trans H
 exact y
 intro it vals w685 gr cv cw
 have bl : it ∈ [3, 7] := gr
 simp only [List.mem_cons, List.not_mem_nil, or_false] at bl
 rcases bl with rfl | rfl
 obtain ⟨q, p, g, K, E, hS689⟩ := cv
 let iP := ((exR dF 2 ([] : List Ev) ([] : List Ent) 1 10 (⟨0, 0, 0, 1, 3, 1, 7⟩ : Cmd)).1.cells g)
 have iu : vals 5 = (.tuple #[.agg iP.toArray, .bool ((exR dF 2 ([] : List Ev) ([] : List Ent) 1 10 (⟨0, 0, 0, 1, 3, 1, 7⟩ : Cmd)).2.1), Iv ((exR dF 2 ([] : List Ev) ([] : List Ent) 1 10 (⟨0, 0, 0, 1, 3, 1, 7⟩ : Cmd)).2.2)] : Value) := cw 5 dc g E
 refine obl rfl (zk (vs := [.agg iP.toArray, .bool ((exR dF 2 ([] : List Ev) ([] : List Ent) 1 10 (⟨0, 0, 0, 1, 3, 1, 7⟩ : Cmd)).2.1), Iv ((exR dF 2 ([] : List Ev) ([] : List Ent) 1 10 (⟨0, 0, 0, 1, 3, 1, 7⟩ : Cmd)).2.2)]) (i := 0) (v := .agg iP.toArray) iu rfl (fun u y m => ⟨rfl, ?_⟩))
 intro af H
 rw [m 4 (by decide)] at H; cases E.symm.trans H
 exact y
 obtain ⟨q, p, g, I, K, E, P, hS691⟩ := cv
 let iQ := ((exR dF 2 ([] : List Ev) ([] : List Ent) 1 10 (⟨0, 0, 0, 1, 3, 1, 7⟩ : Cmd)).1.cells g)
 have iv : vals 5 = (.tuple #[.agg iQ.toArray, .bool ((exR dF 2 ([] : List Ev) ([] : List Ent) 1 10 (⟨0, 0, 0, 1, 3, 1, 7⟩ : Cmd)).2.1), Iv ((exR dF 2 ([] : List Ev) ([] : List Ent) 1 10 (⟨0, 0, 0, 1, 3, 1, 7⟩ : Cmd)).2.2)] : Value) := cw 5 dc g E
 refine obl rfl (zk (vs := [.agg iQ.toArray, .bool ((exR dF 2 ([] : List Ev) ([] : List Ent) 1 10 (⟨0, 0, 0, 1, 3, 1, 7⟩ : Cmd)).2.1), Iv ((exR dF 2 ([] : List Ev) ([] : List Ent) 1 10 (⟨0, 0, 0, 1, 3, 1, 7⟩ : Cmd)).2.2)]) (i := 0) (v := .agg iQ.toArray) iv rfl (fun u y m => ⟨rfl, ?_⟩))
 intro af H
 rw [m 4 (by decide)] at H; cases E.symm.trans H
 exact y
 intro iw vals w694 gs aI aJ
 have bm : iw ∈ [3, 7, 15] := gs
 simp only [List.mem_cons, List.not_mem_nil, or_false] at bm
 rcases bm with rfl | rfl | rfl
 obtain ⟨q, p, g, K, E, hS698⟩ := aI
 let jh := ((exR dF 2 ([] : List Ev) ([] : List Ent) 1 10 (⟨0, 0, 0, 1, 3, 1, 7⟩ : Cmd)).1.cells g)
 have ix : vals 5 = (.tuple #[.agg jh.toArray, .bool ((exR dF 2 ([] : List Ev) ([] : List Ent) 1 10 (⟨0, 0, 0, 1, 3, 1, 7⟩ : Cmd)).2.1), Iv ((exR dF 2 ([] : List Ev) ([] : List Ent) 1 10 (⟨0, 0, 0, 1, 3, 1, 7⟩ : Cmd)).2.2)] : Value) := aJ 5 dc g E
 exact obl rfl (zk (vs := [.agg jh.toArray, .bool ((exR dF 2 ([] : List Ev) ([] : List Ent) 1 10 (⟨0, 0, 0, 1, 3, 1, 7⟩ : Cmd)).2.1), Iv ((exR dF 2 ([] : List Ev) ([] : List Ent) 1 10 (⟨0, 0, 0, 1, 3, 1, 7⟩ : Cmd)).2.2)]) (i := 1) (v := .bool ((exR dF 2 ([] : List Ev) ([] : List Ent) 1 10 (⟨0, 0, 0, 1, 3, 1, 7⟩ : Cmd)).2.1)) ix rfl dR)
 obtain ⟨q, p, g, I, K, E, P, hS700⟩ := aI
 let ji := ((exR dF 2 ([] : List Ev) ([] : List Ent) 1 10 (⟨0, 0, 0, 1, 3, 1, 7⟩ : Cmd)).1.cells g)
 have iy : vals 5 = (.tuple #[.agg ji.toArray, .bool ((exR dF 2 ([] : List Ev) ([] : List Ent) 1 10 (⟨0, 0, 0, 1, 3, 1, 7⟩ : Cmd)).2.1), Iv ((exR dF 2 ([] : List Ev) ([] : List Ent) 1 10 (⟨0, 0, 0, 1, 3, 1, 7⟩ : Cmd)).2.2)] : Value) := aJ 5 dc g E
 exact obl rfl (zk (vs := [.agg ji.toArray, .bool ((exR dF 2 ([] : List Ev) ([] : List Ent) 1 10 (⟨0, 0, 0, 1, 3, 1, 7⟩ : Cmd)).2.1), Iv ((exR dF 2 ([] : List Ev) ([] : List Ent) 1 10 (⟨0, 0, 0, 1, 3, 1, 7⟩ : Cmd)).2.2)]) (i := 1) (v := .bool ((exR dF 2 ([] : List Ev) ([] : List Ent) 1 10 (⟨0, 0, 0, 1, 3, 1, 7⟩ : Cmd)).2.1)) iy rfl dR)
 obtain ⟨q, p, g, I, K, E, P, hS702⟩ := aI
 let jj := ((exR dF 2 ([] : List Ev) ([] : List Ent) 1 10 (⟨0, 0, 0, 1, 3, 1, 7⟩ : Cmd)).1.cells g)
 have iz : vals 5 = (.tuple #[.agg jj.toArray, .bool ((exR dF 2 ([] : List Ev) ([] : List Ent) 1 10 (⟨0, 0, 0, 1, 3, 1, 7⟩ : Cmd)).2.1), Iv ((exR dF 2 ([] : List Ev) ([] : List Ent) 1 10 (⟨0, 0, 0, 1, 3, 1, 7⟩ : Cmd)).2.2)] : Value) := aJ 5 dc g E
 exact obl rfl (zk (vs := [.agg jj.toArray, .bool ((exR dF 2 ([] : List Ev) ([] : List Ent) 1 10 (⟨0, 0, 0, 1, 3, 1, 7⟩ : Cmd)).2.1), Iv ((exR dF 2 ([] : List Ev) ([] : List Ent) 1 10 (⟨0, 0, 0, 1, 3, 1, 7⟩ : Cmd)).2.2)]) (i := 1) (v := .bool ((exR dF 2 ([] : List Ev) ([] : List Ent) 1 10 (⟨0, 0, 0, 1, 3, 1, 7⟩ : Cmd)).2.1)) iz rfl dR)
 intro iA vals w705 gt aK aL
 have bn : iA ∈ [3, 7, 15] := gt
 simp only [List.mem_cons, List.not_mem_nil, or_false] at bn
 rcases bn with rfl | rfl | rfl
 obtain ⟨q, p, g, K, E, hS709⟩ := aK
 let jk := ((exR dF 2 ([] : List Ev) ([] : List Ent) 1 10 (⟨0, 0, 0, 1, 3, 1, 7⟩ : Cmd)).1.cells g)
 have iB : vals 5 = (.tuple #[.agg jk.toArray, .bool ((exR dF 2 ([] : List Ev) ([] : List Ent) 1 10 (⟨0, 0, 0, 1, 3, 1, 7⟩ : Cmd)).2.1), Iv ((exR dF 2 ([] : List Ev) ([] : List Ent) 1 10 (⟨0, 0, 0, 1, 3, 1, 7⟩ : Cmd)).2.2)] : Value) := aL 5 dc g E
 exact obl rfl (zk (vs := [.agg jk.toArray, .bool ((exR dF 2 ([] : List Ev) ([] : List Ent) 1 10 (⟨0, 0, 0, 1, 3, 1, 7⟩ : Cmd)).2.1), Iv ((exR dF 2 ([] : List Ev) ([] : List Ent) 1 10 (⟨0, 0, 0, 1, 3, 1, 7⟩ : Cmd)).2.2)]) (i := 2) (v := Iv ((exR dF 2 ([] : List Ev) ([] : List Ent) 1 10 (⟨0, 0, 0, 1, 3, 1, 7⟩ : Cmd)).2.2)) iB rfl dR)
 obtain ⟨q, p, g, I, K, E, P, hS711⟩ := aK
 let jl := ((exR dF 2 ([] : List Ev) ([] : List Ent) 1 10 (⟨0, 0, 0, 1, 3, 1, 7⟩ : Cmd)).1.cells g)
 have iC : vals 5 = (.tuple #[.agg jl.toArray, .bool ((exR dF 2 ([] : List Ev) ([] : List Ent) 1 10 (⟨0, 0, 0, 1, 3, 1, 7⟩ : Cmd)).2.1), Iv ((exR dF 2 ([] : List Ev) ([] : List Ent) 1 10 (⟨0, 0, 0, 1, 3, 1, 7⟩ : Cmd)).2.2)] : Value) := aL 5 dc g E
 exact obl rfl (zk (vs := [.agg jl.toArray, .bool ((exR dF 2 ([] : List Ev) ([] : List Ent) 1 10 (⟨0, 0, 0, 1, 3, 1, 7⟩ : Cmd)).2.1), Iv ((exR dF 2 ([] : List Ev) ([] : List Ent) 1 10 (⟨0, 0, 0, 1, 3, 1, 7⟩ : Cmd)).2.2)]) (i := 2) (v := Iv ((exR dF 2 ([] : List Ev) ([] : List Ent) 1 10 (⟨0, 0, 0, 1, 3, 1, 7⟩ : Cmd)).2.2)) iC rfl dR)
 obtain ⟨q, p, g, I, K, E, P, hS713⟩ := aK
 let jm := ((exR dF 2 ([] : List Ev) ([] : List Ent) 1 10 (⟨0, 0, 0, 1, 3, 1, 7⟩ : Cmd)).1.cells g)
 have iD : vals 5 = (.tuple #[.agg jm.toArray, .bool ((exR dF 2 ([] : List Ev) ([] : List Ent) 1 10 (⟨0, 0, 0, 1, 3, 1, 7⟩ : Cmd)).2.1), Iv ((exR dF 2 ([] : List Ev) ([] : List Ent) 1 10 (⟨0, 0, 0, 1, 3, 1, 7⟩ : Cmd)).2.2)] : Value) := aL 5 dc g E
 exact obl rfl (zk (vs := [.agg jm.toArray, .bool ((exR dF 2 ([] : List Ev) ([] : List Ent) 1 10 (⟨0, 0, 0, 1, 3, 1, 7⟩ : Cmd)).2.1), Iv ((exR dF 2 ([] : List Ev) ([] : List Ent) 1 10 (⟨0, 0, 0, 1, 3, 1, 7⟩ : Cmd)).2.2)]) (i := 2) (v := Iv ((exR dF 2 ([] : List Ev) ([] : List Ent) 1 10 (⟨0, 0, 0, 1, 3, 1, 7⟩ : Cmd)).2.2)) iD rfl dR)
 intro iE vals w716 gu aM hA717
 have bp : iE ∈ [0, 1, 3] := gu
 simp only [List.mem_cons, List.not_mem_nil, or_false] at bp
 rcases bp with rfl | rfl | rfl
 have gv : Sep _ _ _ _ := aM
 refine obl rfl ((zq mT ?_))
 intro w723 I gw
 exact fun u y m => ⟨(Exists.intro I (And.intro y (gv.new gw))), trivial⟩
 obtain ⟨q, p, K, gx⟩ := aM
 refine obl rfl ((zq mT ?_))
 intro w728 I gy
 exact fun u y m => ⟨(Exists.intro q (Exists.intro p (Exists.intro I (And.intro ((m 0 dc).trans K) (And.intro y ((gx.new gy).s10_bcadefghij)))))), trivial⟩
 obtain ⟨q, p, g, K, E, gz⟩ := aM
 refine obl rfl ((zq mT ?_))
 intro w734 I gA
 exact fun u y m => ⟨(Exists.intro q (Exists.intro p (Exists.intro g (Exists.intro I (And.intro ((m 0 dc).trans K) (And.intro ((m 4 dc).trans E) (And.intro y (gz.new gA)))))))), trivial⟩
 intro iF vals w737 gB gC gD
 have bq : iF ∈ [7] := gB
 simp only [List.mem_cons, List.not_mem_nil, or_false] at bq
 subst bq
 obtain ⟨q, p, g, I, K, E, P, aN⟩ := gC
 let iR := ((exR dF 2 ([] : List Ev) ([] : List Ent) 1 10 (⟨0, 0, 0, 1, 3, 1, 7⟩ : Cmd)).1.cells g)
 refine obl rfl ?_
 have iG : vals 6 = (.agg iR.toArray : Value) := gD 6 dc g E
 refine (zp (v := .agg iR.toArray) (c' := iR.toArray) nT P iG (aN.b0) (zY ⟨rfl, rfl, rfl, (aN.depSl (i := 4) rfl).one, rfl, rfl, rfl, rfl, rfl, rfl, trivial⟩) yqc rfl ?_)
 intro w743 gE
 exact fun u y m => ⟨(Exists.intro q (Exists.intro p (Exists.intro g (Exists.intro I (And.intro ((m 0 dc).trans K) (And.intro ((m 4 dc).trans E) (And.intro ((m 9 dc).trans P) (aN.pt0 gE)))))))), trivial⟩
 intro vals w758 gF gG
 obtain ⟨q, p, g, I, K, E, P, cx⟩ := gF
 have iH := gG 12 dc
 refine zT (kv := [(0, .bool false), (15, .agg #[(Iy bJ 1 1), Iz]), (16, .tuple #[Ix A 0, Ix B 0]), (14, .tuple #[Ix A 0, Ix B 0]), (17, Ix A 0), (18, Ix B 0), (1, Ix A 0), (2, Ix B 0), (19, Ix A 0), (20, .bool false), (21, .bool false), (22, Ix B 0), (23, .bool false), (24, .bool false), (25, .agg ((⟨0, 0, 0, 1, 3, 0, 7⟩ : Cmd).cells).toArray), (3, Ix Z 0), (4, Ix C 0), (5, .bool ((exR dF 2 ([] : List Ev) ([] : List Ent) 1 10 (⟨0, 0, 0, 1, 3, 0, 7⟩ : Cmd)).2.1)), (6, Iv ((exR dF 2 ([] : List Ev) ([] : List Ent) 1 10 (⟨0, 0, 0, 1, 3, 0, 7⟩ : Cmd)).2.2)), (35, Ix Z 5), (9, Iv ((exR dF 2 ([] : List Ev) ([] : List Ent) 1 10 (⟨0, 0, 0, 1, 3, 1, 7⟩ : Cmd)).2.2))]) ⟨rfl, rfl, rfl, rfl, rfl, rfl, rfl, rfl, rfl, rfl, rfl, rfl, rfl, rfl, rfl, rfl, rfl, rfl, rfl, rfl, (by exact iH), trivial⟩ (fun ρw758 => ?_)
 refine zd (za (R0 fun _ => st (Xs rfl (stn (yw (v := Iv (-1)) (c := [Iv 0, Iv 0, Iv 0, Iv 1, Iv 3, Iv 1, Iv 7]) (c' := [Iv 0, Iv 0, Iv 0, Iv 1, Iv 3, Iv (-1), Iv 7]) uT rfl rfl (cx.b8) rfl rfl rfl ?_)))))
 intro w763 gH
 have ok765 : Cmd.Ok (⟨0, 0, 0, 1, 3, -1, 7⟩ : Cmd) := ⟨(show InR (0) from dc), (show InR (0) from dc), (show InR (0) from dc), (show InR (1) from dc), (show InR (3) from dc), (show InR (-1) from dc), (show InR (7) from dc)⟩
 have cy := cx.pt8 gH
 refine zd (za (R0 fun _ => st (Wu rfl (stn (yw (v := Iv (-1)) (c := [Iv 0, Iv 0, Iv 0, Iv 1, Iv 3, Iv (-1), Iv 7]) (c' := [Iv 0, Iv 0, Iv 0, Iv 1, Iv (-1), Iv (-1), Iv 7]) uT rfl rfl (cy.b8) rfl rfl rfl ?_)))))
 intro w767 gI
 have cz : Cmd.Ok (⟨0, 0, 0, 1, -1, -1, 7⟩ : Cmd) := ⟨(show InR (0) from dc), (show InR (0) from dc), (show InR (0) from dc), (show InR (1) from dc), (show InR (-1) from dc), (show InR (-1) from dc), (show InR (7) from dc)⟩
 refine zd (za ?_)
 refine WD6 ((fun TT R S T U => WF [fun vals O => Sep G W (R :: S :: T :: U :: TT) O, fun vals O => ∃ (s : Nat) (t : Nat), (vals 0 = (.agg #[(Iy s 1 1), Iz] : Value)) ∧ Sep G W ((Blk s #[(Iy t 1 1)] 53) :: (Blk t #[Iv 1, Iv 1, .bool true, Iz] 110) :: R :: S :: T :: U :: TT) O, fun _ _ => True, fun vals O => ∃ (s : Nat) (t : Nat) (j : Value), (vals 0 = (.agg #[(Iy s 1 1), Iz] : Value)) ∧ (vals 4 = (.tuple #[.agg ((exR dF 2 ([] : List Ev) ([] : List Ent) 1 10 (⟨0, 0, 0, 1, -1, -1, 7⟩ : Cmd)).1.cells j).toArray, .bool ((exR dF 2 ([] : List Ev) ([] : List Ent) 1 10 (⟨0, 0, 0, 1, -1, -1, 7⟩ : Cmd)).2.1), Iv ((exR dF 2 ([] : List Ev) ([] : List Ent) 1 10 (⟨0, 0, 0, 1, -1, -1, 7⟩ : Cmd)).2.2)] : Value)) ∧ Sep G W ((RowE (α := Fld) (shr G W) 110 (Iy t 1 1) [(⟨1, 1, true, []⟩ : Fld)]) :: T :: U :: (DepO j ((exR dF 2 ([] : List Ev) ([] : List Ent) 1 10 (⟨0, 0, 0, 1, -1, -1, 7⟩ : Cmd)).1.deps)) :: R :: S :: TT) O, fun vals O => ∃ (J : Nat), (vals 9 = (Ix J 0 : Value)) ∧ Sep G W ((Blk J #[Iv 0, Iv 0, Iv 0, (Iz), Iv 0, Iv 0, Iv 0, Iv 0, Iv 0, Iv 0] 41) :: R :: S :: T :: U :: TT) O, fun vals O => ∃ (s : Nat) (t : Nat) (J : Nat), (vals 0 = (.agg #[(Iy s 1 1), Iz] : Value)) ∧ (vals 9 = (Ix J 0 : Value)) ∧ Sep G W ((Blk s #[(Iy t 1 1)] 53) :: (Blk t #[Iv 1, Iv 1, .bool true, Iz] 110) :: (Blk J #[Iv 0, Iv 0, Iv 0, (Iz), Iv 0, Iv 0, Iv 0, Iv 0, Iv 0, Iv 0] 41) :: R :: S :: T :: U :: TT) O, fun _ _ => True, fun vals O => ∃ (s : Nat) (t : Nat) (j : Value) (J : Nat), (vals 0 = (.agg #[(Iy s 1 1), Iz] : Value)) ∧ (vals 4 = (.tuple #[.agg ((exR dF 2 ([] : List Ev) ([] : List Ent) 1 10 (⟨0, 0, 0, 1, -1, -1, 7⟩ : Cmd)).1.cells j).toArray, .bool ((exR dF 2 ([] : List Ev) ([] : List Ent) 1 10 (⟨0, 0, 0, 1, -1, -1, 7⟩ : Cmd)).2.1), Iv ((exR dF 2 ([] : List Ev) ([] : List Ent) 1 10 (⟨0, 0, 0, 1, -1, -1, 7⟩ : Cmd)).2.2)] : Value)) ∧ (vals 9 = (Ix J 0 : Value)) ∧ Sep G W ((Blk J #[Iv 0, Iv 0, Iv 0, (Iz), Iv 0, Iv 0, Iv 0, Iv 0, Iv 0, Iv 0] 41) :: (RowE (α := Fld) (shr G W) 110 (Iy t 1 1) [(⟨1, 1, true, []⟩ : Fld)]) :: T :: U :: (DepO j ((exR dF 2 ([] : List Ev) ([] : List Ent) 1 10 (⟨0, 0, 0, 1, -1, -1, 7⟩ : Cmd)).1.deps)) :: R :: S :: TT) O, fun _ _ => True, fun _ _ => True, fun _ _ => True, fun _ _ => True, fun _ _ => True, fun _ _ => True, fun _ _ => True, fun vals O => ∃ (s : Nat) (t : Nat) (j : Value) (J : Nat), (vals 0 = (.agg #[(Iy s 1 1), Iz] : Value)) ∧ (vals 4 = (.tuple #[.agg ((exR dF 2 ([] : List Ev) ([] : List Ent) 1 10 (⟨0, 0, 0, 1, -1, -1, 7⟩ : Cmd)).1.cells j).toArray, .bool ((exR dF 2 ([] : List Ev) ([] : List Ent) 1 10 (⟨0, 0, 0, 1, -1, -1, 7⟩ : Cmd)).2.1), Iv ((exR dF 2 ([] : List Ev) ([] : List Ent) 1 10 (⟨0, 0, 0, 1, -1, -1, 7⟩ : Cmd)).2.2)] : Value)) ∧ (vals 9 = (Ix J 0 : Value)) ∧ Sep G W ((Blk J ((exR dF 2 ([] : List Ev) ([] : List Ent) 1 10 (⟨0, 0, 0, 1, -1, -1, 7⟩ : Cmd)).1.cells j).toArray 41) :: (RowE (α := Fld) (shr G W) 110 (Iy t 1 1) [(⟨1, 1, true, []⟩ : Fld)]) :: T :: U :: (DepO j ((exR dF 2 ([] : List Ev) ([] : List Ent) 1 10 (⟨0, 0, 0, 1, -1, -1, 7⟩ : Cmd)).1.deps)) :: R :: S :: TT) O]) ((DepO g ((exR dF 2 ([] : List Ev) ([] : List Ent) 1 10 (⟨0, 0, 0, 1, 3, 1, 7⟩ : Cmd)).1.deps)) :: iU :: (RowE (α := Fld) (shr G W) 110 (Iy x 1 1) [(⟨1, 1, true, []⟩ : Fld)]) :: (DepO e ((exR dF 2 ([] : List Ev) ([] : List Ent) 1 10 (⟨0, 0, 0, 1, 3, 0, 7⟩ : Cmd)).1.deps)) :: (Blk Z ((⟨0, 0, 0, 1, -1, -1, 7⟩ : Cmd).cells).toArray 28) :: (RowE (α := Fld) (shr G W) 110 (Iy ao 1 1) [(⟨1, 1, true, []⟩ : Fld)]) :: Rs) (Blk I ((exR dF 2 ([] : List Ev) ([] : List Ent) 1 10 (⟨0, 0, 0, 1, 3, 1, 7⟩ : Cmd)).1.cells g).toArray 41) (RowE (α := Fld) (shr G W) 110 (Iy p 1 1) [(⟨1, 1, true, []⟩ : Fld)]) (SetO A 2 ([] : List Ev)) iT) (AF [fun _ => True, Vl 1 (Ix A 0), Vl 2 (Ix B 0), Vl 3 (.agg ((⟨0, 0, 0, 1, -1, -1, 7⟩ : Cmd).cells).toArray), fun _ => True, fun vals => ∀ (j : Value), vals 4 = (.tuple #[.agg ((exR dF 2 ([] : List Ev) ([] : List Ent) 1 10 (⟨0, 0, 0, 1, -1, -1, 7⟩ : Cmd)).1.cells j).toArray, .bool ((exR dF 2 ([] : List Ev) ([] : List Ent) 1 10 (⟨0, 0, 0, 1, -1, -1, 7⟩ : Cmd)).2.1), Iv ((exR dF 2 ([] : List Ev) ([] : List Ent) 1 10 (⟨0, 0, 0, 1, -1, -1, 7⟩ : Cmd)).2.2)] : Value) → vals 5 = (.tuple #[.agg ((exR dF 2 ([] : List Ev) ([] : List Ent) 1 10 (⟨0, 0, 0, 1, -1, -1, 7⟩ : Cmd)).1.cells j).toArray, .bool ((exR dF 2 ([] : List Ev) ([] : List Ent) 1 10 (⟨0, 0, 0, 1, -1, -1, 7⟩ : Cmd)).2.1), Iv ((exR dF 2 ([] : List Ev) ([] : List Ent) 1 10 (⟨0, 0, 0, 1, -1, -1, 7⟩ : Cmd)).2.2)] : Value), fun vals => ∀ (j : Value), vals 4 = (.tuple #[.agg ((exR dF 2 ([] : List Ev) ([] : List Ent) 1 10 (⟨0, 0, 0, 1, -1, -1, 7⟩ : Cmd)).1.cells j).toArray, .bool ((exR dF 2 ([] : List Ev) ([] : List Ent) 1 10 (⟨0, 0, 0, 1, -1, -1, 7⟩ : Cmd)).2.1), Iv ((exR dF 2 ([] : List Ev) ([] : List Ent) 1 10 (⟨0, 0, 0, 1, -1, -1, 7⟩ : Cmd)).2.2)] : Value) → vals 6 = (.agg ((exR dF 2 ([] : List Ev) ([] : List Ent) 1 10 (⟨0, 0, 0, 1, -1, -1, 7⟩ : Cmd)).1.cells j).toArray : Value), Vl 7 (.bool ((exR dF 2 ([] : List Ev) ([] : List Ent) 1 10 (⟨0, 0, 0, 1, -1, -1, 7⟩ : Cmd)).2.1)), Vl 8 (Iv ((exR dF 2 ([] : List Ev) ([] : List Ent) 1 10 (⟨0, 0, 0, 1, -1, -1, 7⟩ : Cmd)).2.2)), fun _ => True, fun _ => True, Vl 11 (.bool ((exR dF 2 ([] : List Ev) ([] : List Ent) 1 10 (⟨0, 0, 0, 1, -1, -1, 7⟩ : Cmd)).2.1)), Vl 12 (Iv ((exR dF 2 ([] : List Ev) ([] : List Ent) 1 10 (⟨0, 0, 0, 1, -1, -1, 7⟩ : Cmd)).2.2))]) [[], [], [], [], (rg 4), (rg 5), (rg 6), (rg 6), (rg 6), [], [0, 1, 2, 3, 4, 5, 6, 9], [0, 1, 2, 3, 4, 5, 6, 7, 9, 10], (rg 12)] [0, 4, 9, 10] [[0, 4], [0, 1, 4, 5], [0, 1, 4, 5], [0, 1, 4, 5], [1, 5], [3, 7], [3, 7], [3, 7, 15], [3, 7, 15], [0, 1, 3], [7], [15], [15]] (cy.pt8 gI) ⟨?_, fun _ _ _ _ _ _ => obl rfl (mV (Ix A 0) dR), fun _ _ _ _ _ _ => obl rfl (mV (Ix B 0) dR), ?_, ?_, ?_, ?_, ?_, ?_, ?_, ?_, fun _ _ _ _ _ da => obl rfl (zQ (v := .bool ((exR dF 2 ([] : List Ev) ([] : List Ent) 1 10 (⟨0, 0, 0, 1, -1, -1, 7⟩ : Cmd)).2.1)) (da 7 dc) dR), fun _ _ _ _ _ db => obl rfl (zQ (v := Iv ((exR dF 2 ([] : List Ev) ([] : List Ent) 1 10 (⟨0, 0, 0, 1, -1, -1, 7⟩ : Cmd)).2.2)) (db 8 dc) dR), trivial⟩ ?_ (hlocA := yV ⟨dT, dA, dA, dA, dT, fun vals u y h => fun j H => (y 5 (.inl rfl)).trans (h j ((y 4 (.inr dc)).symm.trans H)), fun vals u y h => fun j H => (y 6 (.inl rfl)).trans (h j ((y 4 (.inr dc)).symm.trans H)), dA, dA, dT, dT, dA, dA, trivial⟩)
 intro iI vals w915 gJ cC hA916
 have br : iI ∈ [0, 4] := gJ
 simp only [List.mem_cons, List.not_mem_nil, or_false] at br
 rcases br with rfl | rfl
 have gK : Sep _ _ _ _ := cC
 refine obl rfl ((cL rT (xh  gK) ?_))
 rintro _ w922 ⟨s, t, rfl, gL⟩
 exact fun u y m => ⟨(Exists.intro s (Exists.intro t (And.intro y gL))), trivial⟩
 obtain ⟨J, Q, gM⟩ := cC
 refine obl rfl ((cL rT (xh  gM) ?_))
 rintro _ w927 ⟨s, t, rfl, gN⟩
 exact fun u y m => ⟨(Exists.intro s (Exists.intro t (Exists.intro J (And.intro y (And.intro ((m 9 dc).trans Q) gN))))), trivial⟩
 intro iJ vals w940 gO ad hA941
 have bs : iJ ∈ [0, 1, 4, 5] := gO
 simp only [List.mem_cons, List.not_mem_nil, or_false] at bs
 rcases bs with rfl | rfl | rfl | rfl
 have gP : Sep _ _ _ _ := ad
 exact obl rfl (zf (k := 7) lT kT rfl rfl (CellsAt.all (gP.b8)) dR)
 obtain ⟨s, t, L, gQ⟩ := ad
 exact obl rfl (zf (k := 7) lT kT rfl rfl (CellsAt.all (gQ.b10)) dR)
 obtain ⟨J, Q, gR⟩ := ad
 exact obl rfl (zf (k := 7) lT kT rfl rfl (CellsAt.all (gR.b9)) dR)
 obtain ⟨s, t, J, L, Q, gS⟩ := ad
 exact obl rfl (zf (k := 7) lT kT rfl rfl (CellsAt.all (gS.b11)) dR)
 intro iK vals aO gT cD Y
 have bt : iK ∈ [1, 5] := gT
 simp only [List.mem_cons, List.not_mem_nil, or_false] at bt
 rcases bt with rfl | rfl
 obtain ⟨s, t, L, gU⟩ := cD
 refine obl rfl ?_
 have cE : Sep _ _ ((RowE (α := Fld) (shr G W) 110 (Iy t 1 1) [(⟨1, 1, true, []⟩ : Fld)]) :: _) _ := Sep.blkRow (src := (shr G W)) (l := [(⟨1, 1, true, []⟩ : Fld)]) (css := [(⟨1, 1, true, []⟩ : Fld).cells (Iz)]) (gU.mv1) rfl ⟨fun _ _ => ⟨_, rfl, (RdS.nil _ _), (show Fld.Ok (⟨1, 1, true, []⟩ : Fld) from ⟨by decide, by decide⟩)⟩, trivial⟩ yqa (show 1 ≤ maxLen by decide)
 have gV := cE.r0
 have hr959s : _ * 48 ≤ _ := gV.2
 obtain ⟨dd, gW, cF, gX, gY⟩ := cE.lend
 have bu := RowE.rdB gW cF
 have hrd966s : _ * 48 ≤ _ := bu.small
 have cG : Sep _ _ ((RowE (α := Typ) (shr dd aO) 53 (Iy s 1 1) [(⟨[(⟨1, 1, true, []⟩ : Fld)]⟩ : Typ)]) :: _) _ := Sep.blkRow (src := (shr dd aO)) (l := [(⟨[(⟨1, 1, true, []⟩ : Fld)]⟩ : Typ)]) (css := [(⟨[(⟨1, 1, true, []⟩ : Fld)]⟩ : Typ).cells (Iy t 1 1)]) gX rfl ⟨fun _ _ => ⟨_, rfl, bu, (show Typ.Ok (⟨[(⟨1, 1, true, []⟩ : Fld)]⟩ : Typ) from ⟨⟩)⟩, trivial⟩ yqa (show 1 ≤ maxLen by decide)
 have gZ := cG.r0
 have hr968s : _ * 24 ≤ _ := gZ.2
 obtain ⟨G969, ha, cH, hb, hc⟩ := cG.lend
 have bv := RowE.rdB ha cH
 have hrd975s : _ * 24 ≤ _ := bv.small
 obtain ⟨G977, cI, cJ, hd, he⟩ := (hb.mv2).lend
 obtain ⟨vv983, m984, R985, hb986, hf, hr988⟩ := SetO.sh cI
 have hsm989 : (zt 2 ([] : List Ev)).length * 8 ≤ 140737488355328 := hf.small
 refine (zB (f := 11) (vals := [.agg (dF.cells (Iy s 1 1) (Iz)).toArray, Ix A 0, Ix B 0, Iv 1, Iv 10, .agg ((⟨0, 0, 0, 1, -1, -1, 7⟩ : Cmd).cells).toArray]) (cap := []) rfl (yE ⟨L, (Y 1 dc), (Y 2 dc), rfl, rfl, (Y 3 dc), trivial⟩) oT (Zh (d := dF) (o := 1) (start := 10) (c := (⟨0, 0, 0, 1, -1, -1, 7⟩ : Cmd)) (RdS.base bv cJ) (RdS.nil _ _) (⟨⟩ : Dcl.Ok dF) cI dc dc cz (RdS.base (RdS.base (RdS.base hKN cF) cH) cJ) (hd.mv2) (Xq) ((Inv.nil dF)) ((Nat.zero_le _)) (List.Pairwise.nil) ((Good.nil (n := 2)).srt) ((Nat.zero_le _)) (dc)) ?_)
 rintro _ w992 ⟨j, rfl, hg⟩
 have hh := he _ _ hg
 have hi := hc _ _ hh
 have hj := gY _ _ hi
 exact fun u y m => ⟨(Exists.intro s (Exists.intro t (Exists.intro j (And.intro ((m 0 dc).trans L) (And.intro y (hj.s13_acdefghijklm)))))), trivial⟩
 obtain ⟨s, t, J, L, Q, hk⟩ := cD
 refine obl rfl ?_
 have bw : Sep _ _ ((RowE (α := Fld) (shr G W) 110 (Iy t 1 1) [(⟨1, 1, true, []⟩ : Fld)]) :: _) _ := Sep.blkRow (src := (shr G W)) (l := [(⟨1, 1, true, []⟩ : Fld)]) (css := [(⟨1, 1, true, []⟩ : Fld).cells (Iz)]) (hk.mv1) rfl ⟨fun _ _ => ⟨_, rfl, (RdS.nil _ _), (show Fld.Ok (⟨1, 1, true, []⟩ : Fld) from ⟨by decide, by decide⟩)⟩, trivial⟩ yqa (show 1 ≤ maxLen by decide)
 have de := bw.r0
 have hr1004s : _ * 48 ≤ _ := de.2
 obtain ⟨cK, df, bx, dg, dh⟩ := bw.lend
 have ap := RowE.rdB df bx
 have hrd1011s : _ * 48 ≤ _ := ap.small
 have bz : Sep _ _ ((RowE (α := Typ) (shr cK aO) 53 (Iy s 1 1) [(⟨[(⟨1, 1, true, []⟩ : Fld)]⟩ : Typ)]) :: _) _ := Sep.blkRow (src := (shr cK aO)) (l := [(⟨[(⟨1, 1, true, []⟩ : Fld)]⟩ : Typ)]) (css := [(⟨[(⟨1, 1, true, []⟩ : Fld)]⟩ : Typ).cells (Iy t 1 1)]) dg rfl ⟨fun _ _ => ⟨_, rfl, ap, (show Typ.Ok (⟨[(⟨1, 1, true, []⟩ : Fld)]⟩ : Typ) from ⟨⟩)⟩, trivial⟩ yqa (show 1 ≤ maxLen by decide)
 have di := bz.r0
 have hr1013s : _ * 24 ≤ _ := di.2
 obtain ⟨G1014, dj, bA, dk, dl⟩ := bz.lend
 have aq := RowE.rdB dj bA
 have hrd1020s : _ * 24 ≤ _ := aq.small
 obtain ⟨G1022, bB, bC, dm, dp⟩ := (dk.mv3).lend
 obtain ⟨vv1028, m1029, R1030, hb1031, dq, hr1033⟩ := SetO.sh bB
 have hsm1034 : (zt 2 ([] : List Ev)).length * 8 ≤ 140737488355328 := dq.small
 refine (zB (f := 11) (vals := [.agg (dF.cells (Iy s 1 1) (Iz)).toArray, Ix A 0, Ix B 0, Iv 1, Iv 10, .agg ((⟨0, 0, 0, 1, -1, -1, 7⟩ : Cmd).cells).toArray]) (cap := []) rfl (yE ⟨L, (Y 1 dc), (Y 2 dc), rfl, rfl, (Y 3 dc), trivial⟩) oT (Zh (d := dF) (o := 1) (start := 10) (c := (⟨0, 0, 0, 1, -1, -1, 7⟩ : Cmd)) (RdS.base aq bC) (RdS.nil _ _) (⟨⟩ : Dcl.Ok dF) bB dc dc cz (RdS.base (RdS.base (RdS.base hKN bx) bA) bC) (dm.mv3) (Xq) ((Inv.nil dF)) ((Nat.zero_le _)) (List.Pairwise.nil) ((Good.nil (n := 2)).srt) ((Nat.zero_le _)) (dc)) ?_)
 rintro _ w1037 ⟨j, rfl, dr⟩
 have ds := dp _ _ dr
 have dt := dl _ _ ds
 have du := dh _ _ dt
 exact fun u y m => ⟨(Exists.intro s (Exists.intro t (Exists.intro j (Exists.intro J (And.intro ((m 0 dc).trans L) (And.intro y (And.intro ((m 9 dc).trans Q) ((du.s14_acdefghijklmn).mv4)))))))), trivial⟩
 intro hl vals w1045 dv bD hA1046
 have ar : hl ∈ [3, 7] := dv
 simp only [List.mem_cons, List.not_mem_nil, or_false] at ar
 rcases ar with rfl | rfl
 obtain ⟨s, t, j, L, F, hS1049⟩ := bD
 refine obl rfl (ya (v := .tuple #[.agg ((exR dF 2 ([] : List Ev) ([] : List Ent) 1 10 (⟨0, 0, 0, 1, -1, -1, 7⟩ : Cmd)).1.cells j).toArray, .bool ((exR dF 2 ([] : List Ev) ([] : List Ent) 1 10 (⟨0, 0, 0, 1, -1, -1, 7⟩ : Cmd)).2.1), Iv ((exR dF 2 ([] : List Ev) ([] : List Ent) 1 10 (⟨0, 0, 0, 1, -1, -1, 7⟩ : Cmd)).2.2)]) F (fun u y m => ⟨rfl, ?_⟩))
 intro ag H
 rw [m 4 (by decide)] at H; cases F.symm.trans H
 exact y
 obtain ⟨s, t, j, J, L, F, Q, hS1050⟩ := bD
 refine obl rfl (ya (v := .tuple #[.agg ((exR dF 2 ([] : List Ev) ([] : List Ent) 1 10 (⟨0, 0, 0, 1, -1, -1, 7⟩ : Cmd)).1.cells j).toArray, .bool ((exR dF 2 ([] : List Ev) ([] : List Ent) 1 10 (⟨0, 0, 0, 1, -1, -1, 7⟩ : Cmd)).2.1), Iv ((exR dF 2 ([] : List Ev) ([] : List Ent) 1 10 (⟨0, 0, 0, 1, -1, -1, 7⟩ : Cmd)).2.2)]) F (fun u y m => ⟨rfl, ?_⟩))
 intro ag H
 rw [m 4 (by decide)] at H; cases F.symm.trans H
 exact y
 intro hm vals w1052 dw bE bF
 have au : hm ∈ [3, 7] := dw
 simp only [List.mem_cons, List.not_mem_nil, or_false] at au
 rcases au with rfl | rfl
 obtain ⟨s, t, j, L, F, hS1056⟩ := bE
 let bo := ((exR dF 2 ([] : List Ev) ([] : List Ent) 1 10 (⟨0, 0, 0, 1, -1, -1, 7⟩ : Cmd)).1.cells j)
 have hn : vals 5 = (.tuple #[.agg bo.toArray, .bool ((exR dF 2 ([] : List Ev) ([] : List Ent) 1 10 (⟨0, 0, 0, 1, -1, -1, 7⟩ : Cmd)).2.1), Iv ((exR dF 2 ([] : List Ev) ([] : List Ent) 1 10 (⟨0, 0, 0, 1, -1, -1, 7⟩ : Cmd)).2.2)] : Value) := bF 5 dc j F
 refine obl rfl (zk (vs := [.agg bo.toArray, .bool ((exR dF 2 ([] : List Ev) ([] : List Ent) 1 10 (⟨0, 0, 0, 1, -1, -1, 7⟩ : Cmd)).2.1), Iv ((exR dF 2 ([] : List Ev) ([] : List Ent) 1 10 (⟨0, 0, 0, 1, -1, -1, 7⟩ : Cmd)).2.2)]) (i := 0) (v := .agg bo.toArray) hn rfl (fun u y m => ⟨rfl, ?_⟩))
 intro ag H
 rw [m 4 (by decide)] at H; cases F.symm.trans H
 exact y
 obtain ⟨s, t, j, J, L, F, Q, hS1058⟩ := bE
 let eh := ((exR dF 2 ([] : List Ev) ([] : List Ent) 1 10 (⟨0, 0, 0, 1, -1, -1, 7⟩ : Cmd)).1.cells j)
 have ho : vals 5 = (.tuple #[.agg eh.toArray, .bool ((exR dF 2 ([] : List Ev) ([] : List Ent) 1 10 (⟨0, 0, 0, 1, -1, -1, 7⟩ : Cmd)).2.1), Iv ((exR dF 2 ([] : List Ev) ([] : List Ent) 1 10 (⟨0, 0, 0, 1, -1, -1, 7⟩ : Cmd)).2.2)] : Value) := bF 5 dc j F
 refine obl rfl (zk (vs := [.agg eh.toArray, .bool ((exR dF 2 ([] : List Ev) ([] : List Ent) 1 10 (⟨0, 0, 0, 1, -1, -1, 7⟩ : Cmd)).2.1), Iv ((exR dF 2 ([] : List Ev) ([] : List Ent) 1 10 (⟨0, 0, 0, 1, -1, -1, 7⟩ : Cmd)).2.2)]) (i := 0) (v := .agg eh.toArray) ho rfl (fun u y m => ⟨rfl, ?_⟩))
 intro ag H
 rw [m 4 (by decide)] at H; cases F.symm.trans H
 exact y
 intro hp vals w1061 dx ah ai
 have av : hp ∈ [3, 7, 15] := dx
 simp only [List.mem_cons, List.not_mem_nil, or_false] at av
 rcases av with rfl | rfl | rfl
 obtain ⟨s, t, j, L, F, hS1065⟩ := ah
 let iV := ((exR dF 2 ([] : List Ev) ([] : List Ent) 1 10 (⟨0, 0, 0, 1, -1, -1, 7⟩ : Cmd)).1.cells j)
 have hq : vals 5 = (.tuple #[.agg iV.toArray, .bool ((exR dF 2 ([] : List Ev) ([] : List Ent) 1 10 (⟨0, 0, 0, 1, -1, -1, 7⟩ : Cmd)).2.1), Iv ((exR dF 2 ([] : List Ev) ([] : List Ent) 1 10 (⟨0, 0, 0, 1, -1, -1, 7⟩ : Cmd)).2.2)] : Value) := ai 5 dc j F
 exact obl rfl (zk (vs := [.agg iV.toArray, .bool ((exR dF 2 ([] : List Ev) ([] : List Ent) 1 10 (⟨0, 0, 0, 1, -1, -1, 7⟩ : Cmd)).2.1), Iv ((exR dF 2 ([] : List Ev) ([] : List Ent) 1 10 (⟨0, 0, 0, 1, -1, -1, 7⟩ : Cmd)).2.2)]) (i := 1) (v := .bool ((exR dF 2 ([] : List Ev) ([] : List Ent) 1 10 (⟨0, 0, 0, 1, -1, -1, 7⟩ : Cmd)).2.1)) hq rfl dR)
 obtain ⟨s, t, j, J, L, F, Q, hS1067⟩ := ah
 let iW := ((exR dF 2 ([] : List Ev) ([] : List Ent) 1 10 (⟨0, 0, 0, 1, -1, -1, 7⟩ : Cmd)).1.cells j)
 have hr : vals 5 = (.tuple #[.agg iW.toArray, .bool ((exR dF 2 ([] : List Ev) ([] : List Ent) 1 10 (⟨0, 0, 0, 1, -1, -1, 7⟩ : Cmd)).2.1), Iv ((exR dF 2 ([] : List Ev) ([] : List Ent) 1 10 (⟨0, 0, 0, 1, -1, -1, 7⟩ : Cmd)).2.2)] : Value) := ai 5 dc j F
 exact obl rfl (zk (vs := [.agg iW.toArray, .bool ((exR dF 2 ([] : List Ev) ([] : List Ent) 1 10 (⟨0, 0, 0, 1, -1, -1, 7⟩ : Cmd)).2.1), Iv ((exR dF 2 ([] : List Ev) ([] : List Ent) 1 10 (⟨0, 0, 0, 1, -1, -1, 7⟩ : Cmd)).2.2)]) (i := 1) (v := .bool ((exR dF 2 ([] : List Ev) ([] : List Ent) 1 10 (⟨0, 0, 0, 1, -1, -1, 7⟩ : Cmd)).2.1)) hr rfl dR)
 obtain ⟨s, t, j, J, L, F, Q, hS1069⟩ := ah
 let iX := ((exR dF 2 ([] : List Ev) ([] : List Ent) 1 10 (⟨0, 0, 0, 1, -1, -1, 7⟩ : Cmd)).1.cells j)
 have hs : vals 5 = (.tuple #[.agg iX.toArray, .bool ((exR dF 2 ([] : List Ev) ([] : List Ent) 1 10 (⟨0, 0, 0, 1, -1, -1, 7⟩ : Cmd)).2.1), Iv ((exR dF 2 ([] : List Ev) ([] : List Ent) 1 10 (⟨0, 0, 0, 1, -1, -1, 7⟩ : Cmd)).2.2)] : Value) := ai 5 dc j F
 exact obl rfl (zk (vs := [.agg iX.toArray, .bool ((exR dF 2 ([] : List Ev) ([] : List Ent) 1 10 (⟨0, 0, 0, 1, -1, -1, 7⟩ : Cmd)).2.1), Iv ((exR dF 2 ([] : List Ev) ([] : List Ent) 1 10 (⟨0, 0, 0, 1, -1, -1, 7⟩ : Cmd)).2.2)]) (i := 1) (v := .bool ((exR dF 2 ([] : List Ev) ([] : List Ent) 1 10 (⟨0, 0, 0, 1, -1, -1, 7⟩ : Cmd)).2.1)) hs rfl dR)
 intro ht vals w1072 dy aj ak
 have aw : ht ∈ [3, 7, 15] := dy
 simp only [List.mem_cons, List.not_mem_nil, or_false] at aw
 rcases aw with rfl | rfl | rfl
 obtain ⟨s, t, j, L, F, hS1076⟩ := aj
 let iY := ((exR dF 2 ([] : List Ev) ([] : List Ent) 1 10 (⟨0, 0, 0, 1, -1, -1, 7⟩ : Cmd)).1.cells j)
 have hu : vals 5 = (.tuple #[.agg iY.toArray, .bool ((exR dF 2 ([] : List Ev) ([] : List Ent) 1 10 (⟨0, 0, 0, 1, -1, -1, 7⟩ : Cmd)).2.1), Iv ((exR dF 2 ([] : List Ev) ([] : List Ent) 1 10 (⟨0, 0, 0, 1, -1, -1, 7⟩ : Cmd)).2.2)] : Value) := ak 5 dc j F
 exact obl rfl (zk (vs := [.agg iY.toArray, .bool ((exR dF 2 ([] : List Ev) ([] : List Ent) 1 10 (⟨0, 0, 0, 1, -1, -1, 7⟩ : Cmd)).2.1), Iv ((exR dF 2 ([] : List Ev) ([] : List Ent) 1 10 (⟨0, 0, 0, 1, -1, -1, 7⟩ : Cmd)).2.2)]) (i := 2) (v := Iv ((exR dF 2 ([] : List Ev) ([] : List Ent) 1 10 (⟨0, 0, 0, 1, -1, -1, 7⟩ : Cmd)).2.2)) hu rfl dR)
 obtain ⟨s, t, j, J, L, F, Q, hS1078⟩ := aj
 let iZ := ((exR dF 2 ([] : List Ev) ([] : List Ent) 1 10 (⟨0, 0, 0, 1, -1, -1, 7⟩ : Cmd)).1.cells j)
 have hw : vals 5 = (.tuple #[.agg iZ.toArray, .bool ((exR dF 2 ([] : List Ev) ([] : List Ent) 1 10 (⟨0, 0, 0, 1, -1, -1, 7⟩ : Cmd)).2.1), Iv ((exR dF 2 ([] : List Ev) ([] : List Ent) 1 10 (⟨0, 0, 0, 1, -1, -1, 7⟩ : Cmd)).2.2)] : Value) := ak 5 dc j F
 exact obl rfl (zk (vs := [.agg iZ.toArray, .bool ((exR dF 2 ([] : List Ev) ([] : List Ent) 1 10 (⟨0, 0, 0, 1, -1, -1, 7⟩ : Cmd)).2.1), Iv ((exR dF 2 ([] : List Ev) ([] : List Ent) 1 10 (⟨0, 0, 0, 1, -1, -1, 7⟩ : Cmd)).2.2)]) (i := 2) (v := Iv ((exR dF 2 ([] : List Ev) ([] : List Ent) 1 10 (⟨0, 0, 0, 1, -1, -1, 7⟩ : Cmd)).2.2)) hw rfl dR)
 obtain ⟨s, t, j, J, L, F, Q, hS1080⟩ := aj
 let ja := ((exR dF 2 ([] : List Ev) ([] : List Ent) 1 10 (⟨0, 0, 0, 1, -1, -1, 7⟩ : Cmd)).1.cells j)
 have hx : vals 5 = (.tuple #[.agg ja.toArray, .bool ((exR dF 2 ([] : List Ev) ([] : List Ent) 1 10 (⟨0, 0, 0, 1, -1, -1, 7⟩ : Cmd)).2.1), Iv ((exR dF 2 ([] : List Ev) ([] : List Ent) 1 10 (⟨0, 0, 0, 1, -1, -1, 7⟩ : Cmd)).2.2)] : Value) := ak 5 dc j F
 exact obl rfl (zk (vs := [.agg ja.toArray, .bool ((exR dF 2 ([] : List Ev) ([] : List Ent) 1 10 (⟨0, 0, 0, 1, -1, -1, 7⟩ : Cmd)).2.1), Iv ((exR dF 2 ([] : List Ev) ([] : List Ent) 1 10 (⟨0, 0, 0, 1, -1, -1, 7⟩ : Cmd)).2.2)]) (i := 2) (v := Iv ((exR dF 2 ([] : List Ev) ([] : List Ent) 1 10 (⟨0, 0, 0, 1, -1, -1, 7⟩ : Cmd)).2.2)) hx rfl dR)
 intro hy vals w1083 dz al hA1084
 have ax : hy ∈ [0, 1, 3] := dz
 simp only [List.mem_cons, List.not_mem_nil, or_false] at ax
 rcases ax with rfl | rfl | rfl
 have dB : Sep _ _ _ _ := al
 refine obl rfl ((zq mT ?_))
 intro w1090 J dC
 exact fun u y m => ⟨(Exists.intro J (And.intro y (dB.new dC))), trivial⟩
 obtain ⟨s, t, L, dD⟩ := al
 refine obl rfl ((zq mT ?_))
 intro w1095 J dE
 exact fun u y m => ⟨(Exists.intro s (Exists.intro t (Exists.intro J (And.intro ((m 0 dc).trans L) (And.intro y ((dD.new dE).s13_bcadefghijklm)))))), trivial⟩
 obtain ⟨s, t, j, L, F, dG⟩ := al
 refine obl rfl ((zq mT ?_))
 intro w1101 J dH
 exact fun u y m => ⟨(Exists.intro s (Exists.intro t (Exists.intro j (Exists.intro J (And.intro ((m 0 dc).trans L) (And.intro ((m 4 dc).trans F) (And.intro y (dG.new dH)))))))), trivial⟩
 intro hz vals w1104 dI dJ dK
 have ay : hz ∈ [7] := dI
 simp only [List.mem_cons, List.not_mem_nil, or_false] at ay
 subst ay
 obtain ⟨s, t, j, J, L, F, Q, am⟩ := dJ
 let fD := ((exR dF 2 ([] : List Ev) ([] : List Ent) 1 10 (⟨0, 0, 0, 1, -1, -1, 7⟩ : Cmd)).1.cells j)
 refine obl rfl ?_
 have hA : vals 6 = (.agg fD.toArray : Value) := dK 6 dc j F
 refine (zp (v := .agg fD.toArray) (c' := fD.toArray) nT Q hA (am.b0) (zY ⟨rfl, rfl, rfl, (am.depSl (i := 4) rfl).one, rfl, rfl, rfl, rfl, rfl, rfl, trivial⟩) yqc rfl ?_)
 intro w1110 dL
 exact fun u y m => ⟨(Exists.intro s (Exists.intro t (Exists.intro j (Exists.intro J (And.intro ((m 0 dc).trans L) (And.intro ((m 4 dc).trans F) (And.intro ((m 9 dc).trans Q) (am.pt0 dL)))))))), trivial⟩
 intro vals w1125 dM dN
 obtain ⟨s, t, j, J, L, F, Q, dO⟩ := dM
 have hB := dN 12 dc
 refine zT (kv := [(0, .bool false), (15, .agg #[(Iy bJ 1 1), Iz]), (16, .tuple #[Ix A 0, Ix B 0]), (14, .tuple #[Ix A 0, Ix B 0]), (17, Ix A 0), (18, Ix B 0), (1, Ix A 0), (2, Ix B 0), (19, Ix A 0), (20, .bool false), (21, .bool false), (22, Ix B 0), (23, .bool false), (24, .bool false), (25, .agg ((⟨0, 0, 0, 1, 3, 0, 7⟩ : Cmd).cells).toArray), (3, Ix Z 0), (4, Ix C 0), (5, .bool ((exR dF 2 ([] : List Ev) ([] : List Ent) 1 10 (⟨0, 0, 0, 1, 3, 0, 7⟩ : Cmd)).2.1)), (6, Iv ((exR dF 2 ([] : List Ev) ([] : List Ent) 1 10 (⟨0, 0, 0, 1, 3, 0, 7⟩ : Cmd)).2.2)), (35, Ix Z 5), (9, Iv ((exR dF 2 ([] : List Ev) ([] : List Ent) 1 10 (⟨0, 0, 0, 1, 3, 1, 7⟩ : Cmd)).2.2)), (45, Ix Z 5), (46, Ix Z 4), (12, Iv ((exR dF 2 ([] : List Ev) ([] : List Ent) 1 10 (⟨0, 0, 0, 1, -1, -1, 7⟩ : Cmd)).2.2))]) ⟨rfl, rfl, rfl, rfl, rfl, rfl, rfl, rfl, rfl, rfl, rfl, rfl, rfl, rfl, rfl, rfl, rfl, rfl, rfl, rfl, rfl, rfl, rfl, (by exact hB), trivial⟩ (fun ρw1125 => ?_)
 refine zd (za (yq (by kernel_rfl) (fun _ => (st (zH (parts' := [(0, Iv 1), (1, Iv 1)]) (v := .agg #[Iv 1, Iv 1]) rfl (by simp +zetaDelta [Instr.build, Instr.fill, Ev.cells, go_sem, Mv.cells, Fld.cells, Typ.cells, Prj.cells, Dcl.cells, Cel.cells, AskR.cells, CelS.cells, Ev.cells, Ent.cells, Sta.cells, Cmd.cells]) (st (zS (k := 1) (parts' := [(0, Iv 0), (1, Iv 0)]) (c := #[Iv 0, Iv 0]) Tryz.underlying39 uT Tryz.zeroValue3 (by decide) rfl (by kernel_rfl) ?_)))))))
 intro w1132 aa dP
 let iS := ((⟨1, 1, 11, [0, 0], 0, 0, 0, 1, 3, 7⟩ : Ev).cells (Iy aa 2 2))
 have bG : Sep _ _ ((RowE (α := Int) own 3 (Iy aa 2 2) [0, 0]) :: _) _ := Sep.blkRow (src := own) (l := [0, 0]) (css := [[Iv 0], [Iv 0]]) (dO.new dP) rfl ⟨fun _ _ => ⟨rfl, (by decide)⟩, fun _ _ => ⟨rfl, (by decide)⟩, trivial⟩ yqa (show 2 ≤ maxLen by decide)
 have dQ := bG.r0
 have hr1135s : _ * 8 ≤ _ := dQ.2
 have dS : Ev.Ok (⟨1, 1, 11, [0, 0], 0, 0, 0, 1, 3, 7⟩ : Ev) := ⟨(show InR (1) from dc), (show InR (1) from dc), (show InR (11) from dc), (show InR (0) from dc), (show InR (0) from dc), (show InR (0) from dc), (show InR (1) from dc), (show InR (3) from dc), (show InR (7) from dc)⟩
 refine st (zH (parts' := [(0, .agg #[Iv 1, Iv 1]), (1, Iv 11), (2, (Iy aa 2 2)), (6, Iv 1), (7, Iv 3), (8, Iv 7)]) (v := .agg iS.toArray) rfl (by simp +zetaDelta [Instr.build, Instr.fill, Ev.cells, go_sem, Mv.cells, Fld.cells, Typ.cells, Prj.cells, Dcl.cells, Cel.cells, AskR.cells, CelS.cells, Ev.cells, Ent.cells, Sta.cells, Cmd.cells]) (st (zq mT ?_)))
 intro w1139 b1138 dU
 have bH := bG.new dU
 refine stn (zp (v := .agg iS.toArray) (c' := iS.toArray) nT rfl rfl (bH.b0) (zY ⟨rfl, rfl, rfl, rfl, rfl, rfl, rfl, rfl, rfl, rfl, trivial⟩) yqc rfl ?_)
 intro w1141 dV
 have an := bH.pt0 dV
 refine zd (za (zu kr (st (mV (.bool ((exR dF 2 ([] : List Ev) ([] : List Ent) 1 10 (⟨0, 0, 0, 1, 3, 0, 7⟩ : Cmd)).2.1)) (st (mV (.bool ((exR dF 2 ([] : List Ev) ([] : List Ent) 1 10 (⟨0, 0, 0, 1, 3, 0, 7⟩ : Cmd)).2.1)) ?_))))))
 have cM : ((exR dF 2 ([] : List Ev) ([] : List Ent) 1 10 (⟨0, 0, 0, 1, 3, 0, 7⟩ : Cmd)).2.1) = true := yqf
 rw [cM]
 refine sty rfl rfl (mV (Iv ((exR dF 2 ([] : List Ev) ([] : List Ent) 1 10 (⟨0, 0, 0, 1, 3, 0, 7⟩ : Cmd)).2.2)) (sty rfl rfl (zN (k := .i64) (a := (exR dF 2 ([] : List Ev) ([] : List Ent) 1 10 (⟨0, 0, 0, 1, 3, 0, 7⟩ : Cmd)).2.2) (b := 0) rfl rfl ?_)))
 have cN : (decide (((exR dF 2 ([] : List Ev) ([] : List Ent) 1 10 (⟨0, 0, 0, 1, 3, 0, 7⟩ : Cmd)).2.2) = 0)) = true := yqf
 rw [cN]
 refine st (zP (v := .bool true) rfl rfl (st (mV (.bool true) (sty rfl rfl (zf (k := 10) vT nT rfl rfl (CellsAt.all (an.b10)) (sty rfl rfl (zf (k := 10) vT nT rfl rfl (CellsAt.all (an.b0)) ?_)))))))
 obtain ⟨G1147, dW, hB1150, dX, dY⟩ := (an.mv12).lend
 have bI := DepO.rd dW
 have hsm1154 : ((exR dF 2 ([] : List Ev) ([] : List Ent) 1 10 (⟨0, 0, 0, 1, 3, 0, 7⟩ : Cmd)).1.deps).length * 8 ≤ 140737488355328 := bI.small
 obtain ⟨G1156, dZ, ea, eb, ec⟩ := (dX.mv1).lend
 have az := RowE.rd dZ
 have hrd1162s : _ * 8 ≤ _ := az.small
 refine sty rfl rfl (cL mR (Yz (a := (exR dF 2 ([] : List Ev) ([] : List Ent) 1 10 (⟨0, 0, 0, 1, 3, 0, 7⟩ : Cmd)).1) (b := (⟨1, 1, 11, [0, 0], 0, 0, 0, 1, 3, 7⟩ : Ev)) (RdS.base bI ea) (Ky (by constructor <;> decide) dc dc (fun _ h => absurd h List.not_mem_nil) dc) az dS eb) ?_)
 rintro _ hC ⟨rfl, ed⟩
 have ee := ec _ _ ed
 have ef := dY _ _ ee
 have cO : (decide (((exR dF 2 ([] : List Ev) ([] : List Ent) 1 10 (⟨0, 0, 0, 1, 3, 0, 7⟩ : Cmd)).1) = (⟨1, 1, 11, [0, 0], 0, 0, 0, 1, 3, 7⟩ : Ev))) = true := yqf
 rw [cO]
 refine st (zP (v := .bool true) rfl rfl (st (mV (.bool true) (sty rfl rfl (mV (Iv ((exR dF 2 ([] : List Ev) ([] : List Ent) 1 10 (⟨0, 0, 0, 1, 3, 1, 7⟩ : Cmd)).2.2)) (sty rfl rfl (zN (k := .i64) (a := (exR dF 2 ([] : List Ev) ([] : List Ent) 1 10 (⟨0, 0, 0, 1, 3, 1, 7⟩ : Cmd)).2.2) (b := 11) rfl rfl ?_)))))))
 have cP : (decide (((exR dF 2 ([] : List Ev) ([] : List Ent) 1 10 (⟨0, 0, 0, 1, 3, 1, 7⟩ : Cmd)).2.2) = 11)) = true := yqf
 rw [cP]
 refine st (zP (v := .bool true) rfl rfl (st (mV (.bool true) (sty rfl rfl (mV (Iv ((exR dF 2 ([] : List Ev) ([] : List Ent) 1 10 (⟨0, 0, 0, 1, -1, -1, 7⟩ : Cmd)).2.2)) (sty rfl rfl (zN (k := .i64) (a := (exR dF 2 ([] : List Ev) ([] : List Ent) 1 10 (⟨0, 0, 0, 1, -1, -1, 7⟩ : Cmd)).2.2) (b := 10) rfl rfl ?_)))))))
 have cQ : (decide (((exR dF 2 ([] : List Ev) ([] : List Ent) 1 10 (⟨0, 0, 0, 1, -1, -1, 7⟩ : Cmd)).2.2) = 10)) = true := yqf
 rw [cQ]
 refine st (zP (v := .bool true) rfl rfl (st (aS (.bool true) (zd (zj (zF Tryz.results7 (show _ = (.bool true : Value) from rfl) ?_))))))
 have eg : Sep G W Rs hC := ef.sel 15 [] (Nat.le_add_left _ _) rfl rfl
 refine ⟨rfl, eg⟩

section
variable {d : Dcl} {n : Nat} {L : List Ev} {V : List Ent} {o start lam : Int} {c : Cmd}
theorem QC {ty f op arg : Int} : yN d ty f op arg ≠ 10 ∧ yN d ty f op arg ≠ 13 ∧ yN d ty f op arg ≠ 11 := by unfold yN; repeat (first | decide | split)
theorem JJ : xg d c ≠ 10 ∧ xg d c ≠ 13 ∧ xg d c ≠ 11 := by
  unfold xg
  split
  · decide
  · exact QC
theorem KH {t : Typ} {cs : List Cel} {f op arg : Int} : yM t cs f op arg = 0 ∨ yM t cs f op arg = 10 := by unfold yM; split <;> simp
theorem Ku {v : Int} : xp c v = 0 ∨ xp c v = 11 := by unfold xp; split <;> simp
theorem Wp (ho : 0 ≤ o ∧ o < n) (hl : 0 ≤ lam) (hL : L.length ≤ 1000) : evN o (zt n L) lam = if lam = 9223372036854775807 then 13 else 0 := by
  have h9 := Vn (n := n) (L := L) o
  unfold evN
  rw [ZY]
  have h1 : ((decide (o < 0) || decide ((n : Int) ≤ o)) || decide (lam < 0)) = false := by
    rw [Bool.or_eq_false_iff, Bool.or_eq_false_iff, decide_eq_false_iff_not, decide_eq_false_iff_not, decide_eq_false_iff_not]; omega
  have h2 : decide (yx (zt n L) o = 9223372036854775807) = false := by rw [decide_eq_false_iff_not]; omega
  rw [h1, h2]
  by_cases h3 : lam = 9223372036854775807 <;> simp [h3]
theorem zbf : (∃ r : Ev × Bool × Int, r.2.1 = false ∧ r.2.2 ≠ 13 ∧ ∀ start, exR d n L V o start c = r) ∨ ∀ start, exR d n L V o start c = (evE c o (zt n L) (max (zG L) start), decide (evN o (zt n L) (max (zG L) start) = 0), evN o (zt n L) (max (zG L) start)) := by
  by_cases h : xg d c = 0
  · cases hk : (yQ L c.ckey).isSome with
    | true => exact .inl ⟨((yQ L c.ckey).getD default, false, 0), rfl, (show (0 : Int) ≠ 13 by decide), fun _ => QU h hk⟩
    | false =>
      by_cases hx : xp c ((zW (c.ctyp, c.cagg) V : Nat) : Int) = 0
      · by_cases hm : yM (xK d c.ctyp) (zV d (c.ctyp, c.cagg) V) c.cfield c.cop c.carg = 0
        · exact .inr fun _ => QQ h hk hx hm
        · refine .inl ⟨(ev0, false, yM (xK d c.ctyp) (zV d (c.ctyp, c.cagg) V) c.cfield c.cop c.carg), rfl, ?_, fun _ => KW h hk hx hm⟩
          have := KH (t := xK d c.ctyp) (cs := zV d (c.ctyp, c.cagg) V) (f := c.cfield) (op := c.cop) (arg := c.carg)
          intro h9
          have h8 : yM (xK d c.ctyp) (zV d (c.ctyp, c.cagg) V) c.cfield c.cop c.carg = 13 := h9
          omega
      · refine .inl ⟨(ev0, false, xp c ((zW (c.ctyp, c.cagg) V : Nat) : Int)), rfl, ?_, fun _ => KN h hk hx⟩
        have := Ku (c := c) (v := ((zW (c.ctyp, c.cagg) V : Nat) : Int))
        intro h9
        have h8 : xp c ((zW (c.ctyp, c.cagg) V : Nat) : Int) = 13 := h9
        omega
  · exact .inl ⟨(ev0, false, xg d c), rfl, JJ.2.1, fun _ => Kx h⟩
theorem JL (ho : 0 ≤ o ∧ o < n) (ht : 0 ≤ zG L ∧ zG L ≤ 9223372036854775807) (hL : L.length ≤ 1000) :
    (((exR d n L V o 0 c).2.2 ≠ 0 ∧ (exR d n L V o 0 c).2.2 ≠ 13 ∨ (exR d n L V o 0 c).2.2 = 0 ∧ (exR d n L V o 0 c).2.1 = false) → (exR d n L V o 9223372036854775807 c).2.2 = (exR d n L V o 0 c).2.2 ∧ (exR d n L V o 9223372036854775807 c).2.1 = false) ∧
    (¬ ((exR d n L V o 0 c).2.2 ≠ 0 ∧ (exR d n L V o 0 c).2.2 ≠ 13) → ¬ ((exR d n L V o 0 c).2.2 = 0 ∧ (exR d n L V o 0 c).2.1 = false) → exR d n L V o 9223372036854775807 c = (ev0, false, 13) ∧
      (zG L < 9223372036854775807 → (exR d n L V o 9223372036854775806 c).2.2 = 0 ∧ (exR d n L V o 9223372036854775806 c).2.1 = true ∧ (exR d n L V o 9223372036854775806 c).1.lam = 9223372036854775807) ∧
      (¬ zG L < 9223372036854775807 → (exR d n L V o 9223372036854775806 c).2.2 = 13)) := by
  rcases zbf (d := d) (n := n) (L := L) (V := V) (o := o) (c := c) with ⟨r, h1, h2, h3⟩ | h
  · rw [h3, h3]
    refine ⟨fun _ => ⟨rfl, h1⟩, fun h4 h5 => ?_⟩
    exfalso
    by_cases h6 : r.2.2 = 0
    · exact h5 ⟨h6, h1⟩
    · exact h4 ⟨h6, h2⟩
  · rw [h, h, h]
    have e0 := Wp (n := n) (L := L) (lam := max (zG L) 0) ho (by omega) hL
    have e1 := Wp (n := n) (L := L) (lam := max (zG L) 9223372036854775807) ho (by omega) hL
    have e2 := Wp (n := n) (L := L) (lam := max (zG L) 9223372036854775806) ho (by omega) hL
    rw [if_pos (by omega)] at e1
    have hv : evN o (zt n L) (max (zG L) 0) = 0 ∨ evN o (zt n L) (max (zG L) 0) = 13 := by rw [e0]; split <;> simp
    refine ⟨fun h4 => ?_, fun _ _ => ⟨?_, fun h6 => ?_, fun h6 => ?_⟩⟩
    · exfalso
      dsimp only at h4
      rcases h4 with ⟨h5, h6⟩ | ⟨h5, h6⟩
      · omega
      · rw [h5] at h6; simp at h6
    · unfold evE
      rw [e1, if_neg (by decide)]
      rfl
    · rw [if_neg (by omega)] at e2
      refine ⟨e2, by rw [e2]; rfl, ?_⟩
      show (evE c o (zt n L) (max (zG L) 9223372036854775806)).lam = _
      unfold evE
      rw [if_pos e2]
      show max (zG L) 9223372036854775806 + 1 = _
      omega
    · rw [if_pos (by omega)] at e2
      exact e2
end
theorem Sep.setOks {G : Nat → Prop} {W w : World} {As : List HP} {b n : Nat} {L : List Ev} (h : Sep G W As w) {i : Nat} (hi : As[i]? = some (SetO b n L)) (hid : (L.map idE).Nodup) : ∀ e ∈ L, e.Ok := by
  obtain ⟨f, hA, _⟩ := h.get hi
  obtain ⟨vv, m, R, _, _, hr⟩ := SetO.sh hA
  exact JW hr hid
set_option maxHeartbeats 8000000 in
theorem YP {G : Nat → Prop} {W w : World} {Rs : List HP} {d : Dcl} {dd0 : Value} (hdd0 : RdS W G dd0 d.types) {dd1 : Value} (hdd1 : RdS W G dd1 d.projs) (od : d.Ok) {n : Int} (hn : InR n) {vl : Value} {l : List Ev} (hl : RdS W G vl l) {o : Int} (ho : InR o) {c : Cmd} (oc : c.Ok) (hKN : RdS W G (.slice (some ⟨0, 0, none⟩) 6 6) kindsL) (hS0 : Sep G W Rs w) : Ret Tryz.prog 4 [.agg (d.cells dd0 dd1).toArray, .int .i64 (n), vl, .int .i64 (o), .agg (c.cells).toArray] w (fun r w' => r = (.bool true : Value) ∧ Sep G W Rs w') := by
 have hdd0s : _ * 24 ≤ _ := hdd0.small
 have hdd1s : _ * 40 ≤ _ := hdd1.small
 have hls : _ * 96 ≤ _ := hl.small
 have hKNs : _ * 8 ≤ _ := hKN.small
 refine zi (args := [.agg (d.cells dd0 dd1).toArray, Iv n, vl, Iv o, .agg (c.cells).toArray]) Tryz.func4 rfl rfl ?_
 refine za (R0 fun _ => st (zI (v := .agg (d.cells dd0 dd1).toArray) rfl ?_))
 intro w3 b2 cD
 refine st (zI (v := .agg (c.cells).toArray) rfl ?_)
 intro w7 b6 cE
 have bX := (hS0.new cD).new cE
 refine st (aS (.bool false) (zd (za (za (R0 fun _ => st (zf (k := 2) qT pT rfl rfl (CellsAt.all (bX.b1)) (st (cL Tryz.call6 (zae (d := d) hdd0 hdd1 od bX) ?_))))))))
 rintro _ w11 ⟨b9, rfl, ca, az⟩
 refine st (yF (a := b9) rfl (zd ?_))
 cases U : !b9
 have hc13r := U
 try simp only [ze] at U
 have S := ca (by simpa using U)
 refine zg rfl (zl (za (R0 fun _ => st (mV (Iv n) ?_))))
 refine st (cL nR (Kj (x := n) (n := 64) hn yqe az) ?_)
 rintro _ w16 ⟨j, rfl, hq15, cb⟩
 have cc : InR ((1 + j : Nat) : Int) := bo
 refine st (zU (r := ((1 + j : Nat) : Int)) (k := .i64) (a := 1) (b := ((j : Nat) : Int)) rfl rfl (by rw [show (1 + ((j : Nat) : Int) : Int) = ((1 + j : Nat) : Int) from bo]; exact zJ cc) (st (aS (Iw (1 + j)) (zd (za (yq (by kernel_rfl) (fun _ => (st (mV (Iv o) (st (mV (Iw (1 + j)) ?_)))))))))))
 refine st (cL nR (Kj (x := o) (n := 1 + j) ho yqe cb) ?_)
 rintro _ w21 ⟨m, rfl, hq20, cd⟩
 refine st (aS (Iw m) (zd (za ?_)))
 refine WD4 ((fun TT aA => WF [fun vals wq => Sep G W (aA :: TT) wq, fun vals wq => ∃ (y : Value) (s : List Ev), (vals 4 = (y : Value)) ∧ (s.length ≤ 60) ∧ (∀ i, i < s.length → XV (s.getD i default) ((1 + j : Nat) : Int)) ∧ Sep G W ((RowE (α := Ev) (shr G W) 41 y s) :: aA :: TT) wq, fun vals wq => ∃ (y : Value) (s : List Ev) (p : Nat) (q : Nat), (vals 4 = (y : Value)) ∧ (vals 5 = (.tuple #[Ix p 0, Ix q 0] : Value)) ∧ (s.length ≤ 60) ∧ (∀ i, i < s.length → XV (s.getD i default) ((1 + j : Nat) : Int)) ∧ Sep G W ((RowE (α := Ev) (shr G W) 41 y s) :: (SetO p (1 + j) (yS (1 + j) s)) :: (ViewO q d (zK d (yS (1 + j) s)) (zK d (yS (1 + j) s))) :: aA :: TT) wq]) ((Blk b2 (d.cells dd0 dd1).toArray 25) :: Rs) (Blk b6 (c.cells).toArray 28)) (AF [Vl 0 (.agg (d.cells dd0 dd1).toArray), Vl 1 (Iw (1 + j)), Vl 2 (Iw (1 + j)), Vl 3 (vl), fun _ => True, fun _ => True, fun vals => ∀ (p : Nat) (q : Nat), vals 5 = (.tuple #[Ix p 0, Ix q 0] : Value) → vals 6 = (.tuple #[Ix p 0, Ix q 0] : Value), fun vals => ∀ (p : Nat) (q : Nat), vals 5 = (.tuple #[Ix p 0, Ix q 0] : Value) → vals 7 = (Ix p 0 : Value), fun vals => ∀ (p : Nat) (q : Nat), vals 5 = (.tuple #[Ix p 0, Ix q 0] : Value) → vals 8 = (Ix q 0 : Value), fun vals => ∀ (p : Nat) (q : Nat), vals 5 = (.tuple #[Ix p 0, Ix q 0] : Value) → vals 9 = (Ix p 0 : Value), fun vals => ∀ (p : Nat) (q : Nat), vals 5 = (.tuple #[Ix p 0, Ix q 0] : Value) → vals 10 = (Ix q 0 : Value)]) [[], [], [], [], [2, 3], (rg 5), (rg 6), (rg 7), (rg 7), (rg 8), (rg 10)] [4, 5] [(0, 1), (0, 1), (0, 0), (0, 0), (0, 0), (1, 1), (2, 2), (2, 2), (2, 2), (2, 2), (2, 2)] cd ⟨?_, fun _ _ _ _ _ _ _ => obl rfl (mV (Iw (1 + j)) dR), fun _ _ _ _ _ _ _ => obl rfl (mV (Iw (1 + j)) dR), fun _ _ _ _ _ _ _ => obl rfl (mV vl dR), ?_, ?_, ?_, ?_, ?_, ?_, ?_, trivial⟩ ?_ (hlocA := yV ⟨dA, dA, dA, dA, dT, dT, fun vals A C h => fun p q t => (C 6 (.inl rfl)).trans (h p q ((C 5 (.inr dc)).symm.trans t)), fun vals A C h => fun p q t => (C 7 (.inl rfl)).trans (h p q ((C 5 (.inr dc)).symm.trans t)), fun vals A C h => fun p q t => (C 8 (.inl rfl)).trans (h p q ((C 5 (.inr dc)).symm.trans t)), fun vals A C h => fun p q t => (C 9 (.inl rfl)).trans (h p q ((C 5 (.inr dc)).symm.trans t)), fun vals A C h => fun p q t => (C 10 (.inl rfl)).trans (h p q ((C 5 (.inr dc)).symm.trans t)), trivial⟩)
 refine fun X _ _ ce cf am _ => ?_
 have hkk : X = 0 ∨ X = 1 := by have h1 : 0 ≤ X := ce; have h2 : X ≤ 1 := cf; omega
 rcases hkk with rfl | rfl
 have aV : Sep _ _ _ _ := am
 exact obl rfl (zf (k := 2) qT pT rfl rfl (CellsAt.all (aV.b1)) dR)
 obtain ⟨y, s, E, B, D, aW⟩ := am
 exact obl rfl (zf (k := 2) qT pT rfl rfl (CellsAt.all (aW.b2)) dR)
 refine ob1 0 fun vals _ (cg : Sep _ _ _ _) aC => (obl rfl ((zB (f := 9) (vals := [Iw (1 + j), vl]) (cap := []) rfl (yE ⟨(aC 2 dc), (aC 3 dc), trivial⟩) Tryz.call9 (Jp (n := ((1 + j : Nat) : Int)) (l := l) (vl := vl) om hl cg) ?_)))
 rintro y w61 ⟨_, s, rfl, B, D, aD⟩
 have ch := aD.r0
 have hr63s : _ * 96 ≤ _ := ch.2
 exact fun A C J => ⟨(Exists.intro y (Exists.intro s (And.intro C (And.intro B (And.intro D aD))))), trivial⟩
 refine ob1 1 fun vals _ ci aE => ?_
 obtain ⟨y, s, E, B, D, cj⟩ := ci
 refine obl rfl ?_
 obtain ⟨G74, ck, Y, cl, cm⟩ := cj.lend
 have an := RowE.rdB ck Y
 have hrd80s : _ * 96 ≤ _ := an.small
 refine (zB (f := 10) (vals := [.agg (d.cells dd0 dd1).toArray, Iw (1 + j), y]) (cap := []) rfl (yE ⟨(aE 0 dc), (aE 1 dc), E, trivial⟩) wT (UK (d := d) (n := 1 + j) (l := s) (vl := y) (RdS.base hdd0 Y) (RdS.base hdd1 Y) od yqe an (RdS.base hKN Y) cl (S.1) (om)) ?_)
 rintro _ w83 ⟨p, q, rfl, cn⟩
 have co := cm _ _ cn
 exact fun A C J => ⟨(Exists.intro y (Exists.intro s (Exists.intro p (Exists.intro q (And.intro ((J 4 dc).trans E) (And.intro C (And.intro B (And.intro D co)))))))), trivial⟩
 refine ob1 2 fun _ _ aX _ => ?_
 obtain ⟨y, s, p, q, E, u, B, D, hS158⟩ := aX
 refine obl rfl (ya (v := .tuple #[Ix p 0, Ix q 0]) u (fun A C J => ⟨rfl, ?_⟩))
 intro O P t
 rw [J 5 (by decide)] at t; cases u.symm.trans t
 exact C
 refine ob1 2 fun vals _ aY aZ => ?_
 obtain ⟨y, s, p, q, E, u, B, D, hS165⟩ := aY
 have cp : vals 6 = (.tuple #[Ix p 0, Ix q 0] : Value) := aZ 6 dc p q u
 refine obl rfl (zk (vs := [Ix p 0, Ix q 0]) (i := 0) (v := Ix p 0) cp rfl (fun A C J => ⟨rfl, ?_⟩))
 intro O P t
 rw [J 5 (by decide)] at t; cases u.symm.trans t
 exact C
 refine ob1 2 fun vals _ ba bb => ?_
 obtain ⟨y, s, p, q, E, u, B, D, hS173⟩ := ba
 have cq : vals 6 = (.tuple #[Ix p 0, Ix q 0] : Value) := bb 6 dc p q u
 refine obl rfl (zk (vs := [Ix p 0, Ix q 0]) (i := 1) (v := Ix q 0) cq rfl (fun A C J => ⟨rfl, ?_⟩))
 intro O P t
 rw [J 5 (by decide)] at t; cases u.symm.trans t
 exact C
 refine ob1 2 fun vals _ bc bd => ?_
 obtain ⟨y, s, p, q, E, u, B, D, hS181⟩ := bc
 have cr : vals 7 = (Ix p 0 : Value) := bd 7 dc p q u
 refine obl rfl (zQ (v := Ix p 0) cr (fun A C J => ⟨rfl, ?_⟩))
 intro O P t
 rw [J 5 (by decide)] at t; cases u.symm.trans t
 exact C
 refine ob1 2 fun vals _ be bf => ?_
 obtain ⟨y, s, p, q, E, u, B, D, hS189⟩ := be
 have cs : vals 8 = (Ix q 0 : Value) := bf 8 dc p q u
 refine obl rfl (zQ (v := Ix q 0) cs (fun A C J => ⟨rfl, ?_⟩))
 intro O P t
 rw [J 5 (by decide)] at t; cases u.symm.trans t
 exact C
 intro vals ct bg ao
 obtain ⟨y, s, p, q, E, u, B, D, ap⟩ := bg
 have cu : vals 9 = (Ix p 0 : Value) := ao 9 dc p q u
 have cv : vals 10 = (Ix q 0 : Value) := ao 10 dc p q u
 refine zT (kv := [(0, .agg (d.cells dd0 dd1).toArray), (1, Iw (1 + j)), (2, vl), (3, Iw m), (4, .agg (c.cells).toArray), (5, Ix b2 0), (9, Ix b6 0), (10, .bool false), (22, .agg (d.cells dd0 dd1).toArray), (23, .bool b9), (24, .bool false), (26, Iv n), (27, Iw j), (28, Iw (1 + j)), (29, Iv o), (30, Iw (1 + j)), (31, Iw m), (11, Ix p 0), (12, Ix q 0)]) ⟨rfl, rfl, rfl, rfl, rfl, rfl, rfl, rfl, rfl, rfl, rfl, rfl, rfl, rfl, rfl, rfl, rfl, (by exact cu), (by exact cv), trivial⟩ (fun ρw191 => (zd (za (za ?_))))
 obtain ⟨g, aF⟩ : ∃ z, (yS (1 + j) s) = z := ⟨_, rfl⟩
 have T : Good (1 + j) g := by rw [← aF]; exact laidL_good
 have hLl9 : g.length ≤ 60 := by rw [← aF]; exact Nat.le_trans ZC B
 rw [aF] at ap
 have Q : Sep G W ((RowE (α := Ev) (shr G W) 41 y s) :: (SetO p (1 + j) g) :: (ViewO q d (zK d g) (zK d g)) :: (Blk b6 (c.cells).toArray 28) :: (Blk b2 (d.cells dd0 dd1).toArray 25) :: Rs) ct := ap
 have aG : ∀ e ∈ g, e.Ok := (Q).setOks (i := 1) rfl T.ids
 have cw := Kw aG
 have hrl9 := VD d g
 refine zu kr (st (mV (Ix p 0) (st (xW (b := p) (o := 0) kR rfl (st (mV (.bool false) (sty rfl rfl (mV (Ix q 0) (sty rfl rfl (xW (b := q) (o := 0) lR rfl (st (zZ (v := .bool false) rfl rfl (zd (zg rfl (zl (za (R0 fun _ => st (zf (k := 2) qT pT rfl rfl (CellsAt.all (Q.b4)) (st (mV (Ix p 0) (st (mV (Ix q 0) (st (mV (Iw m) (st (zf (k := 7) lT kT rfl rfl (CellsAt.all (Q.b3)) ?_))))))))))))))))))))))))))
 obtain ⟨G199, aq, Z, bh, bi⟩ := (Q.mv1).lend
 obtain ⟨vv205, m206, R207, hb208, bj, hr210⟩ := SetO.sh aq
 have hsm211 : (zt (1 + j) g).length * 8 ≤ 140737488355328 := bj.small
 refine st (cL oT (Zh (d := d) (o := ((m : Nat) : Int)) (start := 0) (c := c) (RdS.base hdd0 Z) (RdS.base hdd1 Z) od aq om dc oc (RdS.base hKN Z) (bh.mv1) (S.1) ((Inv.run S.1 _)) (om) (T.ids) (T.srt) (om) (om)) ?_)
 rintro _ w214 ⟨F, rfl, bk⟩
 let bY := ((exR d (1 + j) g (zK d g) ((m : Nat) : Int) 0 c).1.cells F)
 have bl := bi _ _ bk
 refine st (mV (.tuple #[.agg bY.toArray, .bool ((exR d (1 + j) g (zK d g) ((m : Nat) : Int) 0 c).2.1), Iv ((exR d (1 + j) g (zK d g) ((m : Nat) : Int) 0 c).2.2)]) (st (zk (vs := [.agg bY.toArray, .bool ((exR d (1 + j) g (zK d g) ((m : Nat) : Int) 0 c).2.1), Iv ((exR d (1 + j) g (zK d g) ((m : Nat) : Int) 0 c).2.2)]) (i := 0) (v := .agg bY.toArray) rfl rfl (st (zk (vs := [.agg bY.toArray, .bool ((exR d (1 + j) g (zK d g) ((m : Nat) : Int) 0 c).2.1), Iv ((exR d (1 + j) g (zK d g) ((m : Nat) : Int) 0 c).2.2)]) (i := 1) (v := .bool ((exR d (1 + j) g (zK d g) ((m : Nat) : Int) 0 c).2.1)) rfl rfl ?_)))))
 refine st (zk (vs := [.agg bY.toArray, .bool ((exR d (1 + j) g (zK d g) ((m : Nat) : Int) 0 c).2.1), Iv ((exR d (1 + j) g (zK d g) ((m : Nat) : Int) 0 c).2.2)]) (i := 2) (v := Iv ((exR d (1 + j) g (zK d g) ((m : Nat) : Int) 0 c).2.2)) rfl rfl (st (zq mT ?_)))
 intro w219 b218 bm
 have aa := bl.new bm
 refine stn (zp (v := .agg bY.toArray) (c' := bY.toArray) nT rfl rfl (aa.b0) (zY ⟨rfl, rfl, rfl, (aa.depSl (i := 3) rfl).one, rfl, rfl, rfl, rfl, rfl, rfl, trivial⟩) yqc rfl ?_)
 intro w221 bn
 have ab := aa.pt0 bn
 refine st (aS (.bool ((exR d (1 + j) g (zK d g) ((m : Nat) : Int) 0 c).2.1)) (st (aS (Iv ((exR d (1 + j) g (zK d g) ((m : Nat) : Int) 0 c).2.2)) (zd (za (R0 fun _ => st (zf (k := 2) qT pT rfl rfl (CellsAt.all (ab.b6)) (st (mV (Ix p 0) (st (mV (Ix q 0) (st (mV (Iw m) (st (zf (k := 7) lT kT rfl rfl (CellsAt.all (ab.b5)) ?_)))))))))))))))
 obtain ⟨G225, ar, ac, bp, bq⟩ := (ab.mv1).lend
 obtain ⟨vv231, m232, R233, hb234, br, hr236⟩ := SetO.sh ar
 have hsm237 : (zt (1 + j) g).length * 8 ≤ 140737488355328 := br.small
 refine st (cL oT (Zh (d := d) (o := ((m : Nat) : Int)) (start := 9223372036854775807) (c := c) (RdS.base hdd0 ac) (RdS.base hdd1 ac) od ar om dc oc (RdS.base hKN ac) (bp.mv1) (S.1) ((Inv.run S.1 _)) (om) (T.ids) (T.srt) (om) (om)) ?_)
 rintro _ w240 ⟨H, rfl, bs⟩
 let aj := ((exR d (1 + j) g (zK d g) ((m : Nat) : Int) 9223372036854775807 c).1.cells H)
 have bt := bq _ _ bs
 refine st (mV (.tuple #[.agg aj.toArray, .bool ((exR d (1 + j) g (zK d g) ((m : Nat) : Int) 9223372036854775807 c).2.1), Iv ((exR d (1 + j) g (zK d g) ((m : Nat) : Int) 9223372036854775807 c).2.2)]) (st (zk (vs := [.agg aj.toArray, .bool ((exR d (1 + j) g (zK d g) ((m : Nat) : Int) 9223372036854775807 c).2.1), Iv ((exR d (1 + j) g (zK d g) ((m : Nat) : Int) 9223372036854775807 c).2.2)]) (i := 0) (v := .agg aj.toArray) rfl rfl (st (zk (vs := [.agg aj.toArray, .bool ((exR d (1 + j) g (zK d g) ((m : Nat) : Int) 9223372036854775807 c).2.1), Iv ((exR d (1 + j) g (zK d g) ((m : Nat) : Int) 9223372036854775807 c).2.2)]) (i := 1) (v := .bool ((exR d (1 + j) g (zK d g) ((m : Nat) : Int) 9223372036854775807 c).2.1)) rfl rfl ?_)))))
 refine st (zk (vs := [.agg aj.toArray, .bool ((exR d (1 + j) g (zK d g) ((m : Nat) : Int) 9223372036854775807 c).2.1), Iv ((exR d (1 + j) g (zK d g) ((m : Nat) : Int) 9223372036854775807 c).2.2)]) (i := 2) (v := Iv ((exR d (1 + j) g (zK d g) ((m : Nat) : Int) 9223372036854775807 c).2.2)) rfl rfl (st (zq mT ?_)))
 intro w245 b244 bu
 have ad := bt.new bu
 refine stn (zp (v := .agg aj.toArray) (c' := aj.toArray) nT rfl rfl (ad.b0) (zY ⟨rfl, rfl, rfl, (ad.depSl (i := 3) rfl).one, rfl, rfl, rfl, rfl, rfl, rfl, trivial⟩) yqc rfl ?_)
 intro w247 bv
 have R := ad.pt0 bv
 refine st (aS (.bool ((exR d (1 + j) g (zK d g) ((m : Nat) : Int) 9223372036854775807 c).2.1)) (st (aS (Iv ((exR d (1 + j) g (zK d g) ((m : Nat) : Int) 9223372036854775807 c).2.2)) (zd (za (za ?_))))))
 have al := JL (d := d) (n := (1 + j)) (L := g) (V := zK d g) (o := ((m : Nat) : Int)) (c := c) om cw om
 refine zu kr (st (mV (Iv ((exR d (1 + j) g (zK d g) ((m : Nat) : Int) 0 c).2.2)) (st (yn (k := .i64) (a := (exR d (1 + j) g (zK d g) ((m : Nat) : Int) 0 c).2.2) (b := 0) rfl rfl (st (mV (.bool (!decide (((exR d (1 + j) g (zK d g) ((m : Nat) : Int) 0 c).2.2) = 0))) (stc (V := Iv ((exR d (1 + j) g (zK d g) ((m : Nat) : Int) 0 c).2.2)) rfl rfl (fun bw => ?_) ?_)))))))
 have hl251 := zy bw
 exact mV (Iv ((exR d (1 + j) g (zK d g) ((m : Nat) : Int) 0 c).2.2)) ⟨rfl, rfl⟩
 refine stc (V := .bool (!decide (((exR d (1 + j) g (zK d g) ((m : Nat) : Int) 0 c).2.2) = 13))) rfl rfl (fun au => ?_) ?_
 have hl253 := zy au
 exact yn (k := .i64) (a := (exR d (1 + j) g (zK d g) ((m : Nat) : Int) 0 c).2.2) (b := 13) (if_pos au) rfl ⟨rfl, rfl⟩
 refine st (zx (b := !decide (((exR d (1 + j) g (zK d g) ((m : Nat) : Int) 0 c).2.2) = 0)) (b' := !decide (((exR d (1 + j) g (zK d g) ((m : Nat) : Int) 0 c).2.2) = 13)) rfl (fun hbp => (if_pos hbp)) (zd ?_))
 cases M : (!decide (((exR d (1 + j) g (zK d g) ((m : Nat) : Int) 0 c).2.2) = 0)) && (!decide (((exR d (1 + j) g (zK d g) ((m : Nat) : Int) 0 c).2.2) = 13))
 have hc254r := M
 try simp only [ze] at M
 have cF := M
 refine zg rfl (zl (za (za (zu kr (st (mV (Iv ((exR d (1 + j) g (zK d g) ((m : Nat) : Int) 0 c).2.2)) (st (zN (k := .i64) (a := (exR d (1 + j) g (zK d g) ((m : Nat) : Int) 0 c).2.2) (b := 0) rfl rfl (st (mV (.bool (decide (((exR d (1 + j) g (zK d g) ((m : Nat) : Int) 0 c).2.2) = 0))) (stc (V := .bool ((exR d (1 + j) g (zK d g) ((m : Nat) : Int) 0 c).2.1)) rfl rfl (fun bx => ?_) ?_)))))))))))
 have hl256 := tD bx
 exact mV (.bool ((exR d (1 + j) g (zK d g) ((m : Nat) : Int) 0 c).2.1)) ⟨rfl, rfl⟩
 refine stc (V := .bool (!((exR d (1 + j) g (zK d g) ((m : Nat) : Int) 0 c).2.1))) rfl rfl (fun av => ?_) ?_
 have hl258 := tD av
 exact yF (a := (exR d (1 + j) g (zK d g) ((m : Nat) : Int) 0 c).2.1) (if_pos av) ⟨rfl, rfl⟩
 refine st (zx (b := decide (((exR d (1 + j) g (zK d g) ((m : Nat) : Int) 0 c).2.2) = 0)) (b' := !((exR d (1 + j) g (zK d g) ((m : Nat) : Int) 0 c).2.1)) rfl (fun hbp => (if_pos hbp)) (zd ?_))
 cases K : (decide (((exR d (1 + j) g (zK d g) ((m : Nat) : Int) 0 c).2.2) = 0)) && (!((exR d (1 + j) g (zK d g) ((m : Nat) : Int) 0 c).2.1))
 have ai := K
 try simp only [ze] at K
 obtain ⟨aH, aI, cG⟩ := al.2 (by have h9 := cF; omega) (by rintro ⟨ha, hb⟩; rcases K with h9 | h9; exact h9 ha; rw [hb] at h9; cases h9)
 refine zg rfl (zl (za (za (zu kr (st (mV (Iv ((exR d (1 + j) g (zK d g) ((m : Nat) : Int) 9223372036854775807 c).2.2)) (st (yn (k := .i64) (a := (exR d (1 + j) g (zK d g) ((m : Nat) : Int) 9223372036854775807 c).2.2) (b := 13) rfl rfl ?_))))))))
 have aJ : (!decide (((exR d (1 + j) g (zK d g) ((m : Nat) : Int) 9223372036854775807 c).2.2) = 13)) = false := (by rw [aH]; rfl)
 rw [aJ]
 refine st (mV (.bool false) (sty rfl rfl (mV (.bool ((exR d (1 + j) g (zK d g) ((m : Nat) : Int) 9223372036854775807 c).2.1)) ?_)))
 have aK : ((exR d (1 + j) g (zK d g) ((m : Nat) : Int) 9223372036854775807 c).2.1) = false := (by rw [aH])
 rw [aK]
 refine st (zZ (v := .bool false) rfl rfl (st (mV (.bool false) (sty rfl rfl (zf (k := 10) vT nT rfl rfl (CellsAt.all (R.b0)) (sty rfl rfl (zH (parts' := []) (v := .agg (ev0.cells (Iz)).toArray) rfl (by simp +zetaDelta [Instr.build, Instr.fill, go_sem, Ev.cells, ev0]) ?_)))))))
 obtain ⟨G263, bz, hB266, bA, bB⟩ := (R.mv3).lend
 have aw := DepO.rd bz
 have hsm270 : ((exR d (1 + j) g (zK d g) ((m : Nat) : Int) 9223372036854775807 c).1.deps).length * 8 ≤ 140737488355328 := aw.small
 refine sty rfl rfl (cL mR (Yz (a := (exR d (1 + j) g (zK d g) ((m : Nat) : Int) 9223372036854775807 c).1) (b := ev0) aw (Ky oc om dc aG om) (RdS.nil _ _) Xu bA) ?_)
 rintro _ w271 ⟨rfl, bC⟩
 have ae := bB _ _ bC
 have aL : (decide (((exR d (1 + j) g (zK d g) ((m : Nat) : Int) 9223372036854775807 c).1) = ev0)) = true := (by rw [aH]; exact decide_eq_true rfl)
 rw [aL]
 refine sty rfl rfl (yF (a := true) rfl (st (zZ (v := .bool false) rfl rfl (zd (zg rfl (zl (za (R0 fun _ => st (zf (k := 2) qT pT rfl rfl (CellsAt.all (ae.b8)) (st (mV (Ix p 0) (st (mV (Ix q 0) (st (mV (Iw m) (st (zf (k := 7) lT kT rfl rfl (CellsAt.all (ae.b7)) ?_)))))))))))))))))
 obtain ⟨G276, ax, af, bD, bE⟩ := (ae.mv2).lend
 obtain ⟨vv282, m283, R284, hb285, bF, hr287⟩ := SetO.sh ax
 have hsm288 : (zt (1 + j) g).length * 8 ≤ 140737488355328 := bF.small
 refine st (cL oT (Zh (d := d) (o := ((m : Nat) : Int)) (start := 9223372036854775806) (c := c) (RdS.base hdd0 af) (RdS.base hdd1 af) od ax om dc oc (RdS.base hKN af) (bD.mv2) (S.1) ((Inv.run S.1 _)) (om) (T.ids) (T.srt) (om) (om)) ?_)
 rintro _ w291 ⟨I, rfl, bG⟩
 let aB := ((exR d (1 + j) g (zK d g) ((m : Nat) : Int) 9223372036854775806 c).1.cells I)
 have bH := bE _ _ bG
 refine st (mV (.tuple #[.agg aB.toArray, .bool ((exR d (1 + j) g (zK d g) ((m : Nat) : Int) 9223372036854775806 c).2.1), Iv ((exR d (1 + j) g (zK d g) ((m : Nat) : Int) 9223372036854775806 c).2.2)]) (st (zk (vs := [.agg aB.toArray, .bool ((exR d (1 + j) g (zK d g) ((m : Nat) : Int) 9223372036854775806 c).2.1), Iv ((exR d (1 + j) g (zK d g) ((m : Nat) : Int) 9223372036854775806 c).2.2)]) (i := 0) (v := .agg aB.toArray) rfl rfl (st (zk (vs := [.agg aB.toArray, .bool ((exR d (1 + j) g (zK d g) ((m : Nat) : Int) 9223372036854775806 c).2.1), Iv ((exR d (1 + j) g (zK d g) ((m : Nat) : Int) 9223372036854775806 c).2.2)]) (i := 1) (v := .bool ((exR d (1 + j) g (zK d g) ((m : Nat) : Int) 9223372036854775806 c).2.1)) rfl rfl ?_)))))
 refine st (zk (vs := [.agg aB.toArray, .bool ((exR d (1 + j) g (zK d g) ((m : Nat) : Int) 9223372036854775806 c).2.1), Iv ((exR d (1 + j) g (zK d g) ((m : Nat) : Int) 9223372036854775806 c).2.2)]) (i := 2) (v := Iv ((exR d (1 + j) g (zK d g) ((m : Nat) : Int) 9223372036854775806 c).2.2)) rfl rfl (st (zq mT ?_)))
 intro w296 b295 bI
 have ag := bH.new bI
 refine stn (zp (v := .agg aB.toArray) (c' := aB.toArray) nT rfl rfl (ag.b0) (zY ⟨rfl, rfl, rfl, (ag.depSl (i := 3) rfl).one, rfl, rfl, rfl, rfl, rfl, rfl, trivial⟩) yqc rfl ?_)
 intro w298 bJ
 refine st (aS (.bool ((exR d (1 + j) g (zK d g) ((m : Nat) : Int) 9223372036854775806 c).2.1)) (st (aS (Iv ((exR d (1 + j) g (zK d g) ((m : Nat) : Int) 9223372036854775806 c).2.2)) (zd (za (za (R0 fun _ => st (mV (Ix p 0) ?_))))))))
 obtain ⟨G302, ay, hB305, bK, bL⟩ := ((ag.pt0 bJ).mv1).lend
 obtain ⟨vv308, m309, R310, hb311, bM, hr313⟩ := SetO.sh ay
 have hsm314 : (zt (1 + j) g).length * 8 ≤ 140737488355328 := bM.small
 refine st (cL Tryz.call20 (VJ  ay bK) ?_)
 rintro _ w315 ⟨rfl, bN⟩
 have ah := bL _ _ bN
 refine st (zD (k := .i64) (a := zG g) (b := 9223372036854775807) rfl rfl (zd ?_))
 cases N : decide ((zG g) < 9223372036854775807)
 have hc318r := N
 have N := fD N
 refine zg rfl (zl (za (zu kr (st (mV (Iv ((exR d (1 + j) g (zK d g) ((m : Nat) : Int) 9223372036854775806 c).2.2)) (st (zN (k := .i64) (a := (exR d (1 + j) g (zK d g) ((m : Nat) : Int) 9223372036854775806 c).2.2) (b := 13) rfl rfl ?_)))))))
 have aM : (decide (((exR d (1 + j) g (zK d g) ((m : Nat) : Int) 9223372036854775806 c).2.2) = 13)) = true := decide_eq_true (cG om)
 rw [aM]
 refine st (mV (.bool true) (sty rfl rfl (cL sT (xZ  hKN ah) ?_)))
 rintro _ cx ⟨rfl, bO⟩
 refine st (zP (v := .bool true) rfl rfl (st (aS (.bool true) (zd (zj (zF tT (show _ = (.bool true : Value) from rfl) ?_))))))
 have bP : Sep G W Rs cx := bO.sel 11 [] (Nat.le_add_left _ _) rfl rfl
 refine ⟨rfl, bP⟩
 have N := tD N
 refine zh rfl (za (zu kr (st (mV (Iv ((exR d (1 + j) g (zK d g) ((m : Nat) : Int) 9223372036854775806 c).2.2)) (st (zN (k := .i64) (a := (exR d (1 + j) g (zK d g) ((m : Nat) : Int) 9223372036854775806 c).2.2) (b := 0) rfl rfl ?_))))))
 have aN : (decide (((exR d (1 + j) g (zK d g) ((m : Nat) : Int) 9223372036854775806 c).2.2) = 0)) = true := decide_eq_true (aI om).1
 rw [aN]
 refine st (mV (.bool true) (sty rfl rfl (mV (.bool ((exR d (1 + j) g (zK d g) ((m : Nat) : Int) 9223372036854775806 c).2.1)) ?_)))
 have aO : ((exR d (1 + j) g (zK d g) ((m : Nat) : Int) 9223372036854775806 c).2.1) = true := (aI om).2.1
 rw [aO]
 refine st (zP (v := .bool true) rfl rfl (st (mV (.bool true) (sty rfl rfl (xV rfl (sty rfl rfl (lD (Iv ((exR d (1 + j) g (zK d g) ((m : Nat) : Int) 9223372036854775806 c).1.lam)) Tryz.isAgg3 rfl (zb (ah.b1) rfl) (sty rfl rfl (zN (k := .i64) (a := (exR d (1 + j) g (zK d g) ((m : Nat) : Int) 9223372036854775806 c).1.lam) (b := 9223372036854775807) rfl rfl ?_)))))))))
 have aP : (decide (((exR d (1 + j) g (zK d g) ((m : Nat) : Int) 9223372036854775806 c).1.lam) = 9223372036854775807)) = true := decide_eq_true (aI om).2.2
 rw [aP]
 refine st (zP (v := .bool true) rfl rfl (st (mV (.bool true) (sty rfl rfl (cL sT (xZ  hKN ah) ?_)))))
 rintro _ cy ⟨rfl, bQ⟩
 refine st (zP (v := .bool true) rfl rfl (st (aS (.bool true) (zd (zj (zF tT (show _ = (.bool true : Value) from rfl) ?_))))))
 have bR : Sep G W Rs cy := bQ.sel 11 [] (Nat.le_add_left _ _) rfl rfl
 refine ⟨rfl, bR⟩
 have ai := K
 try simp only [ze] at K
 have ak := al.1 (.inr (by have h9 := K; simpa using h9))
 refine zh rfl (za (zu kr (st (mV (Iv ((exR d (1 + j) g (zK d g) ((m : Nat) : Int) 9223372036854775807 c).2.2)) (st (zN (k := .i64) (a := (exR d (1 + j) g (zK d g) ((m : Nat) : Int) 9223372036854775807 c).2.2) (b := 0) rfl rfl ?_))))))
 have aQ : (decide (((exR d (1 + j) g (zK d g) ((m : Nat) : Int) 9223372036854775807 c).2.2) = 0)) = true := (decide_eq_true (by have h9 := ak.1; have h8 := ai; simp only [Bool.and_eq_true, decide_eq_true_eq] at h8; omega))
 rw [aQ]
 refine st (mV (.bool true) (sty rfl rfl (mV (.bool ((exR d (1 + j) g (zK d g) ((m : Nat) : Int) 9223372036854775807 c).2.1)) (sty rfl rfl (yF (a := (exR d (1 + j) g (zK d g) ((m : Nat) : Int) 9223372036854775807 c).2.1) rfl ?_)))))
 have aR : (!((exR d (1 + j) g (zK d g) ((m : Nat) : Int) 9223372036854775807 c).2.1)) = true := (by rw [ak.2]; rfl)
 rw [aR]
 refine st (zP (v := .bool true) rfl rfl (st (mV (.bool true) (sty rfl rfl (cL sT (xZ  hKN R) ?_)))))
 rintro _ cz ⟨rfl, bS⟩
 refine st (zP (v := .bool true) rfl rfl (st (aS (.bool true) (zd (zj (zF tT (show _ = (.bool true : Value) from rfl) ?_))))))
 have bT : Sep G W Rs cz := bS.sel 9 [] (Nat.le_add_left _ _) rfl rfl
 refine ⟨rfl, bT⟩
 try simp only [ze] at M
 have ak := al.1 (.inl M)
 refine zh rfl (za (zu kr (st (mV (Iv ((exR d (1 + j) g (zK d g) ((m : Nat) : Int) 9223372036854775807 c).2.2)) (st (mV (Iv ((exR d (1 + j) g (zK d g) ((m : Nat) : Int) 0 c).2.2)) (st (zN (k := .i64) (a := (exR d (1 + j) g (zK d g) ((m : Nat) : Int) 9223372036854775807 c).2.2) (b := (exR d (1 + j) g (zK d g) ((m : Nat) : Int) 0 c).2.2) rfl rfl ?_))))))))
 have aT : (decide (((exR d (1 + j) g (zK d g) ((m : Nat) : Int) 9223372036854775807 c).2.2) = ((exR d (1 + j) g (zK d g) ((m : Nat) : Int) 0 c).2.2))) = true := decide_eq_true ak.1
 rw [aT]
 refine st (mV (.bool true) (sty rfl rfl (mV (.bool ((exR d (1 + j) g (zK d g) ((m : Nat) : Int) 9223372036854775807 c).2.1)) (sty rfl rfl (yF (a := (exR d (1 + j) g (zK d g) ((m : Nat) : Int) 9223372036854775807 c).2.1) rfl ?_)))))
 have aU : (!((exR d (1 + j) g (zK d g) ((m : Nat) : Int) 9223372036854775807 c).2.1)) = true := (by rw [ak.2]; rfl)
 rw [aU]
 refine st (zP (v := .bool true) rfl rfl (st (mV (.bool true) (sty rfl rfl (cL sT (xZ  hKN R) ?_)))))
 rintro _ cC ⟨rfl, bU⟩
 refine st (zP (v := .bool true) rfl rfl (st (aS (.bool true) (zd (zj (zF tT (show _ = (.bool true : Value) from rfl) ?_))))))
 have bV : Sep G W Rs cC := bU.sel 9 [] (Nat.le_add_left _ _) rfl rfl
 refine ⟨rfl, bV⟩
 try simp only [ze] at U
 refine zh rfl (za (R0 fun _ => st (cL sT (xZ  hKN az) ?_)))
 rintro _ w339 ⟨rfl, bW⟩
 refine st (aS (.bool true) (zd (zj (zF tT (show _ = (.bool true : Value) from rfl) ?_))))
 refine ⟨rfl, (bW.s2_)⟩

end Go.Proofs.YtbbabhaalmkbkaaGreatDoor
set_option maxRecDepth 8000
set_option maxHeartbeats 4000000
namespace Go.Proofs.YtbbabhaalmkbkaaGreatDoor
open Go.Proofs Go.RowKit

theorem Xk {w : World} {d : Dcl} {dd0 dd1 : Value} (h0 : RdS w (xe w) dd0 d.types) (h1 : RdS w (xe w) dd1 d.projs) (od : d.Ok) {n0 : Int} (hn0 : InR n0) {vl : Value} {l : List Ev} (hl : RdS w (xe w) vl l) {n1 : Int} (hn1 : InR n1) {c : Cmd} (oc : c.Ok) (hK : RdS w (xe w) (.slice (some ⟨0, 0, none⟩) 6 6) kindsL) : Ret Tryz.prog 4 [.agg (d.cells dd0 dd1).toArray, .int .i64 n0, vl, .int .i64 n1, .agg (c.cells).toArray] w (fun r w' => r = .bool true ∧ Ext w w') :=
  Ret.mono (YP h0 h1 od hn0 hl hn1 oc hK (Sep.start w)) (fun r w' h => ⟨h.1, h.2.fin⟩)
end Go.Proofs.YtbbabhaalmkbkaaGreatDoor
