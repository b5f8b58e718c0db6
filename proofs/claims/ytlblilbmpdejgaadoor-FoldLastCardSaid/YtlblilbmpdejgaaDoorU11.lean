import Derived.Test.YtlblilbmpdejgaaDoorU9
import Derived.Test.YtlblilbmpdejgaaDoorU10
set_option linter.unusedSimpArgs false
set_option linter.unusedVariables false
set_option linter.unusedSectionVars false
set_option linter.deprecated false
/- Steps of the proofs of this seat: part F19. -/
set_option maxRecDepth 8000
set_option maxHeartbeats 4000000
namespace Go.Proofs.YtlblilbmpdejgaaDoor
open Go.Proofs Go.RowKit

theorem XR {G : Nat → Prop} {W w : World} {Rs : List HP} {f : Fld} {df0 : Value} (hdf0 : RdS W G df0 f.moves) (of : f.Ok) (hS0 : Sep G W Rs w) : Ret Tryd.prog 56 [.agg (f.cells df0).toArray] w (fun r w' => ∃ (v : Value), r = (.agg (f.cells v).toArray : Value) ∧ Sep G W ((RowE (α := Mv) own 115 v f.moves) :: Rs) w') := by
 have hdf0s : _ * 32 ≤ _ := hdf0.small
 refine zr (args := [.agg (f.cells df0).toArray]) Tryd.func56 rfl rfl ?_
 refine zd ?_
 refine za (by kernel_rfl) (fun _ => ?_)
 refine st (yb (v := .agg (f.cells df0).toArray) rfl ?_)
 intro w3 b2 hn1
 have hS4 := hS0.new hn1
 refine st (zE Tryd.zeroValue79 ?_)
 intro w7 b6 hn5
 have hS8 := hS4.new hn5
 refine zf ?_
 refine zd ?_
 refine za (by kernel_rfl) (fun _ => ?_)
 refine st (ze (v := (.slice none 0 0)) rfl ?_)
 refine zf ?_
 refine zd ?_
 refine zd ?_
 refine za (by kernel_rfl) (fun _ => ?_)
 refine st (ze (v := .int .i64 (0)) rfl ?_)
 refine zf ?_
 refine zx ?_
 have hS9 : Sep G W ((RowE (α := Mv) own 115 (.slice none 0 0) ([] : List Mv)) :: (Blk b6 #[.int .i64 (0), .int .i64 (0), .bool false, (.slice none 0 0)] 79) :: (Blk b2 (f.cells df0).toArray 79) :: Rs) w7 := hS8.rowNil own 115
 refine yn (fun mq σ wq => ∃ (k : Nat) (vo : Value) (ρ : Env), mq = f.moves.length - k ∧ σ = yp ρ [(1, .pointer (some ⟨b2, 0, none⟩)), (2, .pointer (some ⟨b6, 0, none⟩)), (4, .int .i64 ((k : Nat) : Int)), (3, vo)] ∧ (k ≤ f.moves.length) ∧ Sep G W ((RowE (α := Mv) own 115 vo (f.moves.take k)) :: (Blk b6 #[.int .i64 (0), .int .i64 (0), .bool false, (.slice none 0 0)] 79) :: (Blk b2 (f.cells df0).toArray 79) :: Rs) wq) ⟨0, (.slice none 0 0), _, rfl, zp ⟨rfl, rfl, rfl, rfl, trivial⟩, Nat.zero_le _, hS9⟩ ?_
 rintro m11 σ12 w10 ⟨k, vo, ρl1, rfl, rfl, hkk, hS13⟩
 have hr14 := hS13.row (i := 0) rfl
 have hr14s : _ * 32 ≤ _ := hr14.2
 refine zd ?_
 refine zd ?_
 refine za (by kernel_rfl) (fun _ => ?_)
 refine st (zb (v := .int .i64 ((k : Nat) : Int)) rfl ?_)
 refine st (yE rfl ?_)
 refine st (zg (v := df0) Tryd.isAgg77 rfl (zh (hS13.blk (i := 2) rfl) rfl) ?_)
 refine st (zJ (n := f.moves.length) Tryd.underlying77 rfl hdf0.sl ?_)
 refine st (zN (k := .i64) (a := ((k : Nat) : Int)) (b := ((f.moves.length : Nat) : Int)) rfl rfl ?_)
 refine zf ?_
 cases hc15 : decide (((k : Nat) : Int) < ((f.moves.length : Nat) : Int))
 ·skip
  have hc15 := of_decide_eq_false hc15
  have hkn : k = f.moves.length := by omega
  rw [hkn, List.take_of_length_le (Nat.le_refl f.moves.length)] at hS13
  have hr16 := hS13.row (i := 0) rfl
  have hr16s : _ * 32 ≤ _ := hr16.2
  refine zo rfl ?_
  refine ym ?_
  refine yd ?_
  refine zd ?_
  refine za (by kernel_rfl) (fun _ => ?_)
  refine st (zb (v := vo) rfl ?_)
  refine st (yE rfl ?_)
  refine stn (yK (v := vo) (c := [.int .i64 (f.kind), .int .i64 (f.policy), .bool (f.floor), df0]) (c' := [.int .i64 (f.kind), .int .i64 (f.policy), .bool (f.floor), vo]) Tryd.sizeOf77 rfl rfl (hS13.blk (i := 2) rfl) hr16.1.one rfl rfl ?_)
  intro w17 hp18
  have ok19 : Fld.Ok f := ⟨(show InR (f.kind) from of.kind), (show InR (f.policy) from of.policy)⟩
  have hS20 := hS13.pt2 hp18
  refine zf ?_
  refine zd ?_
  refine za (by kernel_rfl) (fun _ => ?_)
  refine st (zl (k := 4) Tryd.isAgg79 Tryd.sizeOf79 rfl rfl (CellsAt.all (hS20.blk (i := 2) rfl)) ?_)
  refine stn (zy (v := .agg (f.cells vo).toArray) (c' := (f.cells vo).toArray) Tryd.sizeOf79 rfl rfl (hS20.blk (i := 1) rfl) (yj ⟨rfl, rfl, rfl, hr16.1.one, trivial⟩) (Nat.le_of_ble_eq_true rfl) rfl ?_)
  intro w21 hp22
  have hS23 := hS20.pt1 hp22
  refine zf ?_
  refine zu ?_
  refine XJ (b := b6) Tryd.results56 Tryd.isAgg79 Tryd.sizeOf79 rfl rfl (CellsAt.all (hS23.blk (i := 1) rfl)) ?_
  have hS24 : Sep G W ((RowE (α := Mv) own 115 vo f.moves) :: Rs) w21 := hS23.sel 3 [0] (Nat.le_add_left _ _) rfl rfl
  refine ⟨vo, rfl, hS24⟩
 ·skip
  have hc15 := of_decide_eq_true hc15
  refine zq rfl ?_
  refine zw ?_
  refine zd ?_
  refine zx ?_
  refine za (by kernel_rfl) (fun _ => ?_)
  refine st (zb (v := vo) rfl ?_)
  refine st (yE rfl ?_)
  refine st (zg (v := df0) Tryd.isAgg77 rfl (zh (hS13.blk (i := 2) rfl) rfl) ?_)
  refine st (zb (v := .int .i64 ((k : Nat) : Int)) rfl ?_)
  have hi25 : k < f.moves.length := (by first | omega | (simp only [lens]; omega))
  refine st (zm (k := 4) (i := k) Tryd.underlying77 Tryd.sizeOf115 rfl hdf0.sl rfl hi25 ?_)
  have hi27 : k < f.moves.length := (by first | omega | (simp only [lens]; omega))
  obtain ⟨hce26, hoke26⟩ := hdf0.mv hi27
  rw [← zk default hi27] at hce26 hoke26
  have hcw28 := hS13.cells hce26 (hdf0.foot (ne_of_lt hi27))
  refine st (zl (k := 4) Tryd.isAgg115 Tryd.sizeOf115 rfl rfl hcw28 ?_)
  refine st (zB (k := 4) (parts' := [(0, .agg ((f.moves.getD k default).cells).toArray)]) (c := ((f.moves.getD k default).cells).toArray) Tryd.underlying77 Tryd.sizeOf115 Tryd.zeroValue115 (by decide) rfl (by kernel_rfl) ?_)
  intro w31 b30 hn29
  have hS32 := hS13.new hn29
  have hbk36 := hS32.blk (i := 0) rfl
  have hS37 : Sep G W ((RowE (α := Mv) own 115 vo (f.moves.take k)) :: (Blk b6 #[.int .i64 (0), .int .i64 (0), .bool false, (.slice none 0 0)] 79) :: (Blk b2 (f.cells df0).toArray 79) :: Rs) w31 := hS32.sel 4 [1, 2, 3] (Nat.le_add_left _ _) rfl rfl
  have hS38 : Sep G W ((RowE (α := Mv) own 115 vo (f.moves.take k)) :: Emp :: (Blk b6 #[.int .i64 (0), .int .i64 (0), .bool false, (.slice none 0 0)] 79) :: (Blk b2 (f.cells df0).toArray 79) :: Rs) w31 := hS37.emp1
  refine st (yG (src := own) (bytes := 32) (x1 := (f.moves.getD k default)) hS38 QR rfl rfl hbk36 (fun _ _ _ => (show _ from ⟨rfl, hoke26⟩)) (by first | omega | (simp only [List.length_append, List.length_cons, List.length_nil, List.length_take, List.length_drop]; omega)) rfl ?_)
  intro v34 w33 hS35
  have hr39 := hS35.row (i := 0) rfl
  have hr39s : _ * 32 ≤ _ := hr39.2
  refine st (ze (v := v34) rfl ?_)
  refine zf ?_
  refine za (by kernel_rfl) (fun _ => ?_)
  refine st (zb (v := .int .i64 ((k : Nat) : Int)) rfl ?_)
  have hr40 : InR ((k + 1 : Nat) : Int) := by first | omega | (simp only [lens]; omega)
  refine st (ye (r := ((k + 1 : Nat) : Int)) (k := .i64) (a := ((k : Nat) : Int)) (b := 1) rfl rfl (by rw [show (((k : Nat) : Int) + 1 : Int) = ((k + 1 : Nat) : Int) by first | omega | (simp only [lens]; omega)]; exact zQ hr40) ?_)
  refine st (ze (v := .int .i64 ((k + 1 : Nat) : Int)) rfl ?_)
  refine zf ?_
  have hL41 : (f.moves.take (k + 1)) = (f.moves.take k) ++ [(f.moves.getD k default)] := (List.take_getD (by omega))
  rw [← hL41] at hS35
  exact ⟨_, by omega, k + 1, v34, _, rfl, zp ⟨rfl, rfl, rfl, rfl, trivial⟩, by omega, hS35⟩

theorem XF {G : Nat → Prop} {W w : World} {Rs : List HP} {d : Dcl} {dd0 : Value} (hdd0 : RdS W G dd0 d.types) {dd1 : Value} (hdd1 : RdS W G dd1 d.projs) (od : d.Ok) (hS0 : Sep G W Rs w) : Ret Tryd.prog 23 [.agg (d.cells dd0 dd1).toArray] w (fun r w' => ∃ (v1 : Value) (v2 : Value), r = (.agg (d.cells v1 v2).toArray : Value) ∧ Sep G W ((TypW v1 33 79 d.types) :: (RowE (α := Prj) own 107 v2 d.projs) :: Rs) w') := by
 have hdd0s : _ * 24 ≤ _ := hdd0.small
 have hdd1s : _ * 40 ≤ _ := hdd1.small
 refine zr (args := [.agg (d.cells dd0 dd1).toArray]) Tryd.func23 rfl rfl ?_
 refine zd ?_
 refine za (by kernel_rfl) (fun _ => ?_)
 refine st (yb (v := .agg (d.cells dd0 dd1).toArray) rfl ?_)
 intro w3 b2 hn1
 have hS4 := hS0.new hn1
 refine st (zE Tryd.zeroValue25 ?_)
 intro w7 b6 hn5
 have hS8 := hS4.new hn5
 refine zf ?_
 refine zd ?_
 refine za (by kernel_rfl) (fun _ => ?_)
 refine st (zE Tryd.zeroValue25 ?_)
 intro w11 b10 hn9
 have hS12 := hS8.new hn9
 refine zf ?_
 refine zd ?_
 refine zd ?_
 refine za (by kernel_rfl) (fun _ => ?_)
 refine st (ze (v := .int .i64 (0)) rfl ?_)
 refine zf ?_
 refine zx ?_
 have hS13 : Sep G W ((TypW (.slice none 0 0) 33 79 []) :: (Blk b10 #[(.slice none 0 0), (.slice none 0 0)] 25) :: (Blk b6 #[(.slice none 0 0), (.slice none 0 0)] 25) :: (Blk b2 (d.cells dd0 dd1).toArray 25) :: Rs) w11 := TypW.nil (T := 33) (Ti := 79) hS12
 refine yn (fun mq σ wq => ∃ (k : Nat) (vo : Value) (ρ : Env), mq = d.types.length - k ∧ σ = yp ρ [(1, .pointer (some ⟨b2, 0, none⟩)), (2, .pointer (some ⟨b6, 0, none⟩)), (3, .pointer (some ⟨b10, 0, none⟩)), (4, .int .i64 ((k : Nat) : Int))] ∧ (k ≤ d.types.length) ∧ Sep G W ((TypW vo 33 79 (d.types.take k)) :: (Blk b10 #[vo, (.slice none 0 0)] 25) :: (Blk b6 #[(.slice none 0 0), (.slice none 0 0)] 25) :: (Blk b2 (d.cells dd0 dd1).toArray 25) :: Rs) wq) ⟨0, (.slice none 0 0), _, rfl, zp ⟨rfl, rfl, rfl, rfl, trivial⟩, Nat.zero_le _, hS13⟩ ?_
 rintro m15 σ16 w14 ⟨k, vo, ρl1, rfl, rfl, hkk, hS17⟩
 refine zd ?_
 refine zd ?_
 refine za (by kernel_rfl) (fun _ => ?_)
 refine st (zb (v := .int .i64 ((k : Nat) : Int)) rfl ?_)
 refine st (yt rfl ?_)
 refine st (zg (v := dd0) Tryd.isAgg22 rfl (zh (hS17.blk (i := 3) rfl) rfl) ?_)
 refine st (zJ (n := d.types.length) Tryd.underlying22 rfl hdd0.sl ?_)
 refine st (zN (k := .i64) (a := ((k : Nat) : Int)) (b := ((d.types.length : Nat) : Int)) rfl rfl ?_)
 refine zf ?_
 cases hc18 : decide (((k : Nat) : Int) < ((d.types.length : Nat) : Int))
 ·skip
  have hc18 := of_decide_eq_false hc18
  have hkn : k = d.types.length := by omega
  rw [hkn, List.take_of_length_le (Nat.le_refl d.types.length)] at hS17
  refine zo rfl ?_
  refine ym ?_
  refine yd ?_
  refine zd ?_
  refine zd ?_
  refine za (by kernel_rfl) (fun _ => ?_)
  refine st (ze (v := .int .i64 (0)) rfl ?_)
  refine zf ?_
  refine zx ?_
  have hS19 : Sep G W ((RowE (α := Prj) own 107 (.slice none 0 0) ([] : List Prj)) :: (TypW vo 33 79 d.types) :: (Blk b10 #[vo, (.slice none 0 0)] 25) :: (Blk b6 #[(.slice none 0 0), (.slice none 0 0)] 25) :: (Blk b2 (d.cells dd0 dd1).toArray 25) :: Rs) w14 := hS17.rowNil own 107
  refine yn (fun mq σ wq => ∃ (k : Nat) (vp : Value) (ρ : Env), mq = d.projs.length - k ∧ σ = yp ρ [(1, .pointer (some ⟨b2, 0, none⟩)), (2, .pointer (some ⟨b6, 0, none⟩)), (3, .pointer (some ⟨b10, 0, none⟩)), (7, .int .i64 ((k : Nat) : Int))] ∧ (k ≤ d.projs.length) ∧ Sep G W ((RowE (α := Prj) own 107 vp (d.projs.take k)) :: (TypW vo 33 79 d.types) :: (Blk b10 #[vo, vp] 25) :: (Blk b6 #[(.slice none 0 0), (.slice none 0 0)] 25) :: (Blk b2 (d.cells dd0 dd1).toArray 25) :: Rs) wq) ⟨0, (.slice none 0 0), _, rfl, zp ⟨rfl, rfl, rfl, rfl, trivial⟩, Nat.zero_le _, hS19⟩ ?_
  rintro m21 σ22 w20 ⟨k, vp, ρl2, rfl, rfl, hkk, hS23⟩
  have hr24 := hS23.row (i := 0) rfl
  have hr24s : _ * 40 ≤ _ := hr24.2
  refine zd ?_
  refine zd ?_
  refine za (by kernel_rfl) (fun _ => ?_)
  refine st (zb (v := .int .i64 ((k : Nat) : Int)) rfl ?_)
  refine st (xK rfl ?_)
  refine st (zg (v := dd1) Tryd.isAgg23 rfl (zh (hS23.blk (i := 4) rfl) rfl) ?_)
  refine st (zJ (n := d.projs.length) Tryd.underlying23 rfl hdd1.sl ?_)
  refine st (zN (k := .i64) (a := ((k : Nat) : Int)) (b := ((d.projs.length : Nat) : Int)) rfl rfl ?_)
  refine zf ?_
  cases hc25 : decide (((k : Nat) : Int) < ((d.projs.length : Nat) : Int))
  ·skip
   have hc25 := of_decide_eq_false hc25
   have hkn : k = d.projs.length := by omega
   rw [hkn, List.take_of_length_le (Nat.le_refl d.projs.length)] at hS23
   have hr26 := hS23.row (i := 0) rfl
   have hr26s : _ * 40 ≤ _ := hr26.2
   refine zo rfl ?_
   refine ym ?_
   refine yd ?_
   refine zd ?_
   refine za (by kernel_rfl) (fun _ => ?_)
   refine st (zl (k := 2) Tryd.isAgg25 Tryd.sizeOf25 rfl rfl (CellsAt.all (hS23.blk (i := 2) rfl)) ?_)
   refine stn (zy (v := .agg (d.cells vo vp).toArray) (c' := (d.cells vo vp).toArray) Tryd.sizeOf25 rfl rfl (hS23.blk (i := 3) rfl) (yj ⟨(hS23.typSl (i := 1) rfl).one, hr26.1.one, trivial⟩) (Nat.le_of_ble_eq_true rfl) rfl ?_)
   intro w27 hp28
   have hS29 := hS23.pt3 hp28
   refine zf ?_
   refine zu ?_
   refine XJ (b := b6) Tryd.results23 Tryd.isAgg25 Tryd.sizeOf25 rfl rfl (CellsAt.all (hS29.blk (i := 3) rfl)) ?_
   have hS30 : Sep G W ((TypW vo 33 79 d.types) :: (RowE (α := Prj) own 107 vp d.projs) :: Rs) w27 := hS29.sel 5 [1, 0] (Nat.le_add_left _ _) rfl rfl
   refine ⟨vo, vp, rfl, hS30⟩
  ·skip
   have hc25 := of_decide_eq_true hc25
   refine zq rfl ?_
   refine zw ?_
   refine zd ?_
   refine zx ?_
   refine zP ((fun TT pp0 pp1 pp2 => WF [fun vals wq => Sep G W (pp0 :: pp1 :: pp2 :: TT) wq, fun vals wq => ∃ (b95 : Nat), (vals 7 = ((.slice (some ⟨b95, 0, none⟩) 1 1) : Value)) ∧ Sep G W ((Blk b95 ((d.projs.getD k default).cells).toArray 107) :: pp0 :: pp1 :: pp2 :: TT) wq, fun vals wq => ∃ (b95 : Nat) (v108 : Value), (vals 7 = ((.slice (some ⟨b95, 0, none⟩) 1 1) : Value)) ∧ (vals 8 = (v108 : Value)) ∧ Sep G W ((RowE (α := Prj) own 107 v108 ((d.projs.take k) ++ [(d.projs.getD k default)])) :: pp1 :: pp2 :: TT) wq, fun vals wq => ∃ (b95 : Nat) (v108 : Value), (vals 7 = ((.slice (some ⟨b95, 0, none⟩) 1 1) : Value)) ∧ (vals 8 = (v108 : Value)) ∧ Sep G W ((RowE (α := Prj) own 107 v108 ((d.projs.take k) ++ [(d.projs.getD k default)])) :: pp1 :: (Blk b10 (d.cells vo v108).toArray 25) :: TT) wq]) ((Blk b6 #[(.slice none 0 0), (.slice none 0 0)] 25) :: (Blk b2 (d.cells dd0 dd1).toArray 25) :: Rs) (RowE (α := Prj) own 107 vp (d.projs.take k)) (TypW vo 33 79 d.types) (Blk b10 #[vo, vp] 25)) (AF [Vl 0 (.pointer (some ⟨b10, 1, none⟩)), Vl 1 (vp), Vl 2 (.pointer (some ⟨b2, 1, none⟩)), Vl 3 (dd1), Vl 4 (.int .i64 ((k : Nat) : Int)), Vl 5 (.pointer (some ⟨sb dd1, so dd1 + k * 5, none⟩)), Vl 6 (.agg ((d.projs.getD k default).cells).toArray), fun _ => True, fun _ => True, Vl 9 (.pointer (some ⟨b10, 1, none⟩)), fun _ => True]) [[], [0], [], [2], [], [2, 3, 4], [2, 3, 4, 5], [2, 3, 4, 5, 6], [0, 1, 2, 3, 4, 5, 6, 7], [0, 1, 2, 3, 4, 5, 6, 7, 8], [0, 1, 2, 3, 4, 5, 6, 7, 8, 9]] [7, 8, 10] [(0, 1), (0, 1), (0, 0), (0, 0), (0, 0), (0, 0), (0, 0), (0, 0), (1, 1), (2, 2), (2, 2)] (by kernel_rfl) (by kernel_rfl) (by kernel_rfl) rfl (by kernel_rfl) (by kernel_rfl) (fun _ h1 h2 h3 h4 _ => hS23.same h1 h2 h3 h4) ?_ (yg ⟨dA, dA, dA, dA, dA, dA, dA, dT, dT, dA, dT, trivial⟩) ⟨?_, ?_, ?_, ?_, ?_, ?_, ?_, ?_, ?_, ?_, ?_, trivial⟩ ?_
   ·intro k vals vals' w hv h
    have e : ∀ j ∈ ([7, 8, 10] : List Nat), vals' j = vals j := hv
    match k, h with
    | 0, h => exact h
    | 1, h => exact (by simpa only [WF, List.getElem?_cons_zero, List.getElem?_cons_succ, e 7 (by decide)] using h)
    | 2, h => exact (by simpa only [WF, List.getElem?_cons_zero, List.getElem?_cons_succ, e 7 (by decide), e 8 (by decide)] using h)
    | 3, h => exact (by simpa only [WF, List.getElem?_cons_zero, List.getElem?_cons_succ, e 7 (by decide), e 8 (by decide)] using h)
    | _ + 4, _ => trivial
   ·intro k136 vals w137 h140 h141 hW139 hA138
    refine obl rfl ?_
    exact xK rfl (fun vals' hv _ => ⟨rfl, hv⟩)
   ·intro k142 vals w143 h146 h147 hW145 hA144
    have hkk : k142 = 0 ∨ k142 = 1 := by have h1 : 0 ≤ k142 := h146; have h2 : k142 ≤ 1 := h147; omega
    rcases hkk with rfl | rfl
    ·skip
     have hS148 : Sep _ _ _ _ := hW145
     have e149 := hA144 0 (by decide)
     refine obl rfl ?_
     exact zg (v := vp) Tryd.isAgg23 e149 (zh (hS148.blk (i := 2) rfl) rfl) (fun vals' hv _ => ⟨rfl, hv⟩)
    ·skip
     obtain ⟨b95, he98, hS150⟩ := hW145
     have e151 := hA144 0 (by decide)
     refine obl rfl ?_
     exact zg (v := vp) Tryd.isAgg23 e151 (zh (hS150.blk (i := 3) rfl) rfl) (fun vals' hv _ => ⟨rfl, hv⟩)
   ·intro k152 vals w153 h156 h157 hW155 hA154
    refine obl rfl ?_
    exact xK rfl (fun vals' hv _ => ⟨rfl, hv⟩)
   ·intro k158 vals w159 h162 h163 hW161 hA160
    obtain rfl : k158 = 0 := Nat.le_antisymm h163 h162
    have hS164 : Sep _ _ _ _ := hW161
    have e165 := hA160 2 (by decide)
    refine obl rfl ?_
    exact zg (v := dd1) Tryd.isAgg23 e165 (zh (hS164.blk (i := 4) rfl) rfl) (fun vals' hv _ => ⟨rfl, hv⟩)
   ·intro k166 vals w167 h170 h171 hW169 hA168
    refine obl rfl ?_
    exact zb (v := .int .i64 ((k : Nat) : Int)) rfl (fun vals' hv _ => ⟨rfl, hv⟩)
   ·intro k172 vals w173 h176 h177 hW175 hA174
    obtain rfl : k172 = 0 := Nat.le_antisymm h177 h176
    have hS178 : Sep _ _ _ _ := hW175
    have e179 := hA174 3 (by decide)
    have e180 := hA174 4 (by decide)
    refine obl rfl ?_
    have hi181 : k < d.projs.length := (by first | omega | (simp only [lens]; omega))
    exact zm (k := 5) (i := k) Tryd.underlying23 Tryd.sizeOf107 e179 hdd1.sl e180 hi181 (fun vals' hv _ => ⟨rfl, hv⟩)
   ·intro k182 vals w183 h186 h187 hW185 hA184
    obtain rfl : k182 = 0 := Nat.le_antisymm h187 h186
    have hS188 : Sep _ _ _ _ := hW185
    have e189 := hA184 5 (by decide)
    refine obl rfl ?_
    have hi191 : k < d.projs.length := (by first | omega | (simp only [lens]; omega))
    obtain ⟨hce190, hoke190⟩ := hdd1.prj hi191
    rw [← zk default hi191] at hce190 hoke190
    have hcw192 := hS188.cells hce190 (hdd1.foot (ne_of_lt hi191))
    exact zl (k := 5) Tryd.isAgg107 Tryd.sizeOf107 rfl e189 hcw192 (fun vals' hv _ => ⟨rfl, hv⟩)
   ·intro k86 vals w87 h90 h91 hW89 hA88
    obtain rfl : k86 = 0 := Nat.le_antisymm h91 h90
    have hS92 : Sep _ _ _ _ := hW89
    have e93 := hA88 6 (by decide)
    refine obl rfl ?_
    refine (zB (k := 5) (parts' := [(0, .agg ((d.projs.getD k default).cells).toArray)]) (c := ((d.projs.getD k default).cells).toArray) Tryd.underlying23 Tryd.sizeOf107 Tryd.zeroValue107 (by decide) (xE ⟨rfl, e93, trivial⟩) (by kernel_rfl) ?_)
    intro w96 b95 hn94
    have hS97 := hS92.new hn94
    intro vals' hv hv'
    refine ⟨?_, trivial⟩
    show ∃ (b95 : Nat), (vals' 7 = ((.slice (some ⟨b95, 0, none⟩) 1 1) : Value)) ∧ Sep G W ((Blk b95 ((d.projs.getD k default).cells).toArray 107) :: (RowE (α := Prj) own 107 vp (d.projs.take k)) :: (TypW vo 33 79 d.types) :: (Blk b10 #[vo, vp] 25) :: (Blk b6 #[(.slice none 0 0), (.slice none 0 0)] 25) :: (Blk b2 (d.cells dd0 dd1).toArray 25) :: Rs) w96
    exact ⟨b95, hv, hS97⟩
   ·intro k99 vals w100 h103 h104 hW102 hA101
    obtain rfl : k99 = 1 := Nat.le_antisymm h104 h103
    obtain ⟨b95, he98, hS105⟩ := hW102
    have e106 := hA101 1 (by decide)
    refine obl rfl ?_
    have hbk110 := hS105.blk (i := 0) rfl
    have hS111 : Sep G W ((RowE (α := Prj) own 107 vp (d.projs.take k)) :: (TypW vo 33 79 d.types) :: (Blk b10 #[vo, vp] 25) :: (Blk b6 #[(.slice none 0 0), (.slice none 0 0)] 25) :: (Blk b2 (d.cells dd0 dd1).toArray 25) :: Rs) w100 := hS105.sel 6 [1, 2, 3, 4, 5] (Nat.le_add_left _ _) rfl rfl
    have hS112 : Sep G W ((RowE (α := Prj) own 107 vp (d.projs.take k)) :: Emp :: (TypW vo 33 79 d.types) :: (Blk b10 #[vo, vp] 25) :: (Blk b6 #[(.slice none 0 0), (.slice none 0 0)] 25) :: (Blk b2 (d.cells dd0 dd1).toArray 25) :: Rs) w100 := hS111.emp1
    have hi114 : k < d.projs.length := (by first | omega | (simp only [lens]; omega))
    obtain ⟨hce113, hoke113⟩ := hdd1.prj hi114
    rw [← zk default hi114] at hce113 hoke113
    have hcw115 := hS112.cells hce113 (hdd1.foot (ne_of_lt hi114))
    refine (yG (src := own) (bytes := 40) (x1 := (d.projs.getD k default)) hS112 el23 e106 he98 hbk110 (fun _ _ _ => (show _ from ⟨rfl, hoke113⟩)) (by first | omega | (simp only [List.length_append, List.length_cons, List.length_nil, List.length_take, List.length_drop]; omega)) rfl ?_)
    intro v108 w107 hS109
    have hr116 := hS109.row (i := 0) rfl
    have hr116s : _ * 40 ≤ _ := hr116.2
    intro vals' hv hv'
    refine ⟨?_, trivial⟩
    show ∃ (b95 : Nat) (v108 : Value), (vals' 7 = ((.slice (some ⟨b95, 0, none⟩) 1 1) : Value)) ∧ (vals' 8 = (v108 : Value)) ∧ Sep G W ((RowE (α := Prj) own 107 v108 ((d.projs.take k) ++ [(d.projs.getD k default)])) :: (TypW vo 33 79 d.types) :: (Blk b10 #[vo, vp] 25) :: (Blk b6 #[(.slice none 0 0), (.slice none 0 0)] 25) :: (Blk b2 (d.cells dd0 dd1).toArray 25) :: Rs) w107
    exact ⟨b95, v108, (by rw [hv' 7 (by decide)]; exact he98), hv, hS109⟩
   ·intro k193 vals w194 h197 h198 hW196 hA195
    refine obl rfl ?_
    exact xK rfl (fun vals' hv _ => ⟨rfl, hv⟩)
   ·intro k124 vals w125 h128 h129 hW127 hA126
    obtain rfl : k124 = 2 := Nat.le_antisymm h129 h128
    obtain ⟨b95, v108, he98, he117, hS130⟩ := hW127
    have e131 := hA126 9 (by decide)
    refine obl rfl ?_
    have hr134 := hS130.row (i := 0) rfl
    have hr134s : _ * 40 ≤ _ := hr134.2
    refine (yK (v := v108) (c := [vo, vp]) (c' := [vo, v108]) Tryd.sizeOf23 e131 he117 (hS130.blk (i := 2) rfl) hr134.1.one rfl rfl ?_)
    intro w132 hp133
    have hS135 := hS130.pt2 hp133
    intro vals' hv hv'
    refine ⟨?_, trivial⟩
    show ∃ (b95 : Nat) (v108 : Value), (vals' 7 = ((.slice (some ⟨b95, 0, none⟩) 1 1) : Value)) ∧ (vals' 8 = (v108 : Value)) ∧ Sep G W ((RowE (α := Prj) own 107 v108 ((d.projs.take k) ++ [(d.projs.getD k default)])) :: (TypW vo 33 79 d.types) :: (Blk b10 (d.cells vo v108).toArray 25) :: (Blk b6 #[(.slice none 0 0), (.slice none 0 0)] 25) :: (Blk b2 (d.cells dd0 dd1).toArray 25) :: Rs) w132
    exact ⟨b95, v108, (by rw [hv' 7 (by decide)]; exact he98), (by rw [hv' 8 (by decide)]; exact he117), hS135⟩
   intro vals w199 hW200 hA201
   obtain ⟨b95, v108, he98, he117, hS202⟩ := hW200
   refine yh (kv := [(1, .pointer (some ⟨b2, 0, none⟩)), (2, .pointer (some ⟨b6, 0, none⟩)), (3, .pointer (some ⟨b10, 0, none⟩)), (7, .int .i64 ((k : Nat) : Int)), (48, .int .i64 ((k : Nat) : Int)), (49, .pointer (some ⟨b2, 1, none⟩)), (50, dd1), (51, .int .i64 ((d.projs.length : Nat) : Int)), (52, .bool true)]) ⟨rfl, rfl, rfl, rfl, rfl, rfl, rfl, rfl, rfl, trivial⟩ (fun ρw199 => ?_)
   refine zf ?_
   refine za (by kernel_rfl) (fun _ => ?_)
   refine st (zb (v := .int .i64 ((k : Nat) : Int)) rfl ?_)
   have hr203 : InR ((k + 1 : Nat) : Int) := by first | omega | (simp only [lens]; omega)
   refine st (ye (r := ((k + 1 : Nat) : Int)) (k := .i64) (a := ((k : Nat) : Int)) (b := 1) rfl rfl (by rw [show (((k : Nat) : Int) + 1 : Int) = ((k + 1 : Nat) : Int) by first | omega | (simp only [lens]; omega)]; exact zQ hr203) ?_)
   refine st (ze (v := .int .i64 ((k + 1 : Nat) : Int)) rfl ?_)
   refine zf ?_
   have hL204 : (d.projs.take (k + 1)) = (d.projs.take k) ++ [(d.projs.getD k default)] := (List.take_getD (by omega))
   rw [← hL204] at hS202
   exact ⟨_, by omega, k + 1, v108, _, rfl, zp ⟨rfl, rfl, rfl, rfl, trivial⟩, by omega, hS202⟩
 ·skip
  have hc18 := of_decide_eq_true hc18
  refine zq rfl ?_
  refine zw ?_
  refine zd ?_
  refine zx ?_
  refine zd ?_
  refine za (by kernel_rfl) (fun _ => ?_)
  have ok205 : Typ.Ok (⟨[]⟩ : Typ) := ⟨⟩
  refine st (zS (parts' := []) (v := .agg ((⟨[]⟩ : Typ).cells (.slice none 0 0)).toArray) rfl (by simp [Instr.build, Instr.fill, Ev.cells, go_sem, Mv.cells, Fld.cells, Typ.cells, Prj.cells, Dcl.cells, Cel.cells, AskR.cells, Ask.cells, CelS.cells, Ev.cells, Ent.cells, Sta.cells]) ?_)
  refine st (zE Tryd.zeroValue33 ?_)
  intro w208 b207 hn206
  have hS209 := hS17.new hn206
  refine stn (zy (v := .agg ((⟨[]⟩ : Typ).cells (.slice none 0 0)).toArray) (c' := ((⟨[]⟩ : Typ).cells (.slice none 0 0)).toArray) Tryd.sizeOf33 rfl rfl (hS209.blk (i := 0) rfl) (yj ⟨rfl, trivial⟩) (Nat.le_of_ble_eq_true rfl) rfl ?_)
  intro w210 hp211
  have hS212 := hS209.pt0 hp211
  refine zf ?_
  refine zd ?_
  refine zd ?_
  refine za (by kernel_rfl) (fun _ => ?_)
  refine st (ze (v := .int .i64 (0)) rfl ?_)
  refine zf ?_
  refine zx ?_
  have hS213 : Sep G W ((RowE (α := Fld) own 79 (.slice none 0 0) ([] : List Fld)) :: (Blk b207 ((⟨[]⟩ : Typ).cells (.slice none 0 0)).toArray 33) :: (TypW vo 33 79 (d.types.take k)) :: (Blk b10 #[vo, (.slice none 0 0)] 25) :: (Blk b6 #[(.slice none 0 0), (.slice none 0 0)] 25) :: (Blk b2 (d.cells dd0 dd1).toArray 25) :: Rs) w210 := hS212.rowNil own 79
  refine yn (fun mq σ wq => ∃ (q : Nat) (vq : Value) (ρ : Env), mq = ((d.types.getD k default).fields).length - q ∧ σ = yp ρ [(1, .pointer (some ⟨b2, 0, none⟩)), (2, .pointer (some ⟨b6, 0, none⟩)), (3, .pointer (some ⟨b10, 0, none⟩)), (4, .int .i64 ((k : Nat) : Int)), (5, .pointer (some ⟨b207, 0, none⟩)), (6, .int .i64 ((q : Nat) : Int))] ∧ (q ≤ ((d.types.getD k default).fields).length) ∧ Sep G W ((RowE (α := Fld) own 79 vq (((d.types.getD k default).fields).take q)) :: (Blk b207 #[vq] 33) :: (TypW vo 33 79 (d.types.take k)) :: (Blk b10 #[vo, (.slice none 0 0)] 25) :: (Blk b6 #[(.slice none 0 0), (.slice none 0 0)] 25) :: (Blk b2 (d.cells dd0 dd1).toArray 25) :: Rs) wq) ⟨0, (.slice none 0 0), _, rfl, zp ⟨rfl, rfl, rfl, rfl, rfl, rfl, trivial⟩, Nat.zero_le _, hS213⟩ ?_
  rintro m215 σ216 w214 ⟨q, vq, ρl3, rfl, rfl, hkq, hS217⟩
  have hr218 := hS217.row (i := 0) rfl
  have hr218s : _ * 48 ≤ _ := hr218.2
  refine zd ?_
  refine zd ?_
  refine za (by kernel_rfl) (fun _ => ?_)
  refine st (zb (v := .int .i64 ((q : Nat) : Int)) rfl ?_)
  refine st (yt rfl ?_)
  refine st (zg (v := dd0) Tryd.isAgg22 rfl (zh (hS217.blk (i := 5) rfl) rfl) ?_)
  refine st (zb (v := .int .i64 ((k : Nat) : Int)) rfl ?_)
  have hi219 : k < d.types.length := (by first | omega | (simp only [lens]; omega))
  refine st (zm (k := 1) (i := k) Tryd.underlying22 Tryd.sizeOf33 rfl hdd0.sl rfl hi219 ?_)
  refine st (yC rfl ?_)
  have hi221 : k < d.types.length := (by first | omega | (simp only [lens]; omega))
  obtain ⟨hce220, hde220_0, hoke220⟩ := hdd0.typ hi221
  rw [← zk default hi221] at hce220 hde220_0 hoke220
  have hsm222 : ((d.types.getD k default).fields).length * 48 ≤ 140737488355328 := hde220_0.small
  have hcw223 := hS217.cells hce220 (hdd0.foot (ne_of_lt hi221))
  refine st (zg (v := (zi W (sb dd0) (so dd0 + k * 1 + 0))) Tryd.isAgg31 rfl (hcw223.get (j := 0) rfl) ?_)
  refine st (zJ (n := ((d.types.getD k default).fields).length) Tryd.underlying31 rfl hde220_0.sl ?_)
  refine st (zN (k := .i64) (a := ((q : Nat) : Int)) (b := ((((d.types.getD k default).fields).length : Nat) : Int)) rfl rfl ?_)
  refine zf ?_
  cases hc224 : decide (((q : Nat) : Int) < ((((d.types.getD k default).fields).length : Nat) : Int))
  ·skip
   have hc224 := of_decide_eq_false hc224
   have hkn : q = ((d.types.getD k default).fields).length := by omega
   rw [hkn, List.take_of_length_le (Nat.le_refl ((d.types.getD k default).fields).length)] at hS217
   have hr225 := hS217.row (i := 0) rfl
   have hr225s : _ * 48 ≤ _ := hr225.2
   refine zo rfl ?_
   refine ym ?_
   refine yd ?_
   refine za (by kernel_rfl) (fun _ => ?_)
   refine st (yt rfl ?_)
   refine st (zg (v := vo) Tryd.isAgg22 rfl (zh (hS217.blk (i := 3) rfl) rfl) ?_)
   have ok226 : Typ.Ok (d.types.getD k default) := ⟨⟩
   refine st (zl (k := 1) Tryd.isAgg33 Tryd.sizeOf33 rfl rfl (CellsAt.all (hS217.blk (i := 1) rfl)) ?_)
   refine st (zB (k := 1) (parts' := [(0, .agg ((d.types.getD k default).cells vq).toArray)]) (c := ((d.types.getD k default).cells vq).toArray) Tryd.underlying22 Tryd.sizeOf33 Tryd.zeroValue33 (by decide) rfl (by kernel_rfl) ?_)
   intro w229 b228 hn227
   have hS230 := hS217.new hn227
   have hS231 := hS230.mv3
   obtain ⟨sh232, hsh233, hS234⟩ := TypW.open hS231
   have hS234t : Sep G W ((RowE (α := TypS) own 33 vo sh232) :: (Star (FldRows 79 sh232 (d.types.take k))) :: (Blk b228 ((d.types.getD k default).cells vq).toArray 33) :: (RowE (α := Fld) own 79 vq ((d.types.getD k default).fields)) :: (Blk b207 #[vq] 33) :: (Blk b10 #[vo, (.slice none 0 0)] 25) :: (Blk b6 #[(.slice none 0 0), (.slice none 0 0)] 25) :: (Blk b2 (d.cells dd0 dd1).toArray 25) :: Rs) w229 := hS234
   have hr235 := hS234t.row (i := 0) rfl
   have hr235s : _ * 24 ≤ _ := hr235.2
   have hsh233l := hsh233
   rw [List.length_take] at hsh233l
   have hbk239 := hS234t.blk (i := 2) rfl
   have hS240 : Sep G W ((RowE (α := TypS) own 33 vo sh232) :: (Star (FldRows 79 sh232 (d.types.take k))) :: (RowE (α := Fld) own 79 vq ((d.types.getD k default).fields)) :: (Blk b207 #[vq] 33) :: (Blk b10 #[vo, (.slice none 0 0)] 25) :: (Blk b6 #[(.slice none 0 0), (.slice none 0 0)] 25) :: (Blk b2 (d.cells dd0 dd1).toArray 25) :: Rs) w229 := hS234t.sel 8 [0, 1, 3, 4, 5, 6, 7] (Nat.le_add_left _ _) rfl rfl
   have hS241 : Sep G W ((RowE (α := TypS) own 33 vo sh232) :: Emp :: (Star (FldRows 79 sh232 (d.types.take k))) :: (RowE (α := Fld) own 79 vq ((d.types.getD k default).fields)) :: (Blk b207 #[vq] 33) :: (Blk b10 #[vo, (.slice none 0 0)] 25) :: (Blk b6 #[(.slice none 0 0), (.slice none 0 0)] 25) :: (Blk b2 (d.cells dd0 dd1).toArray 25) :: Rs) w229 := hS240.emp1
   refine st (yG (src := own) (bytes := 24) (x1 := (⟨vq⟩ : TypS)) hS241 el22 rfl rfl hbk239 (fun _ _ _ => (show _ from ⟨rfl, ⟨hr225.1.one⟩⟩)) (by first | omega | (simp only [List.length_append, List.length_cons, List.length_nil, List.length_take, List.length_drop]; omega)) rfl ?_)
   intro v237 w236 hS238
   have hr242 := hS238.row (i := 0) rfl
   have hr242s : _ * 24 ≤ _ := hr242.2
   have hS243 : Sep G W ((TypW v237 33 79 ((d.types.take k) ++ [(d.types.getD k default)])) :: (Blk b207 #[vq] 33) :: (Blk b10 #[vo, (.slice none 0 0)] 25) :: (Blk b6 #[(.slice none 0 0), (.slice none 0 0)] 25) :: (Blk b2 (d.cells dd0 dd1).toArray 25) :: Rs) w236 := TypW.snoc (c := (d.types.getD k default)) hsh233 hS238
   refine st (yt rfl ?_)
   refine stn (yK (v := v237) (c := [vo, (.slice none 0 0)]) (c' := [v237, (.slice none 0 0)]) Tryd.sizeOf22 rfl rfl (hS243.blk (i := 2) rfl) (hS243.typSl (i := 0) rfl).one rfl rfl ?_)
   intro w244 hp245
   have hS246 := hS243.pt2 hp245
   refine zf ?_
   refine za (by kernel_rfl) (fun _ => ?_)
   refine st (zb (v := .int .i64 ((k : Nat) : Int)) rfl ?_)
   have hr247 : InR ((k + 1 : Nat) : Int) := by first | omega | (simp only [lens]; omega)
   refine st (ye (r := ((k + 1 : Nat) : Int)) (k := .i64) (a := ((k : Nat) : Int)) (b := 1) rfl rfl (by rw [show (((k : Nat) : Int) + 1 : Int) = ((k + 1 : Nat) : Int) by first | omega | (simp only [lens]; omega)]; exact zQ hr247) ?_)
   refine st (ze (v := .int .i64 ((k + 1 : Nat) : Int)) rfl ?_)
   refine zf ?_
   have hS248 : Sep G W ((TypW v237 33 79 ((d.types.take k) ++ [(d.types.getD k default)])) :: (Blk b10 (d.cells v237 (.slice none 0 0)).toArray 25) :: (Blk b6 #[(.slice none 0 0), (.slice none 0 0)] 25) :: (Blk b2 (d.cells dd0 dd1).toArray 25) :: Rs) w244 := hS246.sel 5 [0, 2, 3, 4] (Nat.le_add_left _ _) rfl rfl
   have hL249 : d.types.take (k + 1) = ((d.types.take k) ++ [(d.types.getD k default)]) := (List.take_getD (by omega))
   rw [← hL249] at hS248
   exact ⟨_, by omega, k + 1, v237, _, rfl, zp ⟨rfl, rfl, rfl, rfl, trivial⟩, by omega, hS248⟩
  ·skip
   have hc224 := of_decide_eq_true hc224
   refine zq rfl ?_
   refine zw ?_
   refine zd ?_
   refine zx ?_
   refine zP ((fun TT pp0 pp1 => WF [fun vals wq => Sep G W (pp0 :: pp1 :: TT) wq, fun vals wq => ∃ (v351 : Value), (vals 11 = (.agg ((((d.types.getD k default).fields).getD q default).cells v351).toArray : Value)) ∧ Sep G W ((RowE (α := Mv) own 115 v351 ((((d.types.getD k default).fields).getD q default).moves)) :: pp0 :: pp1 :: TT) wq, fun vals wq => ∃ (v351 : Value) (b364 : Nat), (vals 11 = (.agg ((((d.types.getD k default).fields).getD q default).cells v351).toArray : Value)) ∧ (vals 12 = ((.slice (some ⟨b364, 0, none⟩) 1 1) : Value)) ∧ Sep G W ((Blk b364 ((((d.types.getD k default).fields).getD q default).cells v351).toArray 79) :: (RowE (α := Mv) own 115 v351 ((((d.types.getD k default).fields).getD q default).moves)) :: pp0 :: pp1 :: TT) wq, fun vals wq => ∃ (v351 : Value) (b364 : Nat) (v377 : Value), (vals 11 = (.agg ((((d.types.getD k default).fields).getD q default).cells v351).toArray : Value)) ∧ (vals 12 = ((.slice (some ⟨b364, 0, none⟩) 1 1) : Value)) ∧ (vals 13 = (v377 : Value)) ∧ Sep G W ((RowE (α := Fld) own 79 v377 ((((d.types.getD k default).fields).take q) ++ [(((d.types.getD k default).fields).getD q default)])) :: pp1 :: TT) wq, fun vals wq => ∃ (v351 : Value) (b364 : Nat) (v377 : Value), (vals 11 = (.agg ((((d.types.getD k default).fields).getD q default).cells v351).toArray : Value)) ∧ (vals 12 = ((.slice (some ⟨b364, 0, none⟩) 1 1) : Value)) ∧ (vals 13 = (v377 : Value)) ∧ Sep G W ((RowE (α := Fld) own 79 v377 ((((d.types.getD k default).fields).take q) ++ [(((d.types.getD k default).fields).getD q default)])) :: (Blk b207 #[v377] 33) :: TT) wq]) ((TypW vo 33 79 (d.types.take k)) :: (Blk b10 #[vo, (.slice none 0 0)] 25) :: (Blk b6 #[(.slice none 0 0), (.slice none 0 0)] 25) :: (Blk b2 (d.cells dd0 dd1).toArray 25) :: Rs) (RowE (α := Fld) own 79 vq (((d.types.getD k default).fields).take q)) (Blk b207 #[vq] 33)) (AF [Vl 0 (.pointer (some ⟨b207, 0, none⟩)), Vl 1 (vq), Vl 2 (.pointer (some ⟨b2, 0, none⟩)), Vl 3 (dd0), Vl 4 (.int .i64 ((k : Nat) : Int)), Vl 5 (.pointer (some ⟨sb dd0, so dd0 + k * 1, none⟩)), Vl 6 (.pointer (some ⟨sb dd0, so dd0 + k * 1, none⟩)), Vl 7 ((zi W (sb dd0) (so dd0 + k * 1 + 0))), Vl 8 (.int .i64 ((q : Nat) : Int)), Vl 9 (.pointer (some ⟨sb (zi W (sb dd0) (so dd0 + k * 1 + 0)), so (zi W (sb dd0) (so dd0 + k * 1 + 0)) + q * 4, none⟩)), Vl 10 (.agg ((((d.types.getD k default).fields).getD q default).cells (zi W (sb (zi W (sb dd0) (so dd0 + k * 1 + 0))) (so (zi W (sb dd0) (so dd0 + k * 1 + 0)) + q * 4 + 3))).toArray), fun _ => True, fun _ => True, fun _ => True, Vl 14 (.pointer (some ⟨b207, 0, none⟩)), fun _ => True]) [[], [0], [], [2], [], [2, 3, 4], [2, 3, 4, 5], [2, 3, 4, 5, 6], [], [2, 3, 4, 5, 6, 7, 8], [2, 3, 4, 5, 6, 7, 8, 9], [2, 3, 4, 5, 6, 7, 8, 9, 10], [2, 3, 4, 5, 6, 7, 8, 9, 10, 11], [0, 1, 2, 3, 4, 5, 6, 7, 8, 9, 10, 11, 12], [0, 1, 2, 3, 4, 5, 6, 7, 8, 9, 10, 11, 12, 13], [0, 1, 2, 3, 4, 5, 6, 7, 8, 9, 10, 11, 12, 13, 14]] [11, 12, 13, 15] [(0, 2), (0, 2), (0, 0), (0, 0), (0, 0), (0, 0), (0, 0), (0, 0), (0, 0), (0, 0), (0, 0), (0, 0), (1, 1), (2, 2), (3, 3), (3, 3)] (by kernel_rfl) (by kernel_rfl) (by kernel_rfl) rfl (by kernel_rfl) (by kernel_rfl) (fun _ h1 h2 h3 h4 _ => hS217.same h1 h2 h3 h4) ?_ (yg ⟨dA, dA, dA, dA, dA, dA, dA, dA, dA, dA, dA, dT, dT, dT, dA, dT, trivial⟩) ⟨?_, ?_, ?_, ?_, ?_, ?_, ?_, ?_, ?_, ?_, ?_, ?_, ?_, ?_, ?_, ?_, trivial⟩ ?_
   ·intro k vals vals' w hv h
    have e : ∀ j ∈ ([11, 12, 13, 15] : List Nat), vals' j = vals j := hv
    match k, h with
    | 0, h => exact h
    | 1, h => exact (by simpa only [WF, List.getElem?_cons_zero, List.getElem?_cons_succ, e 11 (by decide)] using h)
    | 2, h => exact (by simpa only [WF, List.getElem?_cons_zero, List.getElem?_cons_succ, e 11 (by decide), e 12 (by decide)] using h)
    | 3, h => exact (by simpa only [WF, List.getElem?_cons_zero, List.getElem?_cons_succ, e 11 (by decide), e 12 (by decide), e 13 (by decide)] using h)
    | 4, h => exact (by simpa only [WF, List.getElem?_cons_zero, List.getElem?_cons_succ, e 11 (by decide), e 12 (by decide), e 13 (by decide)] using h)
    | _ + 5, _ => trivial
   ·intro k405 vals w406 h409 h410 hW408 hA407
    refine obl rfl ?_
    exact yC rfl (fun vals' hv _ => ⟨rfl, hv⟩)
   ·intro k411 vals w412 h415 h416 hW414 hA413
    have hkk : k411 = 0 ∨ k411 = 1 ∨ k411 = 2 := by have h1 : 0 ≤ k411 := h415; have h2 : k411 ≤ 2 := h416; omega
    rcases hkk with rfl | rfl | rfl
    ·skip
     have hS417 : Sep _ _ _ _ := hW414
     have e418 := hA413 0 (by decide)
     refine obl rfl ?_
     exact zg (v := vq) Tryd.isAgg31 e418 (zh (hS417.blk (i := 1) rfl) rfl) (fun vals' hv _ => ⟨rfl, hv⟩)
    ·skip
     obtain ⟨v351, he355, hS419⟩ := hW414
     have e420 := hA413 0 (by decide)
     refine obl rfl ?_
     exact zg (v := vq) Tryd.isAgg31 e420 (zh (hS419.blk (i := 2) rfl) rfl) (fun vals' hv _ => ⟨rfl, hv⟩)
    ·skip
     obtain ⟨v351, b364, he355, he367, hS421⟩ := hW414
     have e422 := hA413 0 (by decide)
     refine obl rfl ?_
     exact zg (v := vq) Tryd.isAgg31 e422 (zh (hS421.blk (i := 3) rfl) rfl) (fun vals' hv _ => ⟨rfl, hv⟩)
   ·intro k423 vals w424 h427 h428 hW426 hA425
    refine obl rfl ?_
    exact yt rfl (fun vals' hv _ => ⟨rfl, hv⟩)
   ·intro k429 vals w430 h433 h434 hW432 hA431
    obtain rfl : k429 = 0 := Nat.le_antisymm h434 h433
    have hS435 : Sep _ _ _ _ := hW432
    have e436 := hA431 2 (by decide)
    refine obl rfl ?_
    exact zg (v := dd0) Tryd.isAgg22 e436 (zh (hS435.blk (i := 5) rfl) rfl) (fun vals' hv _ => ⟨rfl, hv⟩)
   ·intro k437 vals w438 h441 h442 hW440 hA439
    refine obl rfl ?_
    exact zb (v := .int .i64 ((k : Nat) : Int)) rfl (fun vals' hv _ => ⟨rfl, hv⟩)
   ·intro k443 vals w444 h447 h448 hW446 hA445
    obtain rfl : k443 = 0 := Nat.le_antisymm h448 h447
    have hS449 : Sep _ _ _ _ := hW446
    have e450 := hA445 3 (by decide)
    have e451 := hA445 4 (by decide)
    refine obl rfl ?_
    have hi452 : k < d.types.length := (by first | omega | (simp only [lens]; omega))
    exact zm (k := 1) (i := k) Tryd.underlying22 Tryd.sizeOf33 e450 hdd0.sl e451 hi452 (fun vals' hv _ => ⟨rfl, hv⟩)
   ·intro k453 vals w454 h457 h458 hW456 hA455
    have e459 := hA455 5 (by decide)
    refine obl rfl ?_
    exact yC e459 (fun vals' hv _ => ⟨rfl, hv⟩)
   ·intro k460 vals w461 h464 h465 hW463 hA462
    obtain rfl : k460 = 0 := Nat.le_antisymm h465 h464
    have hS466 : Sep _ _ _ _ := hW463
    have e467 := hA462 6 (by decide)
    refine obl rfl ?_
    have hcw469 := hS466.cells hce220 (hdd0.foot (ne_of_lt hi221))
    exact zg (v := (zi W (sb dd0) (so dd0 + k * 1 + 0))) Tryd.isAgg31 e467 (hcw469.get (j := 0) rfl) (fun vals' hv _ => ⟨rfl, hv⟩)
   ·intro k470 vals w471 h474 h475 hW473 hA472
    refine obl rfl ?_
    exact zb (v := .int .i64 ((q : Nat) : Int)) rfl (fun vals' hv _ => ⟨rfl, hv⟩)
   ·intro k476 vals w477 h480 h481 hW479 hA478
    obtain rfl : k476 = 0 := Nat.le_antisymm h481 h480
    have hS482 : Sep _ _ _ _ := hW479
    have e483 := hA478 7 (by decide)
    have e484 := hA478 8 (by decide)
    refine obl rfl ?_
    have hi485 : q < ((d.types.getD k default).fields).length := (by first | omega | (simp only [lens]; omega))
    exact zm (k := 4) (i := q) Tryd.underlying31 Tryd.sizeOf79 e483 hde220_0.sl e484 hi485 (fun vals' hv _ => ⟨rfl, hv⟩)
   ·intro k486 vals w487 h490 h491 hW489 hA488
    obtain rfl : k486 = 0 := Nat.le_antisymm h491 h490
    have hS492 : Sep _ _ _ _ := hW489
    have e493 := hA488 9 (by decide)
    refine obl rfl ?_
    have hi495 : q < ((d.types.getD k default).fields).length := (by first | omega | (simp only [lens]; omega))
    obtain ⟨hce494, hde494_0, hoke494⟩ := hde220_0.fld hi495
    rw [← zk default hi495] at hce494 hde494_0 hoke494
    have hsm496 : ((((d.types.getD k default).fields).getD q default).moves).length * 32 ≤ 140737488355328 := hde494_0.small
    have hcw497 := hS492.cells hce494 (hde220_0.foot (ne_of_lt hi495))
    exact zl (k := 4) Tryd.isAgg79 Tryd.sizeOf79 rfl e493 hcw497 (fun vals' hv _ => ⟨rfl, hv⟩)
   ·intro k339 vals w340 h343 h344 hW342 hA341
    obtain rfl : k339 = 0 := Nat.le_antisymm h344 h343
    have hS345 : Sep _ _ _ _ := hW342
    have e346 := hA341 10 (by decide)
    refine obl rfl ?_
    have hi348 : q < ((d.types.getD k default).fields).length := (by first | omega | (simp only [lens]; omega))
    obtain ⟨hce347, hde347_0, hoke347⟩ := hde220_0.fld hi348
    rw [← zk default hi348] at hce347 hde347_0 hoke347
    have hsm349 : ((((d.types.getD k default).fields).getD q default).moves).length * 32 ≤ 140737488355328 := hde347_0.small
    have hcw350 := hS345.cells hce347 (hde220_0.foot (ne_of_lt hi348))
    refine (zv (f := 56) (vals := [.agg ((((d.types.getD k default).fields).getD q default).cells (zi W (sb (zi W (sb dd0) (so dd0 + k * 1 + 0))) (so (zi W (sb dd0) (so dd0 + k * 1 + 0)) + q * 4 + 3))).toArray]) (cap := []) rfl (xj ⟨e346, trivial⟩) Tryd.call56 (XR (f := (((d.types.getD k default).fields).getD q default)) hde347_0 hoke347 hS345) ?_)
    rintro _ w352 ⟨v351, rfl, hS353⟩
    have hr354 := hS353.row (i := 0) rfl
    have hr354s : _ * 32 ≤ _ := hr354.2
    intro vals' hv hv'
    refine ⟨?_, trivial⟩
    show ∃ (v351 : Value), (vals' 11 = (.agg ((((d.types.getD k default).fields).getD q default).cells v351).toArray : Value)) ∧ Sep G W ((RowE (α := Mv) own 115 v351 ((((d.types.getD k default).fields).getD q default).moves)) :: (RowE (α := Fld) own 79 vq (((d.types.getD k default).fields).take q)) :: (Blk b207 #[vq] 33) :: (TypW vo 33 79 (d.types.take k)) :: (Blk b10 #[vo, (.slice none 0 0)] 25) :: (Blk b6 #[(.slice none 0 0), (.slice none 0 0)] 25) :: (Blk b2 (d.cells dd0 dd1).toArray 25) :: Rs) w352
    exact ⟨v351, hv, hS353⟩
   ·intro k356 vals w357 h360 h361 hW359 hA358
    obtain rfl : k356 = 1 := Nat.le_antisymm h361 h360
    obtain ⟨v351, he355, hS362⟩ := hW359
    refine obl rfl ?_
    refine (zB (k := 4) (parts' := [(0, .agg ((((d.types.getD k default).fields).getD q default).cells v351).toArray)]) (c := ((((d.types.getD k default).fields).getD q default).cells v351).toArray) Tryd.underlying31 Tryd.sizeOf79 Tryd.zeroValue79 (by decide) (xE ⟨rfl, he355, trivial⟩) (by kernel_rfl) ?_)
    intro w365 b364 hn363
    have hS366 := hS362.new hn363
    intro vals' hv hv'
    refine ⟨?_, trivial⟩
    show ∃ (v351 : Value) (b364 : Nat), (vals' 11 = (.agg ((((d.types.getD k default).fields).getD q default).cells v351).toArray : Value)) ∧ (vals' 12 = ((.slice (some ⟨b364, 0, none⟩) 1 1) : Value)) ∧ Sep G W ((Blk b364 ((((d.types.getD k default).fields).getD q default).cells v351).toArray 79) :: (RowE (α := Mv) own 115 v351 ((((d.types.getD k default).fields).getD q default).moves)) :: (RowE (α := Fld) own 79 vq (((d.types.getD k default).fields).take q)) :: (Blk b207 #[vq] 33) :: (TypW vo 33 79 (d.types.take k)) :: (Blk b10 #[vo, (.slice none 0 0)] 25) :: (Blk b6 #[(.slice none 0 0), (.slice none 0 0)] 25) :: (Blk b2 (d.cells dd0 dd1).toArray 25) :: Rs) w365
    exact ⟨v351, b364, (by rw [hv' 11 (by decide)]; exact he355), hv, hS366⟩
   ·intro k368 vals w369 h372 h373 hW371 hA370
    obtain rfl : k368 = 2 := Nat.le_antisymm h373 h372
    obtain ⟨v351, b364, he355, he367, hS374⟩ := hW371
    have e375 := hA370 1 (by decide)
    refine obl rfl ?_
    have hbk379 := hS374.blk (i := 0) rfl
    have hS380 : Sep G W ((RowE (α := Fld) own 79 vq (((d.types.getD k default).fields).take q)) :: (RowE (α := Mv) own 115 v351 ((((d.types.getD k default).fields).getD q default).moves)) :: (Blk b207 #[vq] 33) :: (TypW vo 33 79 (d.types.take k)) :: (Blk b10 #[vo, (.slice none 0 0)] 25) :: (Blk b6 #[(.slice none 0 0), (.slice none 0 0)] 25) :: (Blk b2 (d.cells dd0 dd1).toArray 25) :: Rs) w369 := hS374.sel 8 [2, 1, 3, 4, 5, 6, 7] (Nat.le_add_left _ _) rfl rfl
    have hi382 : q < ((d.types.getD k default).fields).length := (by first | omega | (simp only [lens]; omega))
    obtain ⟨hce381, hde381_0, hoke381⟩ := hde220_0.fld hi382
    rw [← zk default hi382] at hce381 hde381_0 hoke381
    have hsm383 : ((((d.types.getD k default).fields).getD q default).moves).length * 32 ≤ 140737488355328 := hde381_0.small
    have hcw384 := hS380.cells hce381 (hde220_0.foot (ne_of_lt hi382))
    refine (yG (src := own) (bytes := 48) (x1 := (((d.types.getD k default).fields).getD q default)) hS380 el31 e375 he367 hbk379 (fun _ _ hN => ⟨_, rfl, RowE.soft hN, hoke381⟩) (by first | omega | (simp only [List.length_append, List.length_cons, List.length_nil, List.length_take, List.length_drop]; omega)) rfl ?_)
    intro v377 w376 hS378
    have hr385 := hS378.row (i := 0) rfl
    have hr385s : _ * 48 ≤ _ := hr385.2
    intro vals' hv hv'
    refine ⟨?_, trivial⟩
    show ∃ (v351 : Value) (b364 : Nat) (v377 : Value), (vals' 11 = (.agg ((((d.types.getD k default).fields).getD q default).cells v351).toArray : Value)) ∧ (vals' 12 = ((.slice (some ⟨b364, 0, none⟩) 1 1) : Value)) ∧ (vals' 13 = (v377 : Value)) ∧ Sep G W ((RowE (α := Fld) own 79 v377 ((((d.types.getD k default).fields).take q) ++ [(((d.types.getD k default).fields).getD q default)])) :: (Blk b207 #[vq] 33) :: (TypW vo 33 79 (d.types.take k)) :: (Blk b10 #[vo, (.slice none 0 0)] 25) :: (Blk b6 #[(.slice none 0 0), (.slice none 0 0)] 25) :: (Blk b2 (d.cells dd0 dd1).toArray 25) :: Rs) w376
    exact ⟨v351, b364, v377, (by rw [hv' 11 (by decide)]; exact he355), (by rw [hv' 12 (by decide)]; exact he367), hv, hS378⟩
   ·intro k498 vals w499 h502 h503 hW501 hA500
    refine obl rfl ?_
    exact yC rfl (fun vals' hv _ => ⟨rfl, hv⟩)
   ·intro k393 vals w394 h397 h398 hW396 hA395
    obtain rfl : k393 = 3 := Nat.le_antisymm h398 h397
    obtain ⟨v351, b364, v377, he355, he367, he386, hS399⟩ := hW396
    have e400 := hA395 14 (by decide)
    refine obl rfl ?_
    have hr403 := hS399.row (i := 0) rfl
    have hr403s : _ * 48 ≤ _ := hr403.2
    refine (yK (v := v377) (c := [vq]) (c' := [v377]) Tryd.sizeOf31 e400 he386 (hS399.blk (i := 1) rfl) hr403.1.one rfl rfl ?_)
    intro w401 hp402
    have hS404 := hS399.pt1 hp402
    intro vals' hv hv'
    refine ⟨?_, trivial⟩
    show ∃ (v351 : Value) (b364 : Nat) (v377 : Value), (vals' 11 = (.agg ((((d.types.getD k default).fields).getD q default).cells v351).toArray : Value)) ∧ (vals' 12 = ((.slice (some ⟨b364, 0, none⟩) 1 1) : Value)) ∧ (vals' 13 = (v377 : Value)) ∧ Sep G W ((RowE (α := Fld) own 79 v377 ((((d.types.getD k default).fields).take q) ++ [(((d.types.getD k default).fields).getD q default)])) :: (Blk b207 #[v377] 33) :: (TypW vo 33 79 (d.types.take k)) :: (Blk b10 #[vo, (.slice none 0 0)] 25) :: (Blk b6 #[(.slice none 0 0), (.slice none 0 0)] 25) :: (Blk b2 (d.cells dd0 dd1).toArray 25) :: Rs) w401
    exact ⟨v351, b364, v377, (by rw [hv' 11 (by decide)]; exact he355), (by rw [hv' 12 (by decide)]; exact he367), (by rw [hv' 13 (by decide)]; exact he386), hS404⟩
   intro vals w504 hW505 hA506
   obtain ⟨v351, b364, v377, he355, he367, he386, hS507⟩ := hW505
   refine yh (kv := [(1, .pointer (some ⟨b2, 0, none⟩)), (2, .pointer (some ⟨b6, 0, none⟩)), (3, .pointer (some ⟨b10, 0, none⟩)), (4, .int .i64 ((k : Nat) : Int)), (5, .pointer (some ⟨b207, 0, none⟩)), (6, .int .i64 ((q : Nat) : Int)), (16, .int .i64 ((q : Nat) : Int)), (17, .pointer (some ⟨b2, 0, none⟩)), (18, dd0), (19, .int .i64 ((k : Nat) : Int)), (20, .pointer (some ⟨sb dd0, so dd0 + k * 1, none⟩)), (21, .pointer (some ⟨sb dd0, so dd0 + k * 1, none⟩)), (22, (zi W (sb dd0) (so dd0 + k * 1 + 0))), (23, .int .i64 ((((d.types.getD k default).fields).length : Nat) : Int)), (24, .bool true)]) ⟨rfl, rfl, rfl, rfl, rfl, rfl, rfl, rfl, rfl, rfl, rfl, rfl, rfl, rfl, rfl, trivial⟩ (fun ρw504 => ?_)
   refine zf ?_
   refine za (by kernel_rfl) (fun _ => ?_)
   refine st (zb (v := .int .i64 ((q : Nat) : Int)) rfl ?_)
   have hr508 : InR ((q + 1 : Nat) : Int) := by first | omega | (simp only [lens]; omega)
   refine st (ye (r := ((q + 1 : Nat) : Int)) (k := .i64) (a := ((q : Nat) : Int)) (b := 1) rfl rfl (by rw [show (((q : Nat) : Int) + 1 : Int) = ((q + 1 : Nat) : Int) by first | omega | (simp only [lens]; omega)]; exact zQ hr508) ?_)
   refine st (ze (v := .int .i64 ((q + 1 : Nat) : Int)) rfl ?_)
   refine zf ?_
   have hL509 : (((d.types.getD k default).fields).take (q + 1)) = (((d.types.getD k default).fields).take q) ++ [(((d.types.getD k default).fields).getD q default)] := (List.take_getD (by omega))
   rw [← hL509] at hS507
   exact ⟨_, by omega, q + 1, v377, _, rfl, zp ⟨rfl, rfl, rfl, rfl, rfl, rfl, trivial⟩, by omega, hS507⟩

end Go.Proofs.YtlblilbmpdejgaaDoor
/- Steps of the proofs of this seat: part F20. -/
set_option maxRecDepth 8000
set_option maxHeartbeats 4000000
namespace Go.Proofs.YtlblilbmpdejgaaDoor
open Go.Proofs Go.RowKit

theorem Qa {d : Dcl} {L : List Ent} {e : Ev} (h : yO d e.typ e.field e.op e.arg = 0 → ∀ x ∈ zz (e.typ, e.agg, e.field) L, yF ((xu d e.typ).fields.getD e.field.toNat default) x e = false) : (zR d L e).byO = 0 ∧ (zR d L e).byS = 0 := by
  show (zT d L e).2.1 = 0 ∧ (zT d L e).2.2 = 0
  unfold zT
  split
  · exact ⟨rfl, rfl⟩
  · rename_i h1
    have h2 := h (Decidable.not_not.1 h1)
    have hf : (zz (e.typ, e.agg, e.field) L).find? (fun x => yF ((xu d e.typ).fields.getD e.field.toNat default) x e) = none := List.find?_eq_none.2 (fun x hx => by rw [h2 x hx]; simp)
    rw [hf]
    dsimp only
    split <;> exact ⟨rfl, rfl⟩
def xa (f : Fld) : Fld := { f with policy := 1 }
def yI (t : Typ) : Typ := ⟨t.fields.map xa⟩
def yZ (d : Dcl) : Dcl := ⟨d.types.map yI, d.projs⟩
theorem Zy {α β : Type} [Inhabited α] [Inhabited β] {g : α → β} {l : List α} {i : Nat} (h : i < l.length) : (l.map g).getD i default = g (l.getD i default) := by rw [zk _ (by simpa using h), zk _ h, List.getElem_map]
theorem Uk {t : Typ} (h : TypOk t) : TypOk (yI t) := by
  have hl : (yI t).fields.length = t.fields.length := List.length_map _
  have key : ∀ i, i < t.fields.length → (yI t).fields.getD i default = xa (t.fields.getD i default) := fun i hi => Zy hi
  refine ⟨by rw [hl]; exact h.some, by rw [hl]; exact h.few, fun i hi => ?_, fun i hi => ?_, fun i hi => ?_, fun i hi => ?_⟩ <;> rw [hl] at hi <;> rw [key i hi]
  · exact h.kind i hi
  · exact h.floor i hi
  · exact h.moves i hi
  · intro j hj
    rcases h.need i hi j hj with h1 | ⟨h1, h2, h3⟩
    · exact .inl h1
    · refine .inr ⟨h1, by rw [hl]; exact h2, ?_⟩
      show ((yI t).fields.getD ((t.fields.getD i default).moves.getD j default).need.toNat default).kind = 1
      rw [key _ (by omega)]; exact h3
theorem Xy {d : Dcl} (h : DclOk d) : DclOk (yZ d) := by
  have hl : (yZ d).types.length = d.types.length := List.length_map _
  refine ⟨by rw [hl]; exact h.some, by rw [hl]; exact h.few, fun i hi => ?_⟩
  rw [hl] at hi
  rw [show (yZ d).types.getD i default = yI (d.types.getD i default) from Zy hi]
  exact Uk (h.typ i hi)
theorem Vj {d : Dcl} {e x : Ev} (h : yO (yZ d) e.typ e.field e.op e.arg = 0) : yF ((xu (yZ d) e.typ).fields.getD e.field.toNat default) x e = false := by
  obtain ⟨h0, h1, hf⟩ := Xh h
  have hlo := hf.lo
  have hhi := hf.hi
  have hl : (yZ d).types.length = d.types.length := List.length_map _
  have ht : xu (yZ d) e.typ = yI (xu d e.typ) := Zy (l := d.types) (g := yI) (i := e.typ.toNat) (by omega)
  have ht' : (yZ d).types.getD e.typ.toNat default = yI (xu d e.typ) := ht
  rw [ht'] at hhi
  have hl2 : (yI (xu d e.typ)).fields.length = (xu d e.typ).fields.length := List.length_map _
  have hp : ((xu (yZ d) e.typ).fields.getD e.field.toNat default).policy = 1 := by
    rw [ht, show (yI (xu d e.typ)).fields.getD e.field.toNat default = xa ((xu d e.typ).fields.getD e.field.toNat default) from Zy (by omega)]
    rfl
  unfold yF
  rw [hp]
  rfl
theorem US {d : Dcl} {l : List Ev} {i : Nat} (hi : i < l.length) : ((yM (yZ d) l).getD i default).byO = 0 ∧ ((yM (yZ d) l).getD i default).byS = 0 := by
  rw [Xf hi]; exact Qa (fun h x _ => Vj h)
theorem Vt {f : Fld} {x e : Ev} {n : Int} (hx : Yt x n) (he : Yt e n) (h : x.seq ≤ e.deps.getD x.origin.toNat 0) : yF f x e = false := by
  have h1 := hx.1
  have h2 := he.1
  have hb : ZL x e = true := by
    unfold ZL xO
    rw [if_neg (by omega)]
    exact decide_eq_true (by omega)
  unfold yF xL
  rw [hb]
  simp
theorem UR {d : Dcl} {l : List Ev} {n : Int} {i : Nat} (hft : ∀ j, j < l.length → Yt (l.getD j default) n) (hi : i < l.length) (hk : ∀ q, q < i → (l.getD q default).seq ≤ (l.getD i default).deps.getD (l.getD q default).origin.toNat 0) : ((yM d l).getD i default).byO = 0 ∧ ((yM d l).getD i default).byS = 0 := by
  rw [Xf hi]
  refine Qa (fun _ x hx => ?_)
  unfold zz at hx
  obtain ⟨y, hy, rfl⟩ := List.mem_map.1 hx
  obtain ⟨q, hq, he⟩ := List.getElem_of_mem (List.mem_filter.1 hy).1
  have hlen := xP d l
  have hq2 : q < i := by rw [List.length_take] at hq; omega
  have he2 : y.ev = l.getD q default := by
    rw [← he, List.getElem_take, ← zk default (by omega)]; exact UQ (by omega)
  rw [he2]
  exact Vt (hft q (by omega)) (hft i hi) (hk q hq2)
def prog {α : Type} (g : α → α) (k : Nat) (l : List α) : List α := (l.take k).map g ++ l.drop k
theorem XH {α : Type} (g : α → α) {l : List α} {k : Nat} (h : k = l.length) : prog g k l = l.map g := by unfold prog; rw [h, List.take_length, List.drop_length, List.append_nil]
theorem XU {α : Type} (g : α → α) {l : List α} {k : Nat} : (prog g k l).length = l.length := by unfold prog; simp; omega
theorem Xx {α : Type} [Inhabited α] (g : α → α) {l : List α} {k : Nat} (h : k < l.length) : (prog g k l).getD k default = l.getD k default := by
  unfold prog
  rw [List.getD_eq_getElem?_getD, List.getElem?_append_right (by simp; omega), List.getD_eq_getElem?_getD]
  simp only [List.length_map, List.length_take, List.getElem?_drop]
  rw [show k + (k - min k l.length) = k by omega]
theorem XN {α : Type} [Inhabited α] (g : α → α) {l : List α} {k : Nat} (h : k < l.length) : (prog g k l).set k (g (l.getD k default)) = prog g (k + 1) l := by
  unfold prog
  rw [zk _ h, List.take_succ_eq_append_getElem h, List.map_append, List.append_assoc, List.set_append_right _ _ (by simp only [List.length_map, List.length_take]; omega), List.drop_eq_getElem_cons h]
  simp only [List.length_map, List.length_take, List.map_cons, List.map_nil, List.singleton_append]
  rw [show k - min k l.length = 0 by omega, List.set_cons_zero]
theorem Qq {l : List Fld} {k : Nat} (h : k < l.length) : prog xa (k + 1) l = (prog xa k l).set k ({ ((prog xa k l).getD k default) with policy := 1 } : Fld) := by rw [Xx _ h, ← XN _ h]; rfl
theorem Vo {l : List Ev} {k j : Nat} {b : Bool} (h : b = true → ∀ q, q < j → (l.getD q default).seq ≤ (l.getD k default).deps.getD (l.getD q default).origin.toNat 0) : (b && decide ((l.getD j default).seq ≤ (l.getD k default).deps.getD (l.getD j default).origin.toNat 0)) = true → ∀ q, q < j + 1 → (l.getD q default).seq ≤ (l.getD k default).deps.getD (l.getD q default).origin.toNat 0 := by
  intro h9 q hq
  rw [Bool.and_eq_true] at h9
  rcases Nat.lt_or_ge q j with h1 | h1
  · exact h h9.1 q h1
  · obtain rfl : q = j := by omega
    exact of_decide_eq_true h9.2
theorem Qo {a c a' c' : Int} {b : Bool} (h1 : a = 0 ∧ c = 0) (h2 : b = true → a' = 0 ∧ c' = 0) : ((!decide (a = 0 ∧ c = 0)) || (b && (!decide (a' = 0 ∧ c' = 0)))) = false := by
  rw [decide_eq_true h1]
  cases b
  · rfl
  · rw [decide_eq_true (h2 rfl)]; rfl
set_option maxHeartbeats 8000000 in
theorem Wh {G : Nat → Prop} {W w : World} {Rs : List HP} {d : Dcl} {dd0 : Value} (hdd0 : RdS W G dd0 d.types) {dd1 : Value} (hdd1 : RdS W G dd1 d.projs) (od : d.Ok) {n : Int} (hn : InR n) {vl : Value} {l : List Ev} (hl : RdS W G vl l) (hKN : RdS W G (.slice (some ⟨0, 0, none⟩) 6 6) kindsL) (hS0 : Sep G W Rs w) : Ret Tryd.prog 10 [.agg (d.cells dd0 dd1).toArray, .int .i64 (n), vl] w (fun r w' => r = (.bool true : Value) ∧ Sep G W Rs w') := by
 have hdd0s : _ * 24 ≤ _ := hdd0.small
 have hdd1s : _ * 40 ≤ _ := hdd1.small
 have hls : _ * 96 ≤ _ := hl.small
 have hKNs : _ * 8 ≤ _ := hKN.small
 refine zr (args := [.agg (d.cells dd0 dd1).toArray, .int .i64 (n), vl]) Tryd.func10 rfl rfl ?_
 refine zd ?_
 refine za (by kernel_rfl) (fun _ => ?_)
 refine st (yb (v := .agg (d.cells dd0 dd1).toArray) rfl ?_)
 intro w3 b2 hn1
 have hS4 := hS0.new hn1
 refine st (ze (v := .bool false) rfl ?_)
 refine zf ?_
 refine zd ?_
 refine zd ?_
 refine za (by kernel_rfl) (fun _ => ?_)
 refine st (zl (k := 2) Tryd.isAgg25 Tryd.sizeOf25 rfl rfl (CellsAt.all (hS4.blk (i := 0) rfl)) ?_)
 refine st (zv (f := 20) (vals := [.agg (d.cells dd0 dd1).toArray]) (cap := []) rfl rfl Tryd.call20 (UZ (d := d) hdd0 hdd1 od hS4) ?_)
 rintro _ w7 ⟨b5, rfl, hb6, hS8⟩
 refine st (yJ (a := b5) rfl ?_)
 refine zf ?_
 cases hc9 : !b5
 ·skip
  try simp only [zn] at hc9
  have hdo := hb6 hc9
  refine zo rfl ?_
  refine zw ?_
  refine zd ?_
  refine za (by kernel_rfl) (fun _ => ?_)
  refine st (zb (v := .int .i64 (n)) rfl ?_)
  refine st (zv (f := 13) (vals := [.int .i64 (n), .int .i64 (64)]) (cap := []) rfl rfl Tryd.call13 (QM (x := n) (n := 64) hn (by first | omega | (refine ⟨?_, ?_⟩ <;> omega)) hS8) ?_)
  rintro _ w12 ⟨q10, rfl, hq11, hS13⟩
  have hr14 : InR ((1 + q10 : Nat) : Int) := by first | omega | (simp only [lens]; omega)
  refine st (ye (r := ((1 + q10 : Nat) : Int)) (k := .i64) (a := 1) (b := ((q10 : Nat) : Int)) rfl rfl (by rw [show (1 + ((q10 : Nat) : Int) : Int) = ((1 + q10 : Nat) : Int) by first | omega | (simp only [lens]; omega)]; exact zQ hr14) ?_)
  refine st (zb (v := vl) rfl ?_)
  refine st (zv (f := 22) (vals := [.int .i64 ((1 + q10 : Nat) : Int), vl]) (cap := []) rfl rfl Tryd.call22 (Ui (n := ((1 + q10 : Nat) : Int)) (l := l) (vl := vl) hr14 hl hS13) ?_)
  rintro v15 w19 ⟨_, l216, rfl, h6017, hft18, hS20⟩
  have hr21 := hS20.row (i := 0) rfl
  have hr21s : _ * 96 ≤ _ := hr21.2
  refine st (ze (v := v15) rfl ?_)
  refine zf ?_
  refine zd ?_
  have h60 := h6017
  obtain ⟨G22, hA24, hB25, hS26, hk27⟩ := hS20.lend
  have hrd28 := RowE.rdB hA24 hB25
  have hrd28s : _ * 96 ≤ _ := hrd28.small
  refine za (by kernel_rfl) (fun _ => ?_)
  refine st (zl (k := 2) Tryd.isAgg25 Tryd.sizeOf25 rfl rfl (CellsAt.all (hS26.blk (i := 0) rfl)) ?_)
  refine st (zv (f := 23) (vals := [.agg (d.cells dd0 dd1).toArray]) (cap := []) rfl rfl Tryd.call23 (XF (d := d) (RdS.base hdd0 hB25) (RdS.base hdd1 hB25) od hS26) ?_)
  rintro _ w31 ⟨v129, v230, rfl, hS32⟩
  have hr33 := hS32.row (i := 1) rfl
  have hr33s : _ * 40 ≤ _ := hr33.2
  refine st (zE Tryd.zeroValue25 ?_)
  intro w36 b35 hn34
  have hS37 := hS32.new hn34
  refine stn (zy (v := .agg (d.cells v129 v230).toArray) (c' := (d.cells v129 v230).toArray) Tryd.sizeOf25 rfl rfl (hS37.blk (i := 0) rfl) (yj ⟨(hS37.typSl (i := 1) rfl).one, hr33.1.one, trivial⟩) (Nat.le_of_ble_eq_true rfl) rfl ?_)
  intro w38 hp39
  have hS40 := hS37.pt0 hp39
  refine zf ?_
  refine zd ?_
  refine zd ?_
  refine za (by kernel_rfl) (fun _ => ?_)
  refine st (ze (v := .int .i64 (0)) rfl ?_)
  refine zf ?_
  refine zx ?_
  rw [show d.types = prog yI 0 d.types from rfl] at hS40
  refine yn (fun mq σ wq => ∃ (k : Nat) (ρ : Env), mq = d.types.length - k ∧ σ = yp ρ [(2, v15), (3, .pointer (some ⟨b2, 0, none⟩)), (7, .pointer (some ⟨b35, 0, none⟩)), (8, .int .i64 ((k : Nat) : Int))] ∧ (k ≤ d.types.length) ∧ Sep G22 w19 ((Blk b35 (d.cells v129 v230).toArray 25) :: (TypW v129 33 79 (prog yI k d.types)) :: (RwP v230 d.projs) :: (Blk b2 (d.cells dd0 dd1).toArray 25) :: Rs) wq) ⟨0, _, rfl, zp ⟨rfl, rfl, rfl, rfl, trivial⟩, Nat.zero_le _, hS40⟩ ?_
  rintro m42 σ43 w41 ⟨k, ρl1, rfl, rfl, hkk, hS44⟩
  have hpl : (prog yI k d.types).length = d.types.length := XU _
  refine zd ?_
  refine zd ?_
  refine za (by kernel_rfl) (fun _ => ?_)
  refine st (zb (v := .int .i64 ((k : Nat) : Int)) rfl ?_)
  refine st (yt rfl ?_)
  refine st (zg (v := v129) Tryd.isAgg22 rfl (zh (hS44.blk (i := 0) rfl) rfl) ?_)
  refine st (zJ (n := (prog yI k d.types).length) Tryd.underlying22 rfl (hS44.typSl (i := 1) rfl) ?_)
  refine st (zN (k := .i64) (a := ((k : Nat) : Int)) (b := (((prog yI k d.types).length : Nat) : Int)) rfl rfl ?_)
  refine zf ?_
  cases hc45 : decide (((k : Nat) : Int) < (((prog yI k d.types).length : Nat) : Int))
  ·skip
   have hc45 := of_decide_eq_false hc45
   rw [XH yI (show k = d.types.length by omega)] at hS44
   refine zo rfl ?_
   refine ym ?_
   refine yd ?_
   refine zd ?_
   have hS46 := hS44.mv1
   obtain ⟨G47, hA49, hB50, hS51, hk52⟩ := hS46.lend
   have hrd53 := RowE.rd (TypW.rowP hA49)
   have hrd53s : _ * 24 ≤ _ := hrd53.small
   have hS54 := hS51.mv1
   obtain ⟨G55, hA57, hB58, hS59, hk60⟩ := hS54.lend
   have hrd61 := RowE.rd hA57
   have hrd61s : _ * 40 ≤ _ := hrd61.small
   refine za (by kernel_rfl) (fun _ => ?_)
   refine st (zl (k := 2) Tryd.isAgg25 Tryd.sizeOf25 rfl rfl (CellsAt.all (hS59.blk (i := 0) rfl)) ?_)
   refine st (zb (v := v15) rfl ?_)
   refine st (zv (f := 38) (vals := [.agg ((yZ d).cells v129 v230).toArray, v15]) (cap := []) rfl rfl Tryd.call38 (WN (d := (yZ d)) (l := l216) (vl := v15) (RdS.base hrd53 hB58) hrd61 (⟨⟩ : Dcl.Ok (yZ d)) (RdS.base (RdS.base hrd28 hB50) hB58) (RdS.base (RdS.base (RdS.base hKN hB25) hB50) hB58) hS59 ((by first | exact hdo | exact Xy hdo)) ((by omega))) ?_)
   rintro _ w63 ⟨b62, rfl, hS64⟩
   refine st (ze (v := .pointer (some ⟨b62, 0, none⟩)) rfl ?_)
   refine zf ?_
   refine zd ?_
   refine za (by kernel_rfl) (fun _ => ?_)
   refine st (zl (k := 2) Tryd.isAgg25 Tryd.sizeOf25 rfl rfl (CellsAt.all (hS64.blk (i := 2) rfl)) ?_)
   refine st (zb (v := v15) rfl ?_)
   refine st (zv (f := 38) (vals := [.agg (d.cells dd0 dd1).toArray, v15]) (cap := []) rfl rfl Tryd.call38 (WN (d := d) (l := l216) (vl := v15) (RdS.base (RdS.base (RdS.base hdd0 hB25) hB50) hB58) (RdS.base (RdS.base (RdS.base hdd1 hB25) hB50) hB58) od (RdS.base (RdS.base hrd28 hB50) hB58) (RdS.base (RdS.base (RdS.base hKN hB25) hB50) hB58) hS64 ((by first | exact hdo | exact Xy hdo)) ((by omega))) ?_)
   rintro _ w66 ⟨b65, rfl, hS67⟩
   refine st (ze (v := .pointer (some ⟨b65, 0, none⟩)) rfl ?_)
   refine zf ?_
   refine zd ?_
   refine zd ?_
   refine zD (by kernel_rfl) ?_
   refine st (zb (v := .pointer (some ⟨b62, 0, none⟩)) rfl ?_)
   refine st (xY (b := b62) (o := 0) Tryd.underlying51 rfl ?_)
   refine st (zb (v := .bool false) rfl ?_)
   refine sty rfl rfl (zb (v := .pointer (some ⟨b65, 0, none⟩)) rfl ?_)
   refine sty rfl rfl (xY (b := b65) (o := 0) Tryd.underlying51 rfl ?_)
   refine st (zV (v := .bool false) rfl rfl ?_)
   refine zf ?_
   refine zo rfl ?_
   refine zw ?_
   refine zd ?_
   refine za (by kernel_rfl) (fun _ => ?_)
   refine st (zb (v := .pointer (some ⟨b62, 0, none⟩)) rfl ?_)
   have hS68 := hS67.mv1
   refine st (zv (f := 36) (vals := [.pointer (some ⟨b62, 0, none⟩)]) (cap := []) rfl rfl Tryd.call36 (Zc  hS68) ?_)
   rintro v69 w70 ⟨_, rfl, hS71⟩
   have hr72 := hS71.row (i := 1) rfl
   have hr72s : _ * 120 ≤ _ := hr72.2
   refine st (ze (v := v69) rfl ?_)
   refine zf ?_
   refine zd ?_
   have hS73 := hS71.mv1
   have hXl : ((yM (yZ d) l216)).length = l216.length := xP _ _
   obtain ⟨X, hX⟩ : ∃ z, z = (yM (yZ d) l216) := ⟨_, rfl⟩
   rw [← hX] at hS73 hXl
   have hr74 := hS73.row (i := 0) rfl
   have hr74s : _ * 120 ≤ _ := hr74.2
   obtain ⟨G75, hA77, hB78, hS79, hk80⟩ := hS73.lend
   have hrd81 := RowE.rd hA77
   have hrd81s : _ * 120 ≤ _ := hrd81.small
   refine za (by kernel_rfl) (fun _ => ?_)
   refine st (zb (v := .pointer (some ⟨b65, 0, none⟩)) rfl ?_)
   have hS82 := hS79.mv1
   refine st (zv (f := 36) (vals := [.pointer (some ⟨b65, 0, none⟩)]) (cap := []) rfl rfl Tryd.call36 (Zc  hS82) ?_)
   rintro v83 w84 ⟨_, rfl, hS85⟩
   have hr86 := hS85.row (i := 1) rfl
   have hr86s : _ * 120 ≤ _ := hr86.2
   refine st (ze (v := v83) rfl ?_)
   refine zf ?_
   refine zd ?_
   refine zd ?_
   have hS87 := hS85.mv1
   have hYl : ((yM d l216)).length = l216.length := xP _ _
   obtain ⟨Y, hY⟩ : ∃ z, z = (yM d l216) := ⟨_, rfl⟩
   rw [← hY] at hS87 hYl
   have hr88 := hS87.row (i := 0) rfl
   have hr88s : _ * 120 ≤ _ := hr88.2
   obtain ⟨G89, hA91, hB92, hS93, hk94⟩ := hS87.lend
   have hrd95 := RowE.rd hA91
   have hrd95s : _ * 120 ≤ _ := hrd95.small
   refine zD (by kernel_rfl) ?_
   refine st (zb (v := v69) rfl ?_)
   refine st (zJ (n := X.length) Tryd.underlying66 rfl (RdS.base hrd81 hB92).sl ?_)
   refine st (zb (v := v15) rfl ?_)
   refine st (zJ (n := l216.length) Tryd.underlying47 rfl (RdS.base (RdS.base (RdS.base (RdS.base hrd28 hB50) hB58) hB78) hB92).sl ?_)
   refine st (yz (k := .i64) (a := ((X.length : Nat) : Int)) (b := ((l216.length : Nat) : Int)) rfl rfl ?_)
   have hkn96 : (!decide (((X.length : Nat) : Int) = ((l216.length : Nat) : Int))) = false := (by rw [hXl]; simp)
   rw [hkn96]
   refine st (zb (v := .bool false) rfl ?_)
   refine sty rfl rfl (zb (v := v83) rfl ?_)
   refine sty rfl rfl (zJ (n := Y.length) Tryd.underlying66 rfl hrd95.sl ?_)
   refine sty rfl rfl (zb (v := v15) rfl ?_)
   refine sty rfl rfl (zJ (n := l216.length) Tryd.underlying47 rfl (RdS.base (RdS.base (RdS.base (RdS.base hrd28 hB50) hB58) hB78) hB92).sl ?_)
   refine sty rfl rfl (yz (k := .i64) (a := ((Y.length : Nat) : Int)) (b := ((l216.length : Nat) : Int)) rfl rfl ?_)
   have hkn97 : (!decide (((Y.length : Nat) : Int) = ((l216.length : Nat) : Int))) = false := (by rw [hYl]; simp)
   rw [hkn97]
   refine st (zV (v := .bool false) rfl rfl ?_)
   refine zf ?_
   refine zo rfl ?_
   refine zw ?_
   refine zd ?_
   refine zd ?_
   refine za (by kernel_rfl) (fun _ => ?_)
   refine st (ze (v := .int .i64 (0)) rfl ?_)
   refine zf ?_
   refine zx ?_
   refine yn (fun mq σ wq => ∃ (k : Nat) (ρ : Env), mq = l216.length - k ∧ σ = yp ρ [(2, v15), (12, v69), (13, v83), (14, .int .i64 ((k : Nat) : Int))] ∧ (k ≤ l216.length) ∧ Sep G89 w84 ((ViewO b65 d Y Y) :: (ViewO b62 (yZ d) X X) :: (Blk b35 (d.cells v129 v230).toArray 25) :: (Blk b2 (d.cells dd0 dd1).toArray 25) :: Rs) wq) ⟨0, _, rfl, zp ⟨rfl, rfl, rfl, rfl, trivial⟩, Nat.zero_le _, hS93⟩ ?_
   rintro m99 σ100 w98 ⟨k, ρl2, rfl, rfl, hkk, hS101⟩
   refine zd ?_
   refine zd ?_
   refine za (by kernel_rfl) (fun _ => ?_)
   refine st (zb (v := .int .i64 ((k : Nat) : Int)) rfl ?_)
   refine st (zb (v := v15) rfl ?_)
   refine st (zJ (n := l216.length) Tryd.underlying47 rfl (RdS.base (RdS.base (RdS.base (RdS.base hrd28 hB50) hB58) hB78) hB92).sl ?_)
   refine st (zN (k := .i64) (a := ((k : Nat) : Int)) (b := ((l216.length : Nat) : Int)) rfl rfl ?_)
   refine zf ?_
   cases hc102 : decide (((k : Nat) : Int) < ((l216.length : Nat) : Int))
   ·skip
    have hc102 := of_decide_eq_false hc102
    refine zo rfl ?_
    refine ym ?_
    refine yd ?_
    refine zd ?_
    refine za (by kernel_rfl) (fun _ => ?_)
    refine st (zv (f := 21) (vals := []) (cap := []) rfl rfl Tryd.call21 (YQ  (RdS.base (RdS.base (RdS.base (RdS.base (RdS.base hKN hB25) hB50) hB58) hB78) hB92) hS101) ?_)
    rintro _ w103 ⟨rfl, hS104⟩
    refine st (ze (v := .bool true) rfl ?_)
    refine zf ?_
    refine zu ?_
    refine ya Tryd.results10 (show _ = (.bool true : Value) from rfl) ?_
    have hS105 := hk94 _ _ hS104
    have hS106 := hk80 _ _ hS105
    have hS107 := hk60 _ _ hS106
    have hS108 := hk52 _ _ hS107
    have hS109 := hk27 _ _ hS108
    have hS110 : Sep G W Rs w103 := hS109.sel 9 [] (Nat.le_add_left _ _) rfl rfl
    refine ⟨rfl, hS110⟩
   ·skip
    have hc102 := of_decide_eq_true hc102
    refine zq rfl ?_
    refine zw ?_
    refine zd ?_
    refine zx ?_
    refine zd ?_
    refine za (by kernel_rfl) (fun _ => ?_)
    refine st (ze (v := .bool true) rfl ?_)
    refine zf ?_
    refine zd ?_
    refine zd ?_
    refine za (by kernel_rfl) (fun _ => ?_)
    refine st (ze (v := .int .i64 (0)) rfl ?_)
    refine zf ?_
    refine zx ?_
    refine yn (fun mq σ wq => ∃ (j : Nat) (b : Bool) (ρ : Env), mq = k - j ∧ σ = yp ρ [(2, v15), (12, v69), (13, v83), (14, .int .i64 ((k : Nat) : Int)), (15, .bool b), (16, .int .i64 ((j : Nat) : Int))] ∧ (j ≤ k) ∧ (b = true → ∀ q, q < j → (l216.getD q default).seq ≤ (l216.getD k default).deps.getD (l216.getD q default).origin.toNat 0) ∧ Sep G89 w84 ((ViewO b65 d Y Y) :: (ViewO b62 (yZ d) X X) :: (Blk b35 (d.cells v129 v230).toArray 25) :: (Blk b2 (d.cells dd0 dd1).toArray 25) :: Rs) wq) ⟨0, true, _, rfl, zp ⟨rfl, rfl, rfl, rfl, rfl, rfl, trivial⟩, Nat.zero_le _, (fun _ q h => absurd h (Nat.not_lt_zero q)), hS101⟩ ?_
    rintro m112 σ113 w111 ⟨j, b, ρl3, rfl, rfl, hkj, hb, hS114⟩
    have hok9 := (hft18 k (by omega)).1
    refine zd ?_
    refine zd ?_
    refine za (by kernel_rfl) (fun _ => ?_)
    refine st (zb (v := .int .i64 ((j : Nat) : Int)) rfl ?_)
    refine st (zb (v := .int .i64 ((k : Nat) : Int)) rfl ?_)
    refine st (zN (k := .i64) (a := ((j : Nat) : Int)) (b := ((k : Nat) : Int)) rfl rfl ?_)
    refine zf ?_
    cases hc115 : decide (((j : Nat) : Int) < ((k : Nat) : Int))
    ·skip
     have hc115 := of_decide_eq_false hc115
     refine zo rfl ?_
     refine ym ?_
     refine yd ?_
     refine zd ?_
     refine zD (by kernel_rfl) ?_
     refine st (zb (v := v69) rfl ?_)
     refine st (zb (v := .int .i64 ((k : Nat) : Int)) rfl ?_)
     have hi116 : k < X.length := (by first | omega | (simp only [lens]; omega))
     refine st (zm (k := 13) (i := k) Tryd.underlying66 Tryd.sizeOf62 rfl (RdS.base hrd81 hB92).sl rfl hi116 ?_)
     refine st (Ym rfl ?_)
     have hi118 : k < X.length := (by first | omega | (simp only [lens]; omega))
     obtain ⟨hce117, hde117_0, hoke117⟩ := (RdS.base hrd81 hB92).ent hi118
     rw [← zk default hi118] at hce117 hde117_0 hoke117
     have hsm119 : ((X.getD k default).ev.deps).length * 8 ≤ 140737488355328 := hde117_0.small
     have hcw120 := hS114.cells hce117 ((RdS.base hrd81 hB92).foot (ne_of_lt hi118))
     refine st (zl (k := 2) (cs := [.int .i64 ((X.getD k default).byO), .int .i64 ((X.getD k default).byS)]) Tryd.isAgg57 Tryd.sizeOf57 rfl rfl (CellsAt.sub hcw120 11 (cs2 := [.int .i64 ((X.getD k default).byO), .int .i64 ((X.getD k default).byS)]) rfl) ?_)
     refine st (zS (parts' := []) (v := .agg #[.int .i64 (0), .int .i64 (0)]) rfl (by simp [Instr.build, Instr.fill, Ev.cells, go_sem, Mv.cells, Fld.cells, Typ.cells, Prj.cells, Dcl.cells, Cel.cells, AskR.cells, Ask.cells, CelS.cells, Ev.cells, Ent.cells, Sta.cells]) ?_)
     refine st (Zx (e := decide ((X.getD k default).byO = 0 ∧ (X.getD k default).byS = 0)) (xs := #[.int .i64 ((X.getD k default).byO), .int .i64 ((X.getD k default).byS)]) (ys := #[.int .i64 (0), .int .i64 (0)]) Wb rfl rfl ?_)
     refine st (zb (v := .bool (!decide ((X.getD k default).byO = 0 ∧ (X.getD k default).byS = 0))) rfl ?_)
     refine stc (V := .bool b) rfl rfl (fun hb121 => ?_) ?_
     ·have hl122 := hb121
      have hl122 := yq hl122
      exact zb (v := .bool b) rfl ⟨rfl, rfl⟩
     refine stc (V := .bool b) rfl rfl (fun hb123 => ?_) ?_
     ·have hl124 := hb123
      have hl124 := yq hl124
      exact zb (v := .bool b) (show _ = (.bool b : Value) from (if_pos hb123)) ⟨rfl, rfl⟩
     refine yB (V := v83) rfl rfl (fun hb125 => ?_) ?_
     ·have hl126 := hb125.1
      have hl126 := yq hl126
      have hl127 := hb125.2
      exact zb (v := v83) rfl ⟨rfl, rfl⟩
     refine yB (V := .int .i64 ((k : Nat) : Int)) rfl rfl (fun hb128 => ?_) ?_
     ·have hl129 := hb128.1
      have hl129 := yq hl129
      have hl130 := hb128.2
      exact zb (v := .int .i64 ((k : Nat) : Int)) rfl ⟨rfl, rfl⟩
     refine yB (V := .pointer (some ⟨sb v83, so v83 + k * 13, none⟩)) rfl rfl (fun hb131 => ?_) ?_
     ·have hl132 := hb131.1
      have hl132 := yq hl132
      have hl133 := hb131.2
      have hi134 : k < Y.length := (by first | omega | (simp only [lens]; omega))
      exact zm (k := 13) (i := k) Tryd.underlying66 Tryd.sizeOf62 (show _ = (v83 : Value) from (if_pos ⟨hb131.1, hb131.2⟩)) hrd95.sl (show _ = (.int .i64 ((k : Nat) : Int) : Value) from (if_pos ⟨hb131.1, hb131.2⟩)) hi134 ⟨rfl, rfl⟩
     refine yB (V := .pointer (some ⟨sb v83, so v83 + k * 13 + 11, none⟩)) rfl rfl (fun hb135 => ?_) ?_
     ·have hl136 := hb135.1
      have hl136 := yq hl136
      have hl137 := hb135.2
      exact Ym (show _ = (.pointer (some ⟨sb v83, so v83 + k * 13, none⟩) : Value) from (if_pos ⟨hb135.1, hb135.2⟩)) ⟨rfl, rfl⟩
     refine yB (V := .agg #[.int .i64 ((Y.getD k default).byO), .int .i64 ((Y.getD k default).byS)]) rfl rfl (fun hb138 => ?_) ?_
     ·have hl139 := hb138.1
      have hl139 := yq hl139
      have hl140 := hb138.2
      have hi142 : k < Y.length := (by first | omega | (simp only [lens]; omega))
      obtain ⟨hce141, hde141_0, hoke141⟩ := hrd95.ent hi142
      rw [← zk default hi142] at hce141 hde141_0 hoke141
      have hsm143 : ((Y.getD k default).ev.deps).length * 8 ≤ 140737488355328 := hde141_0.small
      have hcw144 := hS114.cells hce141 (hrd95.foot (ne_of_lt hi142))
      exact zl (k := 2) (cs := [.int .i64 ((Y.getD k default).byO), .int .i64 ((Y.getD k default).byS)]) Tryd.isAgg57 Tryd.sizeOf57 rfl (show _ = (.pointer (some ⟨sb v83, so v83 + k * 13 + 11, none⟩) : Value) from (if_pos ⟨hb138.1, hb138.2⟩)) (CellsAt.sub hcw144 11 (cs2 := [.int .i64 ((Y.getD k default).byO), .int .i64 ((Y.getD k default).byS)]) rfl) ⟨rfl, rfl⟩
     refine yB (V := .agg #[.int .i64 (0), .int .i64 (0)]) rfl rfl (fun hb145 => ?_) ?_
     ·have hl146 := hb145.1
      have hl146 := yq hl146
      have hl147 := hb145.2
      exact zS (parts' := []) (v := .agg #[.int .i64 (0), .int .i64 (0)]) rfl (by simp [Instr.build, Instr.fill, Ev.cells, go_sem, Mv.cells, Fld.cells, Typ.cells, Prj.cells, Dcl.cells, Cel.cells, AskR.cells, Ask.cells, CelS.cells, Ev.cells, Ent.cells, Sta.cells]) ⟨rfl, rfl⟩
     refine yB (V := .bool (!decide ((Y.getD k default).byO = 0 ∧ (Y.getD k default).byS = 0))) rfl rfl (fun hb148 => ?_) ?_
     ·have hl149 := hb148.1
      have hl149 := yq hl149
      have hl150 := hb148.2
      exact Zx (e := decide ((Y.getD k default).byO = 0 ∧ (Y.getD k default).byS = 0)) (xs := #[.int .i64 ((Y.getD k default).byO), .int .i64 ((Y.getD k default).byS)]) (ys := #[.int .i64 (0), .int .i64 (0)]) Wb (show _ = (.agg #[.int .i64 ((Y.getD k default).byO), .int .i64 ((Y.getD k default).byS)] : Value) from (if_pos ⟨hb148.1, hb148.2⟩)) (show _ = (.agg #[.int .i64 (0), .int .i64 (0)] : Value) from (if_pos ⟨hb148.1, hb148.2⟩)) ⟨rfl, rfl⟩
     refine stc (V := .bool (b && (!decide ((Y.getD k default).byO = 0 ∧ (Y.getD k default).byS = 0)))) rfl rfl (fun hb151 => ?_) ?_
     ·have hl152 := hb151
      have hl152 := yq hl152
      exact zK (b := b) (b' := !decide ((Y.getD k default).byO = 0 ∧ (Y.getD k default).byS = 0)) (show _ = (.bool b : Value) from (if_pos hb151)) (fun hbp => (show _ = (.bool (!decide ((Y.getD k default).byO = 0 ∧ (Y.getD k default).byS = 0)) : Value) from (if_pos ⟨hb151, hbp⟩))) ⟨rfl, rfl⟩
     refine st (zA (b := !decide ((X.getD k default).byO = 0 ∧ (X.getD k default).byS = 0)) (b' := b && (!decide ((Y.getD k default).byO = 0 ∧ (Y.getD k default).byS = 0))) rfl (fun hbp => (show _ = (.bool (b && (!decide ((Y.getD k default).byO = 0 ∧ (Y.getD k default).byS = 0))) : Value) from (if_pos hbp))) ?_)
     have hkn153 : ((!decide ((X.getD k default).byO = 0 ∧ (X.getD k default).byS = 0)) || (b && (!decide ((Y.getD k default).byO = 0 ∧ (Y.getD k default).byS = 0)))) = false := (Qo (by rw [hX]; exact US (by omega)) (fun h9 => by rw [hY]; exact UR hft18 (by omega) (fun q hq => hb h9 q (by omega))))
     rw [hkn153]
     refine zf ?_
     refine zo rfl ?_
     refine zw ?_
     refine za (by kernel_rfl) (fun _ => ?_)
     refine st (zb (v := .int .i64 ((k : Nat) : Int)) rfl ?_)
     have hr154 : InR ((k + 1 : Nat) : Int) := by first | omega | (simp only [lens]; omega)
     refine st (ye (r := ((k + 1 : Nat) : Int)) (k := .i64) (a := ((k : Nat) : Int)) (b := 1) rfl rfl (by rw [show (((k : Nat) : Int) + 1 : Int) = ((k + 1 : Nat) : Int) by first | omega | (simp only [lens]; omega)]; exact zQ hr154) ?_)
     refine st (ze (v := .int .i64 ((k + 1 : Nat) : Int)) rfl ?_)
     refine zf ?_
     exact ⟨_, by omega, k + 1, _, rfl, zp ⟨rfl, rfl, rfl, rfl, trivial⟩, by omega, hS114⟩
    ·skip
     have hc115 := of_decide_eq_true hc115
     have hoj9 := (hft18 j (by omega)).1
     refine zq rfl ?_
     refine zw ?_
     refine zd ?_
     refine zx ?_
     refine zP (WF [fun vals wq => Sep G89 w84 ((ViewO b65 d Y Y) :: (ViewO b62 (yZ d) X X) :: (Blk b35 (d.cells v129 v230).toArray 25) :: (Blk b2 (d.cells dd0 dd1).toArray 25) :: Rs) wq]) (AF [Vl 0 (.bool b), Vl 1 (.bool b), Vl 2 (if b = true then v15 else undef), Vl 3 (if b = true then .int .i64 ((k : Nat) : Int) else undef), Vl 4 (if b = true then .pointer (some ⟨sb v15, so v15 + k * 10, none⟩) else undef), Vl 5 (if b = true then .pointer (some ⟨sb v15, so v15 + k * 10 + 3, none⟩) else undef), Vl 6 (if b = true then (zi w84 (sb v15) (so v15 + k * 10 + 3)) else undef), Vl 7 (if b = true then v15 else undef), Vl 8 (if b = true then .int .i64 ((j : Nat) : Int) else undef), Vl 9 (if b = true then .pointer (some ⟨sb v15, so v15 + j * 10, none⟩) else undef), Vl 10 (if b = true then .pointer (some ⟨sb v15, so v15 + j * 10, none⟩) else undef), Vl 11 (if b = true then .pointer (some ⟨sb v15, so v15 + j * 10, none⟩) else undef), Vl 12 (if b = true then .int .i64 ((l216.getD j default).origin) else undef), Vl 13 (if b = true then .pointer (some ⟨sb (zi w84 (sb v15) (so v15 + k * 10 + 3)), so (zi w84 (sb v15) (so v15 + k * 10 + 3)) + (((l216.getD j default).origin).toNat) * 1, none⟩) else undef), Vl 14 (if b = true then .int .i64 ((((l216.getD k default).deps).getD (((l216.getD j default).origin).toNat) 0)) else undef), Vl 15 (if b = true then v15 else undef), Vl 16 (if b = true then .int .i64 ((j : Nat) : Int) else undef), Vl 17 (if b = true then .pointer (some ⟨sb v15, so v15 + j * 10, none⟩) else undef), Vl 18 (if b = true then .pointer (some ⟨sb v15, so v15 + j * 10, none⟩) else undef), Vl 19 (if b = true then .pointer (some ⟨sb v15, so v15 + j * 10 + 1, none⟩) else undef), Vl 20 (if b = true then .int .i64 ((l216.getD j default).seq) else undef), Vl 21 (if b = true then .bool (decide (((l216.getD j default).seq) ≤ (((l216.getD k default).deps).getD (((l216.getD j default).origin).toNat) 0))) else undef), Vl 22 (.bool (b && (decide (((l216.getD j default).seq) ≤ (((l216.getD k default).deps).getD (((l216.getD j default).origin).toNat) 0))))), Vl 23 (.bool (b && (decide (((l216.getD j default).seq) ≤ (((l216.getD k default).deps).getD (((l216.getD j default).origin).toNat) 0)))))]) [[], [0], [0, 1], [0, 1], [0, 1, 2, 3], [0, 1, 2, 3, 4], [0, 1, 2, 3, 4, 5], [0, 1], [0, 1], [0, 1, 7, 8], [0, 1, 7, 8, 9], [0, 1, 7, 8, 9, 10], [0, 1, 7, 8, 9, 10, 11], [0, 1, 2, 3, 4, 5, 6, 7, 8, 9, 10, 11, 12], [0, 1, 2, 3, 4, 5, 6, 7, 8, 9, 10, 11, 12, 13], [0, 1], [0, 1], [0, 1, 15, 16], [0, 1, 15, 16, 17], [0, 1, 15, 16, 17, 18], [0, 1, 15, 16, 17, 18, 19], [0, 1, 2, 3, 4, 5, 6, 7, 8, 9, 10, 11, 12, 13, 14, 15, 16, 17, 18, 19, 20], [0, 1, 2, 3, 4, 5, 6, 7, 8, 9, 10, 11, 12, 13, 14, 15, 16, 17, 18, 19, 20, 21], [0, 1, 2, 3, 4, 5, 6, 7, 8, 9, 10, 11, 12, 13, 14, 15, 16, 17, 18, 19, 20, 21, 22]] [] [(0, 0), (0, 0), (0, 0), (0, 0), (0, 0), (0, 0), (0, 0), (0, 0), (0, 0), (0, 0), (0, 0), (0, 0), (0, 0), (0, 0), (0, 0), (0, 0), (0, 0), (0, 0), (0, 0), (0, 0), (0, 0), (0, 0), (0, 0), (0, 0)] (by kernel_rfl) (by kernel_rfl) (by kernel_rfl) rfl (by kernel_rfl) (by kernel_rfl) (fun _ h1 h2 h3 h4 _ => hS114.same h1 h2 h3 h4) ?_ (yg ⟨dA, dA, dA, dA, dA, dA, dA, dA, dA, dA, dA, dA, dA, dA, dA, dA, dA, dA, dA, dA, dA, dA, dA, dA, trivial⟩) ⟨?_, ?_, ?_, ?_, ?_, ?_, ?_, ?_, ?_, ?_, ?_, ?_, ?_, ?_, ?_, ?_, ?_, ?_, ?_, ?_, ?_, ?_, ?_, ?_, trivial⟩ ?_
     ·intro k vals vals' w hv h
      match k, h with
      | 0, h => exact h
      | _ + 1, _ => trivial
     ·intro k418 vals w419 h422 h423 hW421 hA420
      refine obl rfl ?_
      exact zb (v := .bool b) rfl (fun vals' hv _ => ⟨rfl, hv⟩)
     ·intro k424 vals w425 h428 h429 hW427 hA426
      have e430 := hA426 0 (by decide)
      refine obl rfl ?_
      exact zb (v := .bool b) e430 (fun vals' hv _ => ⟨rfl, hv⟩)
     ·intro k431 vals w432 h435 h436 hW434 hA433
      have e437 := hA433 1 (by decide)
      refine zC rfl rfl e437 (fun hb438 => ?_) (fun hb438 => fun vals' hv _ => ⟨trivial, hv.trans (if_neg hb438).symm⟩)
      have hl439 := hb438
      exact zb (v := v15) rfl (fun vals' hv _ => ⟨rfl, hv.trans (if_pos hb438).symm⟩)
     ·intro k440 vals w441 h444 h445 hW443 hA442
      have e446 := hA442 1 (by decide)
      refine zC rfl rfl e446 (fun hb447 => ?_) (fun hb447 => fun vals' hv _ => ⟨trivial, hv.trans (if_neg hb447).symm⟩)
      have hl448 := hb447
      exact zb (v := .int .i64 ((k : Nat) : Int)) rfl (fun vals' hv _ => ⟨rfl, hv.trans (if_pos hb447).symm⟩)
     ·intro k449 vals w450 h453 h454 hW452 hA451
      obtain rfl : k449 = 0 := Nat.le_antisymm h454 h453
      have hS455 : Sep _ _ _ _ := hW452
      have e456 := hA451 1 (by decide)
      have e457 : vals 2 = (if b = true then (v15 : Value) else undef) := hA451 2 (by decide)
      have e458 : vals 3 = (if b = true then (.int .i64 ((k : Nat) : Int) : Value) else undef) := hA451 3 (by decide)
      refine zC rfl rfl e456 (fun hb459 => ?_) (fun hb459 => fun vals' hv _ => ⟨trivial, hv.trans (if_neg hb459).symm⟩)
      have hl460 := hb459
      have hi461 : k < l216.length := (by first | omega | (simp only [lens]; omega))
      exact zm (k := 10) (i := k) Tryd.underlying47 Tryd.sizeOf59 (show _ = (v15 : Value) from (Eq.trans e457 (if_pos hb459))) (RdS.base (RdS.base (RdS.base (RdS.base hrd28 hB50) hB58) hB78) hB92).sl (show _ = (.int .i64 ((k : Nat) : Int) : Value) from (Eq.trans e458 (if_pos hb459))) hi461 (fun vals' hv _ => ⟨rfl, hv.trans (if_pos hb459).symm⟩)
     ·intro k462 vals w463 h466 h467 hW465 hA464
      have e468 := hA464 1 (by decide)
      have e469 : vals 4 = (if b = true then (.pointer (some ⟨sb v15, so v15 + k * 10, none⟩) : Value) else undef) := hA464 4 (by decide)
      refine zC rfl rfl e468 (fun hb470 => ?_) (fun hb470 => fun vals' hv _ => ⟨trivial, hv.trans (if_neg hb470).symm⟩)
      have hl471 := hb470
      exact xS (show _ = (.pointer (some ⟨sb v15, so v15 + k * 10, none⟩) : Value) from (Eq.trans e469 (if_pos hb470))) (fun vals' hv _ => ⟨rfl, hv.trans (if_pos hb470).symm⟩)
     ·intro k472 vals w473 h476 h477 hW475 hA474
      obtain rfl : k472 = 0 := Nat.le_antisymm h477 h476
      have hS478 : Sep _ _ _ _ := hW475
      have e479 := hA474 1 (by decide)
      have e480 : vals 5 = (if b = true then (.pointer (some ⟨sb v15, so v15 + k * 10 + 3, none⟩) : Value) else undef) := hA474 5 (by decide)
      refine zC rfl rfl e479 (fun hb481 => ?_) (fun hb481 => fun vals' hv _ => ⟨trivial, hv.trans (if_neg hb481).symm⟩)
      have hl482 := hb481
      have hi484 : k < l216.length := (by first | omega | (simp only [lens]; omega))
      obtain ⟨hce483, hde483_0, hoke483⟩ := (RdS.base (RdS.base (RdS.base (RdS.base hrd28 hB50) hB58) hB78) hB92).ev hi484
      rw [← zk default hi484] at hce483 hde483_0 hoke483
      have hsm485 : ((l216.getD k default).deps).length * 8 ≤ 140737488355328 := hde483_0.small
      have hcw486 := hS478.cells hce483 ((RdS.base (RdS.base (RdS.base (RdS.base hrd28 hB50) hB58) hB78) hB92).foot (ne_of_lt hi484))
      exact zg (v := (zi w84 (sb v15) (so v15 + k * 10 + 3))) Tryd.isAgg40 (show _ = (.pointer (some ⟨sb v15, so v15 + k * 10 + 3, none⟩) : Value) from (Eq.trans e480 (if_pos hb481))) (hcw486.get (j := 3) rfl) (fun vals' hv _ => ⟨rfl, hv.trans (if_pos hb481).symm⟩)
     ·intro k487 vals w488 h491 h492 hW490 hA489
      have e493 := hA489 1 (by decide)
      refine zC rfl rfl e493 (fun hb494 => ?_) (fun hb494 => fun vals' hv _ => ⟨trivial, hv.trans (if_neg hb494).symm⟩)
      have hl495 := hb494
      exact zb (v := v15) rfl (fun vals' hv _ => ⟨rfl, hv.trans (if_pos hb494).symm⟩)
     ·intro k496 vals w497 h500 h501 hW499 hA498
      have e502 := hA498 1 (by decide)
      refine zC rfl rfl e502 (fun hb503 => ?_) (fun hb503 => fun vals' hv _ => ⟨trivial, hv.trans (if_neg hb503).symm⟩)
      have hl504 := hb503
      exact zb (v := .int .i64 ((j : Nat) : Int)) rfl (fun vals' hv _ => ⟨rfl, hv.trans (if_pos hb503).symm⟩)
     ·intro k505 vals w506 h509 h510 hW508 hA507
      obtain rfl : k505 = 0 := Nat.le_antisymm h510 h509
      have hS511 : Sep _ _ _ _ := hW508
      have e512 := hA507 1 (by decide)
      have e513 : vals 7 = (if b = true then (v15 : Value) else undef) := hA507 7 (by decide)
      have e514 : vals 8 = (if b = true then (.int .i64 ((j : Nat) : Int) : Value) else undef) := hA507 8 (by decide)
      refine zC rfl rfl e512 (fun hb515 => ?_) (fun hb515 => fun vals' hv _ => ⟨trivial, hv.trans (if_neg hb515).symm⟩)
      have hl516 := hb515
      have hi517 : j < l216.length := (by first | omega | (simp only [lens]; omega))
      exact zm (k := 10) (i := j) Tryd.underlying47 Tryd.sizeOf59 (show _ = (v15 : Value) from (Eq.trans e513 (if_pos hb515))) (RdS.base (RdS.base (RdS.base (RdS.base hrd28 hB50) hB58) hB78) hB92).sl (show _ = (.int .i64 ((j : Nat) : Int) : Value) from (Eq.trans e514 (if_pos hb515))) hi517 (fun vals' hv _ => ⟨rfl, hv.trans (if_pos hb515).symm⟩)
     ·intro k518 vals w519 h522 h523 hW521 hA520
      have e524 := hA520 1 (by decide)
      have e525 : vals 9 = (if b = true then (.pointer (some ⟨sb v15, so v15 + j * 10, none⟩) : Value) else undef) := hA520 9 (by decide)
      refine zC rfl rfl e524 (fun hb526 => ?_) (fun hb526 => fun vals' hv _ => ⟨trivial, hv.trans (if_neg hb526).symm⟩)
      have hl527 := hb526
      exact yU (show _ = (.pointer (some ⟨sb v15, so v15 + j * 10, none⟩) : Value) from (Eq.trans e525 (if_pos hb526))) (fun vals' hv _ => ⟨rfl, hv.trans (if_pos hb526).symm⟩)
     ·intro k528 vals w529 h532 h533 hW531 hA530
      have e534 := hA530 1 (by decide)
      have e535 : vals 10 = (if b = true then (.pointer (some ⟨sb v15, so v15 + j * 10, none⟩) : Value) else undef) := hA530 10 (by decide)
      refine zC rfl rfl e534 (fun hb536 => ?_) (fun hb536 => fun vals' hv _ => ⟨trivial, hv.trans (if_neg hb536).symm⟩)
      have hl537 := hb536
      exact Yc (show _ = (.pointer (some ⟨sb v15, so v15 + j * 10, none⟩) : Value) from (Eq.trans e535 (if_pos hb536))) (fun vals' hv _ => ⟨rfl, hv.trans (if_pos hb536).symm⟩)
     ·intro k538 vals w539 h542 h543 hW541 hA540
      obtain rfl : k538 = 0 := Nat.le_antisymm h543 h542
      have hS544 : Sep _ _ _ _ := hW541
      have e545 := hA540 1 (by decide)
      have e546 : vals 11 = (if b = true then (.pointer (some ⟨sb v15, so v15 + j * 10, none⟩) : Value) else undef) := hA540 11 (by decide)
      refine zC rfl rfl e545 (fun hb547 => ?_) (fun hb547 => fun vals' hv _ => ⟨trivial, hv.trans (if_neg hb547).symm⟩)
      have hl548 := hb547
      have hi550 : j < l216.length := (by first | omega | (simp only [lens]; omega))
      obtain ⟨hce549, hde549_0, hoke549⟩ := (RdS.base (RdS.base (RdS.base (RdS.base hrd28 hB50) hB58) hB78) hB92).ev hi550
      rw [← zk default hi550] at hce549 hde549_0 hoke549
      have hsm551 : ((l216.getD j default).deps).length * 8 ≤ 140737488355328 := hde549_0.small
      have hcw552 := hS544.cells hce549 ((RdS.base (RdS.base (RdS.base (RdS.base hrd28 hB50) hB58) hB78) hB92).foot (ne_of_lt hi550))
      exact zg (v := .int .i64 ((l216.getD j default).origin)) Tryd.isAgg3 (show _ = (.pointer (some ⟨sb v15, so v15 + j * 10, none⟩) : Value) from (Eq.trans e546 (if_pos hb547))) (hcw552.get (j := 0) rfl) (fun vals' hv _ => ⟨rfl, hv.trans (if_pos hb547).symm⟩)
     ·intro k553 vals w554 h557 h558 hW556 hA555
      obtain rfl : k553 = 0 := Nat.le_antisymm h558 h557
      have hS559 : Sep _ _ _ _ := hW556
      have e560 := hA555 1 (by decide)
      have e561 : vals 6 = (if b = true then ((zi w84 (sb v15) (so v15 + k * 10 + 3)) : Value) else undef) := hA555 6 (by decide)
      have e562 : vals 12 = (if b = true then (.int .i64 ((l216.getD j default).origin) : Value) else undef) := hA555 12 (by decide)
      refine zC rfl rfl e560 (fun hb563 => ?_) (fun hb563 => fun vals' hv _ => ⟨trivial, hv.trans (if_neg hb563).symm⟩)
      have hl564 := hb563
      have hi566 : k < l216.length := (by first | omega | (simp only [lens]; omega))
      obtain ⟨hce565, hde565_0, hoke565⟩ := (RdS.base (RdS.base (RdS.base (RdS.base hrd28 hB50) hB58) hB78) hB92).ev hi566
      rw [← zk default hi566] at hce565 hde565_0 hoke565
      have hsm567 : ((l216.getD k default).deps).length * 8 ≤ 140737488355328 := hde565_0.small
      have hcw568 := hS559.cells hce565 ((RdS.base (RdS.base (RdS.base (RdS.base hrd28 hB50) hB58) hB78) hB92).foot (ne_of_lt hi566))
      have hi569 : ((l216.getD j default).origin).toNat < ((l216.getD k default).deps).length := (by first | omega | (simp only [lens]; omega))
      exact zG (k := 1) (i := (l216.getD j default).origin) Tryd.underlying40 Tryd.sizeOf3 (show _ = ((zi w84 (sb v15) (so v15 + k * 10 + 3)) : Value) from (Eq.trans e561 (if_pos hb563))) hde565_0.sl (show _ = (.int .i64 ((l216.getD j default).origin) : Value) from (Eq.trans e562 (if_pos hb563))) ⟨by omega, by omega⟩ (fun vals' hv _ => ⟨rfl, hv.trans (if_pos hb563).symm⟩)
     ·intro k570 vals w571 h574 h575 hW573 hA572
      obtain rfl : k570 = 0 := Nat.le_antisymm h575 h574
      have hS576 : Sep _ _ _ _ := hW573
      have e577 := hA572 1 (by decide)
      have e578 : vals 13 = (if b = true then (.pointer (some ⟨sb (zi w84 (sb v15) (so v15 + k * 10 + 3)), so (zi w84 (sb v15) (so v15 + k * 10 + 3)) + (((l216.getD j default).origin).toNat) * 1, none⟩) : Value) else undef) := hA572 13 (by decide)
      refine zC rfl rfl e577 (fun hb579 => ?_) (fun hb579 => fun vals' hv _ => ⟨trivial, hv.trans (if_neg hb579).symm⟩)
      have hl580 := hb579
      have hi583 : k < l216.length := (by first | omega | (simp only [lens]; omega))
      obtain ⟨hce582, hde582_0, hoke582⟩ := (RdS.base (RdS.base (RdS.base (RdS.base hrd28 hB50) hB58) hB78) hB92).ev hi583
      rw [← zk default hi583] at hce582 hde582_0 hoke582
      have hsm584 : ((l216.getD k default).deps).length * 8 ≤ 140737488355328 := hde582_0.small
      have hcw585 := hS576.cells hce582 ((RdS.base (RdS.base (RdS.base (RdS.base hrd28 hB50) hB58) hB78) hB92).foot (ne_of_lt hi583))
      have hi586 : ((l216.getD j default).origin).toNat < ((l216.getD k default).deps).length := (by first | omega | (simp only [lens]; omega))
      obtain ⟨hce581, hxe581⟩ := hde582_0.int hi586
      rw [← zk 0 hi586] at hce581 hxe581
      have hcw587 := hS576.cells hce581 (hde582_0.foot (ne_of_lt hi586))
      exact zg (v := .int .i64 ((((l216.getD k default).deps).getD (((l216.getD j default).origin).toNat) 0))) Tryd.isAgg3 (show _ = (.pointer (some ⟨sb (zi w84 (sb v15) (so v15 + k * 10 + 3)), so (zi w84 (sb v15) (so v15 + k * 10 + 3)) + (((l216.getD j default).origin).toNat) * 1, none⟩) : Value) from (Eq.trans e578 (if_pos hb579))) (hcw587.get (j := 0) rfl) (fun vals' hv _ => ⟨rfl, hv.trans (if_pos hb579).symm⟩)
     ·intro k588 vals w589 h592 h593 hW591 hA590
      have e594 := hA590 1 (by decide)
      refine zC rfl rfl e594 (fun hb595 => ?_) (fun hb595 => fun vals' hv _ => ⟨trivial, hv.trans (if_neg hb595).symm⟩)
      have hl596 := hb595
      exact zb (v := v15) rfl (fun vals' hv _ => ⟨rfl, hv.trans (if_pos hb595).symm⟩)
     ·intro k597 vals w598 h601 h602 hW600 hA599
      have e603 := hA599 1 (by decide)
      refine zC rfl rfl e603 (fun hb604 => ?_) (fun hb604 => fun vals' hv _ => ⟨trivial, hv.trans (if_neg hb604).symm⟩)
      have hl605 := hb604
      exact zb (v := .int .i64 ((j : Nat) : Int)) rfl (fun vals' hv _ => ⟨rfl, hv.trans (if_pos hb604).symm⟩)
     ·intro k606 vals w607 h610 h611 hW609 hA608
      obtain rfl : k606 = 0 := Nat.le_antisymm h611 h610
      have hS612 : Sep _ _ _ _ := hW609
      have e613 := hA608 1 (by decide)
      have e614 : vals 15 = (if b = true then (v15 : Value) else undef) := hA608 15 (by decide)
      have e615 : vals 16 = (if b = true then (.int .i64 ((j : Nat) : Int) : Value) else undef) := hA608 16 (by decide)
      refine zC rfl rfl e613 (fun hb616 => ?_) (fun hb616 => fun vals' hv _ => ⟨trivial, hv.trans (if_neg hb616).symm⟩)
      have hl617 := hb616
      have hi618 : j < l216.length := (by first | omega | (simp only [lens]; omega))
      exact zm (k := 10) (i := j) Tryd.underlying47 Tryd.sizeOf59 (show _ = (v15 : Value) from (Eq.trans e614 (if_pos hb616))) (RdS.base (RdS.base (RdS.base (RdS.base hrd28 hB50) hB58) hB78) hB92).sl (show _ = (.int .i64 ((j : Nat) : Int) : Value) from (Eq.trans e615 (if_pos hb616))) hi618 (fun vals' hv _ => ⟨rfl, hv.trans (if_pos hb616).symm⟩)
     ·intro k619 vals w620 h623 h624 hW622 hA621
      have e625 := hA621 1 (by decide)
      have e626 : vals 17 = (if b = true then (.pointer (some ⟨sb v15, so v15 + j * 10, none⟩) : Value) else undef) := hA621 17 (by decide)
      refine zC rfl rfl e625 (fun hb627 => ?_) (fun hb627 => fun vals' hv _ => ⟨trivial, hv.trans (if_neg hb627).symm⟩)
      have hl628 := hb627
      exact yU (show _ = (.pointer (some ⟨sb v15, so v15 + j * 10, none⟩) : Value) from (Eq.trans e626 (if_pos hb627))) (fun vals' hv _ => ⟨rfl, hv.trans (if_pos hb627).symm⟩)
     ·intro k629 vals w630 h633 h634 hW632 hA631
      have e635 := hA631 1 (by decide)
      have e636 : vals 18 = (if b = true then (.pointer (some ⟨sb v15, so v15 + j * 10, none⟩) : Value) else undef) := hA631 18 (by decide)
      refine zC rfl rfl e635 (fun hb637 => ?_) (fun hb637 => fun vals' hv _ => ⟨trivial, hv.trans (if_neg hb637).symm⟩)
      have hl638 := hb637
      exact Xj (show _ = (.pointer (some ⟨sb v15, so v15 + j * 10, none⟩) : Value) from (Eq.trans e636 (if_pos hb637))) (fun vals' hv _ => ⟨rfl, hv.trans (if_pos hb637).symm⟩)
     ·intro k639 vals w640 h643 h644 hW642 hA641
      obtain rfl : k639 = 0 := Nat.le_antisymm h644 h643
      have hS645 : Sep _ _ _ _ := hW642
      have e646 := hA641 1 (by decide)
      have e647 : vals 19 = (if b = true then (.pointer (some ⟨sb v15, so v15 + j * 10 + 1, none⟩) : Value) else undef) := hA641 19 (by decide)
      refine zC rfl rfl e646 (fun hb648 => ?_) (fun hb648 => fun vals' hv _ => ⟨trivial, hv.trans (if_neg hb648).symm⟩)
      have hl649 := hb648
      have hi651 : j < l216.length := (by first | omega | (simp only [lens]; omega))
      obtain ⟨hce650, hde650_0, hoke650⟩ := (RdS.base (RdS.base (RdS.base (RdS.base hrd28 hB50) hB58) hB78) hB92).ev hi651
      rw [← zk default hi651] at hce650 hde650_0 hoke650
      have hsm652 : ((l216.getD j default).deps).length * 8 ≤ 140737488355328 := hde650_0.small
      have hcw653 := hS645.cells hce650 ((RdS.base (RdS.base (RdS.base (RdS.base hrd28 hB50) hB58) hB78) hB92).foot (ne_of_lt hi651))
      exact zg (v := .int .i64 ((l216.getD j default).seq)) Tryd.isAgg3 (show _ = (.pointer (some ⟨sb v15, so v15 + j * 10 + 1, none⟩) : Value) from (Eq.trans e647 (if_pos hb648))) (hcw653.get (j := 1) rfl) (fun vals' hv _ => ⟨rfl, hv.trans (if_pos hb648).symm⟩)
     ·intro k654 vals w655 h658 h659 hW657 hA656
      obtain rfl : k654 = 0 := Nat.le_antisymm h659 h658
      have hS660 : Sep _ _ _ _ := hW657
      have e661 := hA656 1 (by decide)
      have e662 : vals 14 = (if b = true then (.int .i64 ((((l216.getD k default).deps).getD (((l216.getD j default).origin).toNat) 0)) : Value) else undef) := hA656 14 (by decide)
      have e663 : vals 20 = (if b = true then (.int .i64 ((l216.getD j default).seq) : Value) else undef) := hA656 20 (by decide)
      refine zC rfl rfl e661 (fun hb664 => ?_) (fun hb664 => fun vals' hv _ => ⟨trivial, hv.trans (if_neg hb664).symm⟩)
      have hl665 := hb664
      exact xI (k := .i64) (a := (((l216.getD k default).deps).getD (((l216.getD j default).origin).toNat) 0)) (b := (l216.getD j default).seq) (show _ = (.int .i64 ((((l216.getD k default).deps).getD (((l216.getD j default).origin).toNat) 0)) : Value) from (Eq.trans e662 (if_pos hb664))) (show _ = (.int .i64 ((l216.getD j default).seq) : Value) from (Eq.trans e663 (if_pos hb664))) (fun vals' hv _ => ⟨rfl, hv.trans (if_pos hb664).symm⟩)
     ·intro k666 vals w667 h670 h671 hW669 hA668
      have e672 := hA668 1 (by decide)
      have e673 : vals 21 = (if b = true then (.bool (decide (((l216.getD j default).seq) ≤ (((l216.getD k default).deps).getD (((l216.getD j default).origin).toNat) 0))) : Value) else undef) := hA668 21 (by decide)
      refine obl rfl ?_
      exact zK (b := b) (b' := decide (((l216.getD j default).seq) ≤ (((l216.getD k default).deps).getD (((l216.getD j default).origin).toNat) 0))) e672 (fun hbp => (show _ = (.bool (decide (((l216.getD j default).seq) ≤ (((l216.getD k default).deps).getD (((l216.getD j default).origin).toNat) 0))) : Value) from (Eq.trans e673 (if_pos hbp)))) (fun vals' hv _ => ⟨rfl, hv⟩)
     ·intro k674 vals w675 h678 h679 hW677 hA676
      have e680 := hA676 22 (by decide)
      refine obl rfl ?_
      exact ze (v := .bool (b && (decide (((l216.getD j default).seq) ≤ (((l216.getD k default).deps).getD (((l216.getD j default).origin).toNat) 0))))) e680 (fun vals' hv _ => ⟨rfl, hv⟩)
     intro vals w681 hW682 hA683
     have hS684 : Sep _ _ _ _ := hW682
     have e685 := hA683 23 (by decide)
     refine yh (kv := [(2, v15), (12, v69), (13, v83), (14, .int .i64 ((k : Nat) : Int)), (15, .bool (b && (decide (((l216.getD j default).seq) ≤ (((l216.getD k default).deps).getD (((l216.getD j default).origin).toNat) 0))))), (16, .int .i64 ((j : Nat) : Int)), (89, .int .i64 ((j : Nat) : Int)), (90, .int .i64 ((k : Nat) : Int)), (91, .bool true)]) ⟨rfl, rfl, rfl, rfl, (by exact e685), rfl, rfl, rfl, rfl, trivial⟩ (fun ρw681 => ?_)
     refine zf ?_
     refine za (by kernel_rfl) (fun _ => ?_)
     refine st (zb (v := .int .i64 ((j : Nat) : Int)) rfl ?_)
     have hr686 : InR ((j + 1 : Nat) : Int) := by first | omega | (simp only [lens]; omega)
     refine st (ye (r := ((j + 1 : Nat) : Int)) (k := .i64) (a := ((j : Nat) : Int)) (b := 1) rfl rfl (by rw [show (((j : Nat) : Int) + 1 : Int) = ((j + 1 : Nat) : Int) by first | omega | (simp only [lens]; omega)]; exact zQ hr686) ?_)
     refine st (ze (v := .int .i64 ((j + 1 : Nat) : Int)) rfl ?_)
     refine zf ?_
     exact ⟨_, by omega, j + 1, b && (decide (((l216.getD j default).seq) ≤ (((l216.getD k default).deps).getD (((l216.getD j default).origin).toNat) 0))), _, rfl, zp ⟨rfl, rfl, rfl, rfl, rfl, rfl, trivial⟩, by omega, (Vo hb), hS684⟩
  ·skip
   have hc45 := of_decide_eq_true hc45
   refine zq rfl ?_
   refine zw ?_
   refine zd ?_
   refine zx ?_
   refine zd ?_
   have hS687 := hS44.mv1
   obtain ⟨sh688, hsh689, hS690⟩ := TypW.open hS687
   have hS690t : Sep G22 w19 ((RowE (α := TypS) own 33 v129 sh688) :: (Star (FldRows 79 sh688 (prog yI k d.types))) :: (Blk b35 (d.cells v129 v230).toArray 25) :: (RwP v230 d.projs) :: (Blk b2 (d.cells dd0 dd1).toArray 25) :: Rs) w41 := hS690
   have hr691 := hS690t.row (i := 0) rfl
   have hr691s : _ * 24 ≤ _ := hr691.2
   have hS692 : Sep G22 w19 ((RwF ((sh688.getD k default).v) (((prog yI k d.types).getD k default).fields)) :: (Star ((FldRows 79 sh688 (prog yI k d.types)).set k Emp)) :: (RowE (α := TypS) own 33 v129 sh688) :: (Blk b35 (d.cells v129 v230).toArray 25) :: (RwP v230 d.projs) :: (Blk b2 (d.cells dd0 dd1).toArray 25) :: Rs) w41 := TypW.take (i := k) hsh689 (by omega) hS690t
   have hfe : ((prog yI k d.types).getD k default).fields = prog xa 0 ((d.types.getD k default).fields) := by rw [Xx _ (by omega)]; rfl
   rw [hfe] at hS692
   have hr693 := hS692.row (i := 0) rfl
   have hr693s : _ * 48 ≤ _ := hr693.2
   have hsh689l : sh688.length = d.types.length := hsh689.trans hpl
   refine za (by kernel_rfl) (fun _ => ?_)
   refine st (ze (v := .int .i64 (0)) rfl ?_)
   refine zf ?_
   refine zx ?_
   refine yn (fun mq σ wq => ∃ (q : Nat) (ρ : Env), mq = ((d.types.getD k default).fields).length - q ∧ σ = yp ρ [(2, v15), (3, .pointer (some ⟨b2, 0, none⟩)), (7, .pointer (some ⟨b35, 0, none⟩)), (8, .int .i64 ((k : Nat) : Int)), (9, .int .i64 ((q : Nat) : Int))] ∧ (q ≤ ((d.types.getD k default).fields).length) ∧ Sep G22 w19 ((RwF ((sh688.getD k default).v) (prog xa q ((d.types.getD k default).fields))) :: (Star ((FldRows 79 sh688 (prog yI k d.types)).set k Emp)) :: (RowE (α := TypS) own 33 v129 sh688) :: (Blk b35 (d.cells v129 v230).toArray 25) :: (RwP v230 d.projs) :: (Blk b2 (d.cells dd0 dd1).toArray 25) :: Rs) wq) ⟨0, _, rfl, zp ⟨rfl, rfl, rfl, rfl, rfl, trivial⟩, Nat.zero_le _, hS692⟩ ?_
   rintro m695 σ696 w694 ⟨q, ρl4, rfl, rfl, hqq, hS697⟩
   have hr698 := hS697.row (i := 0) rfl
   have hr698s : _ * 48 ≤ _ := hr698.2
   have hql : (prog xa q ((d.types.getD k default).fields)).length = ((d.types.getD k default).fields).length := XU _
   refine zd ?_
   refine zd ?_
   refine za (by kernel_rfl) (fun _ => ?_)
   refine st (zb (v := .int .i64 ((q : Nat) : Int)) rfl ?_)
   refine st (yt rfl ?_)
   refine st (zg (v := v129) Tryd.isAgg22 rfl (zh (hS697.blk (i := 3) rfl) rfl) ?_)
   refine st (zb (v := .int .i64 ((k : Nat) : Int)) rfl ?_)
   have hi699 : k < sh688.length := (by first | omega | (simp only [lens]; omega))
   refine st (zm (k := 1) (i := k) Tryd.underlying22 Tryd.sizeOf33 rfl hr691.1 rfl hi699 ?_)
   refine st (yC rfl ?_)
   have hi701 : k < sh688.length := (by first | omega | (simp only [lens]; omega))
   obtain ⟨_, _, hce700, rfl, hoke700⟩ := hS697.rowAt (i := 2) (j := k) rfl hi701
   rw [← zk default hi701] at hce700 hoke700
   refine st (zg (v := (sh688.getD k default).v) Tryd.isAgg31 rfl (hce700.get (j := 0) rfl) ?_)
   refine st (zJ (n := (prog xa q ((d.types.getD k default).fields)).length) Tryd.underlying31 rfl hr698.1 ?_)
   refine st (zN (k := .i64) (a := ((q : Nat) : Int)) (b := (((prog xa q ((d.types.getD k default).fields)).length : Nat) : Int)) rfl rfl ?_)
   refine zf ?_
   cases hc702 : decide (((q : Nat) : Int) < (((prog xa q ((d.types.getD k default).fields)).length : Nat) : Int))
   ·skip
    have hc702 := of_decide_eq_false hc702
    have hfc : (prog xa q ((d.types.getD k default).fields)) = (yI (d.types.getD k default)).fields := XH _ (by omega)
    rw [hfc] at hS697
    have hS703 : Sep G22 w19 ((TypW v129 33 79 ((prog yI k d.types).set k (yI (d.types.getD k default)))) :: (Blk b35 (d.cells v129 v230).toArray 25) :: (RwP v230 d.projs) :: (Blk b2 (d.cells dd0 dd1).toArray 25) :: Rs) w694 := TypW.close (i := k) (c := (yI (d.types.getD k default))) hsh689 (by omega) hS697
    rw [XN yI (by omega)] at hS703
    refine zo rfl ?_
    refine ym ?_
    refine yd ?_
    refine za (by kernel_rfl) (fun _ => ?_)
    refine st (zb (v := .int .i64 ((k : Nat) : Int)) rfl ?_)
    have hr704 : InR ((k + 1 : Nat) : Int) := by first | omega | (simp only [lens]; omega)
    refine st (ye (r := ((k + 1 : Nat) : Int)) (k := .i64) (a := ((k : Nat) : Int)) (b := 1) rfl rfl (by rw [show (((k : Nat) : Int) + 1 : Int) = ((k + 1 : Nat) : Int) by first | omega | (simp only [lens]; omega)]; exact zQ hr704) ?_)
    refine st (ze (v := .int .i64 ((k + 1 : Nat) : Int)) rfl ?_)
    refine zf ?_
    have hS705 := hS703.mv1
    exact ⟨_, by omega, k + 1, _, rfl, zp ⟨rfl, rfl, rfl, rfl, trivial⟩, by omega, hS705⟩
   ·skip
    have hc702 := of_decide_eq_true hc702
    refine zq rfl ?_
    refine zw ?_
    refine zd ?_
    refine zx ?_
    refine za (by kernel_rfl) (fun _ => ?_)
    refine st (yt rfl ?_)
    refine st (zg (v := v129) Tryd.isAgg22 rfl (zh (hS697.blk (i := 3) rfl) rfl) ?_)
    refine st (zb (v := .int .i64 ((k : Nat) : Int)) rfl ?_)
    have hi706 : k < sh688.length := (by first | omega | (simp only [lens]; omega))
    refine st (zm (k := 1) (i := k) Tryd.underlying22 Tryd.sizeOf33 rfl hr691.1 rfl hi706 ?_)
    refine st (yC rfl ?_)
    have hi708 : k < sh688.length := (by first | omega | (simp only [lens]; omega))
    obtain ⟨_, _, hce707, rfl, hoke707⟩ := hS697.rowAt (i := 2) (j := k) rfl hi708
    rw [← zk default hi708] at hce707 hoke707
    refine st (zg (v := (sh688.getD k default).v) Tryd.isAgg31 rfl (hce707.get (j := 0) rfl) ?_)
    refine st (zb (v := .int .i64 ((q : Nat) : Int)) rfl ?_)
    have hi709 : q < (prog xa q ((d.types.getD k default).fields)).length := (by first | omega | (simp only [lens]; omega))
    refine st (zm (k := 4) (i := q) Tryd.underlying31 Tryd.sizeOf79 rfl hr698.1 rfl hi709 ?_)
    refine st (ZI rfl ?_)
    have hS711 : Sep G22 w19 ((RwF ((sh688.getD k default).v) (prog xa q ((d.types.getD k default).fields))) :: Emp :: (Star ((FldRows 79 sh688 (prog yI k d.types)).set k Emp)) :: (RowE (α := TypS) own 33 v129 sh688) :: (Blk b35 (d.cells v129 v230).toArray 25) :: (RwP v230 d.projs) :: (Blk b2 (d.cells dd0 dd1).toArray 25) :: Rs) w694 := hS697.emp1
    refine stn (yY (α := Fld) (j := q) (o := 1) (u := .int .i64 (1)) (us := [.int .i64 (1)]) (x1 := ({ ((prog xa q ((d.types.getD k default).fields)).getD q default) with policy := 1 } : Fld)) hS711 Tryd.sizeOf3 (by first | omega | (simp only [lens]; omega)) rfl rfl rfl (Nat.le_of_ble_eq_true rfl) (yj ⟨rfl, trivial⟩) (fun _ _ _ hel _ => (by rw [← zk default (by omega)] at hel; obtain ⟨d0, rfl, h0, hok⟩ := hel; exact ⟨_, rfl, h0, ⟨hok.kind, (show InR (1) from (by decide))⟩⟩)) ?_)
    intro w710 hS712
    have hr713 := hS712.row (i := 0) rfl
    have hr713s : _ * 48 ≤ _ := hr713.2
    refine zf ?_
    refine za (by kernel_rfl) (fun _ => ?_)
    refine st (zb (v := .int .i64 ((q : Nat) : Int)) rfl ?_)
    have hr714 : InR ((q + 1 : Nat) : Int) := by first | omega | (simp only [lens]; omega)
    refine st (ye (r := ((q + 1 : Nat) : Int)) (k := .i64) (a := ((q : Nat) : Int)) (b := 1) rfl rfl (by rw [show (((q : Nat) : Int) + 1 : Int) = ((q + 1 : Nat) : Int) by first | omega | (simp only [lens]; omega)]; exact zQ hr714) ?_)
    refine st (ze (v := .int .i64 ((q + 1 : Nat) : Int)) rfl ?_)
    refine zf ?_
    have hL715 : prog xa (q + 1) ((d.types.getD k default).fields) = (prog xa q ((d.types.getD k default).fields)).set q ({ ((prog xa q ((d.types.getD k default).fields)).getD q default) with policy := 1 } : Fld) := Qq (by omega)
    rw [← hL715] at hS712
    exact ⟨_, by omega, q + 1, _, rfl, zp ⟨rfl, rfl, rfl, rfl, rfl, trivial⟩, by omega, hS712⟩
 ·skip
  try simp only [zn] at hc9
  refine zq rfl ?_
  refine zd ?_
  refine za (by kernel_rfl) (fun _ => ?_)
  refine st (zv (f := 21) (vals := []) (cap := []) rfl rfl Tryd.call21 (YQ  hKN hS8) ?_)
  rintro _ w716 ⟨rfl, hS717⟩
  refine st (ze (v := .bool true) rfl ?_)
  refine zf ?_
  refine zu ?_
  refine ya Tryd.results10 (show _ = (.bool true : Value) from rfl) ?_
  have hS718 : Sep G W Rs w716 := hS717.sel 1 [] (Nat.le_add_left _ _) rfl rfl
  refine ⟨rfl, hS718⟩

end Go.Proofs.YtlblilbmpdejgaaDoor
/- Steps of the proofs of this seat: part F21. -/
set_option maxRecDepth 8000
set_option maxHeartbeats 4000000
namespace Go.Proofs.YtlblilbmpdejgaaDoor
open Go.Proofs Go.RowKit

theorem Wg {w : World} {d : Dcl} {dd0 dd1 : Value} (h0 : RdS w (yV w) dd0 d.types) (h1 : RdS w (yV w) dd1 d.projs) (od : d.Ok) {n : Int} (hn : InR n) {vl : Value} {l : List Ev} (hl : RdS w (yV w) vl l) (hK : RdS w (yV w) (.slice (some ⟨0, 0, none⟩) 6 6) kindsL) : Ret Tryd.prog 10 [.agg (d.cells dd0 dd1).toArray, .int .i64 n, vl] w (fun r w' => r = .bool true ∧ Ext w w') :=
  Ret.mono (Wh h0 h1 od hn hl hK (Sep.start w)) (fun r w' h => ⟨h.1, h.2.fin⟩)
end Go.Proofs.YtlblilbmpdejgaaDoor
