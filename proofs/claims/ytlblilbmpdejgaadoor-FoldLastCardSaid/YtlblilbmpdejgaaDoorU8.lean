import Derived.Test.YtlblilbmpdejgaaDoorU7
set_option linter.unusedSimpArgs false
set_option linter.unusedVariables false
set_option linter.unusedSectionVars false
set_option linter.deprecated false
/- Steps of the proofs of this seat: part F3. -/
set_option maxRecDepth 8000
set_option maxHeartbeats 4000000
namespace Go.Proofs.YtlblilbmpdejgaaDoor
open Go.Proofs Go.RowKit

theorem el22 : Elem Tryd.prog 22 33 1 24 := ⟨Tryd.underlying22, _, _, rfl, rfl, rfl, rfl, rfl⟩
theorem WD {G : Nat → Prop} {W w : World} {Rs : List HP} {d : Dcl} {dd0 : Value} (hdd0 : RdS W G dd0 d.types) {dd1 : Value} (hdd1 : RdS W G dd1 d.projs) (od : d.Ok) (hS0 : Sep G W Rs w) : Ret Tryd.prog 57 [.agg (d.cells dd0 dd1).toArray] w (fun r w' => ∃ (v1 : Value) (v2 : Value), r = (.agg (d.cells v1 v2).toArray : Value) ∧ Sep G W ((RowE (α := Typ) own 33 v1 d.types) :: (RowE (α := Prj) own 107 v2 d.projs) :: Rs) w') := by
 have hdd0s : _ * 24 ≤ _ := hdd0.small
 have hdd1s : _ * 40 ≤ _ := hdd1.small
 refine zr (args := [.agg (d.cells dd0 dd1).toArray]) Tryd.func57 rfl rfl ?_
 refine zd ?_
 refine za (by kernel_rfl) (fun _ => ?_)
 refine st (yb (v := .agg (d.cells dd0 dd1).toArray) rfl ?_)
 intro w3 b2 hn1
 have hS4 := hS0.new hn1
 refine st (zE Tryd.zeroValue25 ?_)
 intro w7 b6 hn5
 have hS8 := hS4.new hn5
 refine zf ?_
 refine zd ?_
 refine za (by kernel_rfl) (fun _ => ?_)
 refine st (xK rfl ?_)
 refine st (zg (v := dd1) Tryd.isAgg23 rfl (zh (hS8.blk (i := 1) rfl) rfl) ?_)
 refine st (zv (f := 87) (vals := [dd1]) (cap := []) rfl rfl Tryd.call87 (Wm (l := d.projs) (vl := dd1) hdd1 hS8) ?_)
 rintro v9 w10 ⟨_, rfl, hS11⟩
 have hr12 := hS11.row (i := 0) rfl
 have hr12s : _ * 40 ≤ _ := hr12.2
 have ok13 : Dcl.Ok (⟨[], d.projs⟩ : Dcl) := ⟨⟩
 refine st (zS (parts' := [(1, v9)]) (v := .agg ((⟨[], d.projs⟩ : Dcl).cells (.slice none 0 0) v9).toArray) rfl (by obtain ⟨_, _, hv14, _⟩ := hr12.1; rw [show v9 = Value.slice _ _ _ from hv14]; simp [Instr.build, Instr.fill, Ev.cells, go_sem, Mv.cells, Fld.cells, Typ.cells, Prj.cells, Dcl.cells, Cel.cells, AskR.cells, Ask.cells, CelS.cells, Ev.cells, Ent.cells, Sta.cells]) ?_)
 refine st (zE Tryd.zeroValue25 ?_)
 intro w17 b16 hn15
 have hS18 := hS11.new hn15
 refine stn (zy (v := .agg ((⟨[], d.projs⟩ : Dcl).cells (.slice none 0 0) v9).toArray) (c' := ((⟨[], d.projs⟩ : Dcl).cells (.slice none 0 0) v9).toArray) Tryd.sizeOf25 rfl rfl (hS18.blk (i := 0) rfl) (yj ⟨rfl, hr12.1.one, trivial⟩) (Nat.le_of_ble_eq_true rfl) rfl ?_)
 intro w19 hp20
 have hS21 := hS18.pt0 hp20
 refine zf ?_
 refine zd ?_
 refine zd ?_
 refine za (by kernel_rfl) (fun _ => ?_)
 refine st (yt rfl ?_)
 refine st (zg (v := dd0) Tryd.isAgg22 rfl (zh (hS21.blk (i := 3) rfl) rfl) ?_)
 refine st (zJ (n := d.types.length) Tryd.underlying22 rfl hdd0.sl ?_)
 refine st (zb (v := .int .i64 (0)) rfl ?_)
 refine zf ?_
 refine zx ?_
 have hS22 : Sep G W ((RowE (α := Typ) own 33 (.slice none 0 0) ([] : List Typ)) :: (Blk b16 ((⟨[], d.projs⟩ : Dcl).cells (.slice none 0 0) v9).toArray 25) :: (RowE (α := Prj) own 107 v9 d.projs) :: (Blk b6 #[(.slice none 0 0), (.slice none 0 0)] 25) :: (Blk b2 (d.cells dd0 dd1).toArray 25) :: Rs) w19 := hS21.rowNil own 33
 refine yn (fun mq σ wq => ∃ (k : Nat) (vo : Value) (ρ : Env), mq = d.types.length - k ∧ σ = yp ρ [(1, .pointer (some ⟨b2, 0, none⟩)), (2, .pointer (some ⟨b6, 0, none⟩)), (3, .pointer (some ⟨b16, 0, none⟩)), (13, dd0), (14, .int .i64 ((d.types.length : Nat) : Int)), (15, .int .i64 ((k : Nat) : Int))] ∧ (k ≤ d.types.length) ∧ Sep G W ((RowE (α := Typ) own 33 vo (d.types.take k)) :: (Blk b16 #[vo, v9] 25) :: (RowE (α := Prj) own 107 v9 d.projs) :: (Blk b6 #[(.slice none 0 0), (.slice none 0 0)] 25) :: (Blk b2 (d.cells dd0 dd1).toArray 25) :: Rs) wq) ⟨0, (.slice none 0 0), _, rfl, zp ⟨rfl, rfl, rfl, rfl, rfl, rfl, trivial⟩, Nat.zero_le _, hS22⟩ ?_
 rintro m24 σ25 w23 ⟨k, vo, ρl1, rfl, rfl, hkk, hS26⟩
 have hr27 := hS26.row (i := 0) rfl
 have hr27s : _ * 24 ≤ _ := hr27.2
 refine zd ?_
 refine za (by kernel_rfl) (fun _ => ?_)
 refine st (zN (k := .i64) (a := ((k : Nat) : Int)) (b := ((d.types.length : Nat) : Int)) rfl rfl ?_)
 refine zf ?_
 refine zd ?_
 cases hc28 : decide (((k : Nat) : Int) < ((d.types.length : Nat) : Int))
 ·skip
  have hc28 := of_decide_eq_false hc28
  have hkn : k = d.types.length := by omega
  rw [hkn, List.take_of_length_le (Nat.le_refl d.types.length)] at hS26
  have hr29 := hS26.row (i := 0) rfl
  have hr29s : _ * 24 ≤ _ := hr29.2
  refine zo rfl ?_
  refine ym ?_
  refine yd ?_
  refine zd ?_
  refine za (by kernel_rfl) (fun _ => ?_)
  have ok30 : Dcl.Ok d := ⟨⟩
  refine st (zl (k := 2) Tryd.isAgg25 Tryd.sizeOf25 rfl rfl (CellsAt.all (hS26.blk (i := 1) rfl)) ?_)
  refine stn (zy (v := .agg (d.cells vo v9).toArray) (c' := (d.cells vo v9).toArray) Tryd.sizeOf25 rfl rfl (hS26.blk (i := 3) rfl) (yj ⟨hr29.1.one, hr12.1.one, trivial⟩) (Nat.le_of_ble_eq_true rfl) rfl ?_)
  intro w31 hp32
  have hS33 := hS26.pt3 hp32
  refine zf ?_
  refine zu ?_
  refine XJ (b := b6) Tryd.results57 Tryd.isAgg25 Tryd.sizeOf25 rfl rfl (CellsAt.all (hS33.blk (i := 3) rfl)) ?_
  have hS34 : Sep G W ((RowE (α := Typ) own 33 vo d.types) :: (RowE (α := Prj) own 107 v9 d.projs) :: Rs) w31 := hS33.sel 5 [0, 2] (Nat.le_add_left _ _) rfl rfl
  refine ⟨vo, v9, rfl, hS34⟩
 ·skip
  have hc28 := of_decide_eq_true hc28
  refine zq rfl ?_
  refine zw ?_
  refine zd ?_
  refine zx ?_
  refine zd ?_
  refine za (by kernel_rfl) (fun _ => ?_)
  have hi35 : k < d.types.length := (by first | omega | (simp only [lens]; omega))
  refine st (zm (k := 1) (i := k) Tryd.underlying22 Tryd.sizeOf33 rfl hdd0.sl rfl hi35 ?_)
  have hi37 : k < d.types.length := (by first | omega | (simp only [lens]; omega))
  obtain ⟨hce36, hde36_0, hoke36⟩ := hdd0.typ hi37
  rw [← zk default hi37] at hce36 hde36_0 hoke36
  have hsm38 : ((d.types.getD k default).fields).length * 48 ≤ 140737488355328 := hde36_0.small
  have hcw39 := hS26.cells hce36 (hdd0.foot (ne_of_lt hi37))
  refine st (zl (k := 1) Tryd.isAgg33 Tryd.sizeOf33 rfl rfl hcw39 ?_)
  refine st (zE Tryd.zeroValue33 ?_)
  intro w42 b41 hn40
  have hS43 := hS26.new hn40
  refine stn (zy (v := .agg ((d.types.getD k default).cells (zi W (sb dd0) (so dd0 + k * 1 + 0))).toArray) (c' := ((d.types.getD k default).cells (zi W (sb dd0) (so dd0 + k * 1 + 0))).toArray) Tryd.sizeOf33 rfl rfl (hS43.blk (i := 0) rfl) (yj ⟨hde36_0.sl.one, trivial⟩) (Nat.le_of_ble_eq_true rfl) rfl ?_)
  intro w44 hp45
  have hS46 := hS43.pt0 hp45
  refine zf ?_
  refine zd ?_
  refine za (by kernel_rfl) (fun _ => ?_)
  refine st (yC rfl ?_)
  refine st (zg (v := (zi W (sb dd0) (so dd0 + k * 1 + 0))) Tryd.isAgg31 rfl (zh (hS46.blk (i := 0) rfl) rfl) ?_)
  refine st (zv (f := 88) (vals := [(zi W (sb dd0) (so dd0 + k * 1 + 0))]) (cap := []) rfl rfl Tryd.call88 (Wv (l := (d.types.getD k default).fields) (vl := (zi W (sb dd0) (so dd0 + k * 1 + 0))) hde36_0 hS46) ?_)
  rintro v47 w48 ⟨_, rfl, hS49⟩
  have hr50 := hS49.row (i := 0) rfl
  have hr50s : _ * 48 ≤ _ := hr50.2
  refine st (ze (v := v47) rfl ?_)
  refine zf ?_
  refine zd ?_
  refine zd ?_
  refine za (by kernel_rfl) (fun _ => ?_)
  refine st (zb (v := v47) rfl ?_)
  refine st (zJ (n := ((d.types.getD k default).fields).length) Tryd.underlying31 rfl hr50.1 ?_)
  refine st (zb (v := .int .i64 (0)) rfl ?_)
  refine zf ?_
  refine zx ?_
  have hS51 := hS49.toMix
  refine yn (fun mq σ wq => ∃ (q : Nat) (ρ : Env), mq = ((d.types.getD k default).fields).length - q ∧ σ = yp ρ [(1, .pointer (some ⟨b2, 0, none⟩)), (2, .pointer (some ⟨b6, 0, none⟩)), (3, .pointer (some ⟨b16, 0, none⟩)), (5, .pointer (some ⟨b41, 0, none⟩)), (6, v47), (13, dd0), (14, .int .i64 ((d.types.length : Nat) : Int)), (15, .int .i64 ((k : Nat) : Int)), (23, .int .i64 ((((d.types.getD k default).fields).length : Nat) : Int)), (24, .int .i64 ((q : Nat) : Int))] ∧ (q ≤ ((d.types.getD k default).fields).length) ∧ Sep G W ((RowE (α := Bool × Fld) (mix (α := Fld) G W) 79 v47 (xk q ((d.types.getD k default).fields))) :: (Blk b41 ((d.types.getD k default).cells (zi W (sb dd0) (so dd0 + k * 1 + 0))).toArray 33) :: (RowE (α := Typ) own 33 vo (d.types.take k)) :: (Blk b16 #[vo, v9] 25) :: (RowE (α := Prj) own 107 v9 d.projs) :: (Blk b6 #[(.slice none 0 0), (.slice none 0 0)] 25) :: (Blk b2 (d.cells dd0 dd1).toArray 25) :: Rs) wq) ⟨0, _, rfl, zp ⟨rfl, rfl, rfl, rfl, rfl, rfl, rfl, rfl, rfl, rfl, trivial⟩, Nat.zero_le _, hS51⟩ ?_
  rintro m53 σ54 w52 ⟨q, ρl2, rfl, rfl, hkq, hS55⟩
  have hr56 := hS55.row (i := 0) rfl
  rw [xb] at hr56
  refine zd ?_
  refine za (by kernel_rfl) (fun _ => ?_)
  refine st (zN (k := .i64) (a := ((q : Nat) : Int)) (b := ((((d.types.getD k default).fields).length : Nat) : Int)) rfl rfl ?_)
  refine zf ?_
  refine zd ?_
  cases hc57 : decide (((q : Nat) : Int) < ((((d.types.getD k default).fields).length : Nat) : Int))
  ·skip
   have hc57 := of_decide_eq_false hc57
   have hS58 : Sep G W ((RowE (α := Fld) own 79 v47 ((d.types.getD k default).fields)) :: (Blk b41 ((d.types.getD k default).cells (zi W (sb dd0) (so dd0 + k * 1 + 0))).toArray 33) :: (RowE (α := Typ) own 33 vo (d.types.take k)) :: (Blk b16 #[vo, v9] 25) :: (RowE (α := Prj) own 107 v9 d.projs) :: (Blk b6 #[(.slice none 0 0), (.slice none 0 0)] 25) :: (Blk b2 (d.cells dd0 dd1).toArray 25) :: Rs) w52 := hS55.ofMix (by omega)
   have hr59 := hS58.row (i := 0) rfl
   have hr59s : _ * 48 ≤ _ := hr59.2
   refine zo rfl ?_
   refine ym ?_
   refine yd ?_
   refine za (by kernel_rfl) (fun _ => ?_)
   refine st (yt rfl ?_)
   refine st (zg (v := vo) Tryd.isAgg22 rfl (zh (hS58.blk (i := 3) rfl) rfl) ?_)
   refine st (zb (v := v47) rfl ?_)
   have ok60 : Typ.Ok (d.types.getD k default) := ⟨⟩
   refine st (zS (parts' := [(0, v47)]) (v := .agg ((d.types.getD k default).cells v47).toArray) rfl (by obtain ⟨_, _, hv61, _⟩ := hr59.1; rw [show v47 = Value.slice _ _ _ from hv61]; simp [Instr.build, Instr.fill, Ev.cells, go_sem, Mv.cells, Fld.cells, Typ.cells, Prj.cells, Dcl.cells, Cel.cells, AskR.cells, Ask.cells, CelS.cells, Ev.cells, Ent.cells, Sta.cells]) ?_)
   refine st (zB (k := 1) (parts' := [(0, .agg ((d.types.getD k default).cells v47).toArray)]) (c := ((d.types.getD k default).cells v47).toArray) Tryd.underlying22 Tryd.sizeOf33 Tryd.zeroValue33 (by decide) rfl (by kernel_rfl) ?_)
   intro w64 b63 hn62
   have hS65 := hS58.new hn62
   have hbk69 := hS65.blk (i := 0) rfl
   have hS70 : Sep G W ((RowE (α := Typ) own 33 vo (d.types.take k)) :: (RowE (α := Fld) own 79 v47 ((d.types.getD k default).fields)) :: (Blk b41 ((d.types.getD k default).cells (zi W (sb dd0) (so dd0 + k * 1 + 0))).toArray 33) :: (Blk b16 #[vo, v9] 25) :: (RowE (α := Prj) own 107 v9 d.projs) :: (Blk b6 #[(.slice none 0 0), (.slice none 0 0)] 25) :: (Blk b2 (d.cells dd0 dd1).toArray 25) :: Rs) w64 := hS65.sel 8 [3, 1, 2, 4, 5, 6, 7] (Nat.le_add_left _ _) rfl rfl
   refine st (yG (src := own) (bytes := 24) (x1 := (d.types.getD k default)) hS70 el22 rfl rfl hbk69 (fun _ _ hN => ⟨_, rfl, RowE.soft hN, ok60⟩) (by first | omega | (simp only [List.length_append, List.length_cons, List.length_nil, List.length_take, List.length_drop]; omega)) rfl ?_)
   intro v67 w66 hS68
   have hr71 := hS68.row (i := 0) rfl
   have hr71s : _ * 24 ≤ _ := hr71.2
   refine st (yt rfl ?_)
   refine stn (yK (v := v67) (c := [vo, v9]) (c' := [v67, v9]) Tryd.sizeOf22 rfl rfl (hS68.blk (i := 2) rfl) hr71.1.one rfl rfl ?_)
   intro w72 hp73
   have ok74 : Dcl.Ok (⟨(d.types.take k) ++ [(d.types.getD k default)], d.projs⟩ : Dcl) := ⟨⟩
   have hS75 := hS68.pt2 hp73
   refine zf ?_
   refine za (by kernel_rfl) (fun _ => ?_)
   have hr76 : InR ((k + 1 : Nat) : Int) := by first | omega | (simp only [lens]; omega)
   refine st (ye (r := ((k + 1 : Nat) : Int)) (k := .i64) (a := ((k : Nat) : Int)) (b := 1) rfl rfl (by rw [show (((k : Nat) : Int) + 1 : Int) = ((k + 1 : Nat) : Int) by first | omega | (simp only [lens]; omega)]; exact zQ hr76) ?_)
   refine st (zb (v := .int .i64 ((k + 1 : Nat) : Int)) rfl ?_)
   refine zf ?_
   have hS77 : Sep G W ((RowE (α := Typ) own 33 v67 ((d.types.take k) ++ [(d.types.getD k default)])) :: (Blk b16 ((⟨(d.types.take k) ++ [(d.types.getD k default)], d.projs⟩ : Dcl).cells v67 v9).toArray 25) :: (RowE (α := Prj) own 107 v9 d.projs) :: (Blk b6 #[(.slice none 0 0), (.slice none 0 0)] 25) :: (Blk b2 (d.cells dd0 dd1).toArray 25) :: Rs) w72 := hS75.sel 6 [0, 2, 3, 4, 5] (Nat.le_add_left _ _) rfl rfl
   have hL78 : (d.types.take (k + 1)) = (d.types.take k) ++ [(d.types.getD k default)] := (List.take_getD (by omega))
   rw [← hL78] at hS77
   exact ⟨_, by omega, k + 1, v67, _, rfl, zp ⟨rfl, rfl, rfl, rfl, rfl, rfl, trivial⟩, by omega, hS77⟩
  ·skip
   have hc57 := of_decide_eq_true hc57
   refine zq rfl ?_
   refine zw ?_
   refine zd ?_
   refine zx ?_
   refine zd ?_
   refine za (by kernel_rfl) (fun _ => ?_)
   refine st (zb (v := .int .i64 ((q : Nat) : Int)) rfl ?_)
   refine st (ze (v := .int .i64 ((q : Nat) : Int)) rfl ?_)
   refine zf ?_
   refine za (by kernel_rfl) (fun _ => ?_)
   refine st (zb (v := v47) rfl ?_)
   refine st (zb (v := .int .i64 ((q : Nat) : Int)) rfl ?_)
   refine st (zb (v := v47) rfl ?_)
   refine st (zb (v := .int .i64 ((q : Nat) : Int)) rfl ?_)
   have hi79 : q < ((d.types.getD k default).fields).length := (by first | omega | (simp only [lens]; omega))
   refine st (zm (k := 4) (i := q) Tryd.underlying31 Tryd.sizeOf79 rfl hr56.1 rfl hi79 ?_)
   refine st (yE rfl ?_)
   have hi81 : q < ((d.types.getD k default).fields).length := (by first | omega | (simp only [lens]; omega))
   obtain ⟨_, hce80, de80_0, rfl, hde80_0, hoke80⟩ := hS55.mixAt (i := 0) (j := q) rfl (Nat.le_refl _) hi81
   rw [← zk default hi81] at hce80 hde80_0 hoke80
   refine st (zg (v := de80_0) Tryd.isAgg77 rfl (hce80.get (j := 3) rfl) ?_)
   refine st (zv (f := 67) (vals := [de80_0]) (cap := []) rfl rfl Tryd.call67 (YS (l := (((d.types.getD k default).fields).getD q default).moves) (vl := de80_0) hde80_0 hS55) ?_)
   rintro v82 w83 ⟨_, rfl, hS84⟩
   have hr85 := hS84.row (i := 0) rfl
   have hr85s : _ * 32 ≤ _ := hr85.2
   have hi86 : q < ((d.types.getD k default).fields).length := (by first | omega | (simp only [lens]; omega))
   refine st (zm (k := 4) (i := q) Tryd.underlying31 Tryd.sizeOf79 rfl hr56.1 rfl hi86 ?_)
   refine st (yE rfl ?_)
   have hS88 := hS84.mv1
   have hi90 : q < ((d.types.getD k default).fields).length := (by first | omega | (simp only [lens]; omega))
   refine stn (ZH (α := Fld) (j := q) (o := 3) (u := v82) (us := [v82]) hS88 Tryd.sizeOf77 hi90 rfl rfl (congrArg Array.toList (yL hr85.1.one)) (Nat.le_of_ble_eq_true rfl) (yj ⟨hr85.1.one, trivial⟩) (fun w f cs0 hr hN => (by obtain ⟨d, rfl, hd, hok⟩ := hr; exact ⟨_, rfl, (by rw [← zk default hi90]; exact RowE.soft hN), hok⟩)) ?_)
   intro w87 hS91
   refine zf ?_
   refine za (by kernel_rfl) (fun _ => ?_)
   have hr92 : InR ((q + 1 : Nat) : Int) := by first | omega | (simp only [lens]; omega)
   refine st (ye (r := ((q + 1 : Nat) : Int)) (k := .i64) (a := ((q : Nat) : Int)) (b := 1) rfl rfl (by rw [show (((q : Nat) : Int) + 1 : Int) = ((q + 1 : Nat) : Int) by first | omega | (simp only [lens]; omega)]; exact zQ hr92) ?_)
   refine st (zb (v := .int .i64 ((q + 1 : Nat) : Int)) rfl ?_)
   refine zf ?_
   exact ⟨_, by omega, q + 1, _, rfl, zp ⟨rfl, rfl, rfl, rfl, rfl, rfl, rfl, rfl, rfl, rfl, trivial⟩, by omega, hS91⟩

theorem Qv {G : Nat → Prop} {W w : World} {Rs : List HP} {d : Dcl} {dd0 : Value} (hdd0 : RdS W G dd0 d.types) {dd1 : Value} (hdd1 : RdS W G dd1 d.projs) (od : d.Ok) (hS0 : Sep G W Rs w) : Ret Tryd.prog 24 [.agg (d.cells dd0 dd1).toArray] w (fun r w' => ∃ (b : Nat), r = (.pointer (some ⟨b, 0, none⟩) : Value) ∧ Sep G W ((ViewO b d [] []) :: Rs) w') := by
 have hdd0s : _ * 24 ≤ _ := hdd0.small
 have hdd1s : _ * 40 ≤ _ := hdd1.small
 refine zr (args := [.agg (d.cells dd0 dd1).toArray]) Tryd.func24 rfl rfl ?_
 refine zd ?_
 refine za (by kernel_rfl) (fun _ => ?_)
 refine st (yb (v := .agg (d.cells dd0 dd1).toArray) rfl ?_)
 intro w3 b2 hn1
 have hS4 := hS0.new hn1
 refine st (ze (v := .pointer none) rfl ?_)
 refine zf ?_
 refine zd ?_
 refine za (by kernel_rfl) (fun _ => ?_)
 refine st (zl (k := 2) Tryd.isAgg25 Tryd.sizeOf25 rfl rfl (CellsAt.all (hS4.blk (i := 0) rfl)) ?_)
 refine st (zv (f := 57) (vals := [.agg (d.cells dd0 dd1).toArray]) (cap := []) rfl rfl Tryd.call57 (WD (d := d) hdd0 hdd1 od hS4) ?_)
 rintro _ w7 ⟨v15, v26, rfl, hS8⟩
 have hr9 := hS8.row (i := 0) rfl
 have hr9s : _ * 24 ≤ _ := hr9.2
 have hr10 := hS8.row (i := 1) rfl
 have hr10s : _ * 40 ≤ _ := hr10.2
 refine st (Zj ?_)
 intro w12 hn11
 obtain ⟨m13, m13e⟩ : ∃ z, z = w7.heap.size := ⟨_, rfl⟩; rw [← m13e]
 have hS14 : Sep G W ((zF yi E1 m13 (fun _ => none)) :: (RowE (α := Typ) own 33 v15 d.types) :: (RowE (α := Prj) own 107 v26 d.projs) :: (Blk b2 (d.cells dd0 dd1).toArray 25) :: Rs) w12 := (by rw [m13e]; exact hS8.mapoNew hn11)
 refine st (Zj ?_)
 intro w16 hn15
 obtain ⟨m17, m17e⟩ : ∃ z, z = w12.heap.size := ⟨_, rfl⟩; rw [← m17e]
 have hS18 : Sep G W ((zF yr E2 m17 (fun _ => none)) :: (zF yi E1 m13 (fun _ => none)) :: (RowE (α := Typ) own 33 v15 d.types) :: (RowE (α := Prj) own 107 v26 d.projs) :: (Blk b2 (d.cells dd0 dd1).toArray 25) :: Rs) w16 := (by rw [m17e]; exact hS14.mapoNew hn15)
 refine st (zS (parts' := [(0, .agg (d.cells v15 v26).toArray), (2, .map (some m13)), (3, .map (some m17))]) (v := .agg #[v15, v26, (.slice none 0 0), .map (some m13), .map (some m17)]) rfl (by simp [Instr.build, Instr.fill, go_sem, Dcl.cells]) ?_)
 refine st (yb (v := .agg #[v15, v26, (.slice none 0 0), .map (some m13), .map (some m17)]) rfl ?_)
 intro w21 b20 hn19
 have hS22 := hS18.new hn19
 refine st (ze (v := .pointer (some ⟨b20, 0, none⟩)) rfl ?_)
 refine zf ?_
 refine zu ?_
 refine ya Tryd.results24 (show _ = (.pointer (some ⟨b20, 0, none⟩) : Value) from rfl) ?_
 have hS23 : Sep G W ((RowE (α := Ent) own 62 (.slice none 0 0) ([] : List Ent)) :: (Blk b20 #[v15, v26, (.slice none 0 0), .map (some m13), .map (some m17)] 111) :: (zF yr E2 m17 (fun _ => none)) :: (zF yi E1 m13 (fun _ => none)) :: (RowE (α := Typ) own 33 v15 d.types) :: (RowE (α := Prj) own 107 v26 d.projs) :: (Blk b2 (d.cells dd0 dd1).toArray 25) :: Rs) w21 := hS22.rowNil own 62
 have hS24 : Sep G W ((Blk b20 #[v15, v26, (.slice none 0 0), .map (some m13), .map (some m17)] 111) :: (RowE (α := Typ) own 33 v15 d.types) :: (RowE (α := Prj) own 107 v26 d.projs) :: (RowE (α := Ent) own 62 (.slice none 0 0) ([] : List Ent)) :: (zF yi E1 m13 (fun _ => none)) :: (zF yr E2 m17 (fun _ => none)) :: (Blk b2 (d.cells dd0 dd1).toArray 25) :: Rs) w21 := hS23.sel 7 [1, 4, 5, 0, 3, 2, 6] (Nat.le_add_left _ _) rfl rfl
 have hS25 : Sep G W ((ViewO b20 d [] []) :: (Blk b2 (d.cells dd0 dd1).toArray 25) :: Rs) w21 := ViewO.close (d := d) (L := []) (M := []) hS24
 have hS26 : Sep G W ((ViewO b20 d [] []) :: Rs) w21 := hS25.sel 2 [0] (Nat.le_add_left _ _) rfl rfl
 refine ⟨b20, rfl, hS26⟩

end Go.Proofs.YtlblilbmpdejgaaDoor
/- Steps of the proofs of this seat: part F4. -/
set_option maxRecDepth 8000
set_option maxHeartbeats 4000000
namespace Go.Proofs.YtlblilbmpdejgaaDoor
open Go.Proofs Go.RowKit

theorem Uy {P : Program} {n : Nat} {c : Code} {Q : ZQ} {σ : Env} {w : World} (J : Env → World → Prop) (h : WP P n c (fun e σ w => e = .normal ∧ J σ w) σ w) (hq : ∀ σ w, J σ w → Q .normal σ w) : WP P n c Q σ w := fun a hs =>
  wp_mono (h a hs) (by rintro e a' w' ⟨σ'', hs'', rfl, hj⟩; exact ⟨σ'', hs'', hq _ _ hj⟩)
abbrev RwV (v : Value) (l : List Ev) : HP := RowE (α := Ev) own 59 v l
abbrev RwN (v : Value) (l : List Ent) : HP := RowE (α := Ent) own 62 v l
abbrev RwT (v : Value) (l : List Typ) : HP := RowE (α := Typ) own 33 v l
abbrev RwP (v : Value) (l : List Prj) : HP := RowE (α := Prj) own 107 v l
abbrev RwI (v : Value) (l : List Int) : HP := RowE (α := Int) own 3 v l
abbrev RwC (v : Value) (l : List Cel) : HP := RowE (α := Cel) own 42 v l
abbrev RwF (v : Value) (l : List Fld) : HP := RowE (α := Fld) own 79 v l
abbrev Ms1 (m : Nat) (d : Dcl) (M : List Ent) (k : Int × Int) (vc : Value) : HP := xz yi E1 YX m (zj d M) k (.agg #[.int .i64 ((zX k M : Nat) : Int), vc])
abbrev Md1 (m : Nat) (M : List Ent) (e : Ev) (v : Value) : HP := xz yr E2 (.slice none 0 0) m (zI M) (e.typ, e.agg, e.field) v
abbrev BkP (b : Nat) (e : Ev) : HP := Blk b #[.int .i64 e.typ, .int .i64 e.agg, .int .i64 e.field] 133
abbrev BkT (b : Nat) (d : Dcl) (e : Ev) (W : World) (v : Value) : HP := Blk b ((d.types.getD e.typ.toNat default).cells (zi W (sb v) (so v + e.typ.toNat * 1 + 0))).toArray 33
abbrev BkV (b : Nat) (vt vp ve : Value) (m4 m5 : Nat) : HP := Blk b #[vt, vp, ve, .map (some m4), .map (some m5)] 111
abbrev BkS (b : Nat) (M : List Ent) (k : Int × Int) (v : Value) : HP := Blk b #[.int .i64 ((zX k M : Nat) : Int), v] 68
abbrev clL (d : Dcl) (M : List Ent) (e : Ev) : List Cel := yx d (e.typ, e.agg) M
theorem Xo {P : Program} {σ : Env} {w : World} {fn : Func} {a u : Tmp} {t : TypeId} {R : Value → World → Prop} {b k : Nat} {cs : List Value} {v' : Value} (hr : fn.results = #[.tmp u, .cell a t]) (hA : ∀ w, (isAgg t).run P w = .ok true w) (hS : ∀ w, (sizeOf t).run P w = .ok k w) (hk : cs.length = k)
    (hv : σ a = .pointer (some ⟨b, 0, none⟩)) (hc : CellsAt w b 0 cs) (hu : σ u = v') (h : R (.tuple #[v', .agg cs.toArray]) w) : Yh P fn R .ret σ w := by
  subst hk
  refine ⟨_, fun tmps ht => ?_, h⟩
  have := yH (P := P) (w := w) b 0 cs 0 #[] (fun j hj => by simpa using hc j hj)
  have e : tmps[a]?.getD undef = .pointer (some ⟨b, 0, none⟩) := by rw [← hv, ← ht a]; simp
  have e2 : tmps[u]?.getD undef = v' := by rw [← hu, ← ht u]; simp
  simp [results, hr, e, e2, asAddr, loadVar, hA, hS, loadCells, this, go_sem]
theorem WY {p : Ev → Bool} : ∀ {l : List Ev} {k : Nat}, k < l.length → (∀ i, i < k → p (l.getD i default) = false) → p (l.getD k default) = true → l.find? p = some (l.getD k default)
  | [], k, hk, _, _ => absurd hk (Nat.not_lt_zero k)
  | x :: l, 0, _, _, h1 => by have h1 : p x = true := h1; rw [List.find?_cons, h1]; rfl
  | x :: l, k + 1, hk, h0, h1 => by
    have hx : p x = false := h0 0 (Nat.succ_pos _)
    rw [List.find?_cons, hx]
    exact WY (by simpa using hk) (fun i hi => h0 (i + 1) (by omega)) h1
theorem UE {p : Ev → Bool} {l : List Ev} (h : ∀ i, i < l.length → p (l.getD i default) = false) : l.find? p = none := by
  rw [List.find?_eq_none]
  intro x hx
  obtain ⟨i, hi, rfl⟩ := List.getElem_of_mem hx
  have := h i hi
  rw [zk _ hi] at this
  rw [this]; decide
theorem VU (k : Int × Int × Int) (L : List Ent) : (zz k L).length ≤ L.length := by unfold zz; rw [List.length_map]; exact List.length_filter_le _ _
section
variable {d : Dcl} {M : List Ent} {e : Ev}
theorem WA (h : ¬ yO d e.typ e.field e.op e.arg = 0) : zT d M e = (true, 0, 0) := by unfold zT; rw [if_pos h]
theorem Qg {k : Nat} (h : yO d e.typ e.field e.op e.arg = 0) (hk : k < (zz (e.typ, e.agg, e.field) M).length) (h0 : ∀ i, i < k → yF ((d.types.getD e.typ.toNat default).fields.getD e.field.toNat default) ((zz (e.typ, e.agg, e.field) M).getD i default) e = false)
    (h1 : yF ((d.types.getD e.typ.toNat default).fields.getD e.field.toNat default) ((zz (e.typ, e.agg, e.field) M).getD k default) e = true) : zT d M e = (true, ((zz (e.typ, e.agg, e.field) M).getD k default).origin, ((zz (e.typ, e.agg, e.field) M).getD k default).seq) := by
  unfold zT xu
  rw [if_neg (by simpa using h), WY (p := fun x => yF ((d.types.getD e.typ.toNat default).fields.getD e.field.toNat default) x e) hk h0 h1]
theorem VZ (h : yO d e.typ e.field e.op e.arg = 0) (h0 : ∀ i, i < (zz (e.typ, e.agg, e.field) M).length → yF ((d.types.getD e.typ.toNat default).fields.getD e.field.toNat default) ((zz (e.typ, e.agg, e.field) M).getD i default) e = false) :
    zT d M e = if ¬ Zo (d.types.getD e.typ.toNat default) (yx d (e.typ, e.agg) M) e.field e.op e.arg = 0 then (true, 0, 0) else (false, 0, 0) := by
  unfold zT xu
  rw [if_neg (by simpa using h), UE (p := fun x => yF ((d.types.getD e.typ.toNat default).fields.getD e.field.toNat default) x e) h0]
end
theorem XO {G : Nat → Prop} {W w : World} {As : List HP} {d : Dcl} {M : List Ent} {v2 vc : Value} {k : Int × Int} (h : Sep G W (RowE (α := Cel) own 42 v2 (yx d k M) :: As) w) (hv : v2 = vc ∨ zX k M = 0) : Sep G W (ZG E1 (.agg #[.int .i64 ((zX k M : Nat) : Int), vc]) (zj d M k) :: As) w := by
  refine h.impl (i := 0) rfl (fun f hA => ?_)
  unfold zj
  by_cases he : zX k M = 0
  · rw [if_pos he]; exact trivial
  · rw [if_neg he]
    obtain rfl := hv.resolve_right he
    exact ⟨v2, rfl, hA⟩
theorem VV {d : Dcl} {M : List Ent} {k : Int × Int} (h : (zj d M k).isSome = false) : zX k M = 0 := by
  unfold zj at h
  by_cases h8 : zX k M = 0
  · exact h8
  · rw [if_neg h8] at h; cases h
theorem VI {d : Dcl} {M : List Ent} {k : Int × Int} (h : (zj d M k).isSome = true) : ¬ zX k M = 0 := by
  intro h8
  unfold zj at h
  rw [if_pos h8] at h; cases h
theorem QG {t : Typ} {c : List Cel} {f : Int} (h : Right t c) (h0 : 0 ≤ f) (h1 : f < t.fields.length) : (yc c f).set.length ≤ 1000 := by
  have := h.most f.toNat (by have := h.len; omega)
  exact Nat.le_trans this (by omega)
theorem WO {d : Option Tmp} {ty : TypeId} {pos : String} {af : Array Edge} {g : Option (Nat × Bool)} {σ : Env} {w : World} {K : Value → World → Prop} {x : Operand} {b o : Nat} (hx : ev σ x = .pointer (some ⟨b, o, none⟩)) (h : K (.pointer (some ⟨b, o + 0, none⟩)) w) : opV Tryd.prog ⟨d, .fieldAddr 111 x 0, ty, pos, af, g⟩ σ w K := zt Tryd.underlying111 rfl rfl (fun w => ⟨1, Tryd.sizeOf25 w⟩) hx h
theorem Yl {d : Option Tmp} {ty : TypeId} {pos : String} {af : Array Edge} {g : Option (Nat × Bool)} {σ : Env} {w : World} {K : Value → World → Prop} {x : Operand} {b o : Nat} (hx : ev σ x = .pointer (some ⟨b, o, none⟩)) (h : K (.pointer (some ⟨b, o + 4, none⟩)) w) : opV Tryd.prog ⟨d, .fieldAddr 59 x 3, ty, pos, af, g⟩ σ w K := zt Tryd.underlying59 rfl rfl (fun w => ⟨0, Tryd.sizeOf3 w⟩) hx h
theorem Zi {d : Option Tmp} {ty : TypeId} {pos : String} {af : Array Edge} {g : Option (Nat × Bool)} {σ : Env} {w : World} {K : Value → World → Prop} {x : Operand} {b o : Nat} (hx : ev σ x = .pointer (some ⟨b, o, none⟩)) (h : K (.pointer (some ⟨b, o + 6, none⟩)) w) : opV Tryd.prog ⟨d, .fieldAddr 59 x 5, ty, pos, af, g⟩ σ w K := zt Tryd.underlying59 rfl rfl (fun w => ⟨0, Tryd.sizeOf3 w⟩) hx h
theorem Ub {d : Option Tmp} {ty : TypeId} {pos : String} {af : Array Edge} {g : Option (Nat × Bool)} {σ : Env} {w : World} {K : Value → World → Prop} {x : Operand} {b o : Nat} (hx : ev σ x = .pointer (some ⟨b, o, none⟩)) (h : K (.pointer (some ⟨b, o + 5, none⟩)) w) : opV Tryd.prog ⟨d, .fieldAddr 59 x 4, ty, pos, af, g⟩ σ w K := zt Tryd.underlying59 rfl rfl (fun w => ⟨0, Tryd.sizeOf3 w⟩) hx h
theorem WI {d : Option Tmp} {ty : TypeId} {pos : String} {af : Array Edge} {g : Option (Nat × Bool)} {σ : Env} {w : World} {K : Value → World → Prop} {x : Operand} {b o : Nat} (hx : ev σ x = .pointer (some ⟨b, o, none⟩)) (h : K (.pointer (some ⟨b, o + 4, none⟩)) w) : opV Tryd.prog ⟨d, .fieldAddr 111 x 3, ty, pos, af, g⟩ σ w K := zt Tryd.underlying111 rfl rfl (fun w => ⟨0, Tryd.sizeOf109 w⟩) hx h
theorem Xv {d : Option Tmp} {ty : TypeId} {pos : String} {af : Array Edge} {g : Option (Nat × Bool)} {σ : Env} {w : World} {K : Value → World → Prop} {x : Operand} {b o : Nat} (hx : ev σ x = .pointer (some ⟨b, o, none⟩)) (h : K (.pointer (some ⟨b, o + 3, none⟩)) w) : opV Tryd.prog ⟨d, .fieldAddr 111 x 2, ty, pos, af, g⟩ σ w K := zt Tryd.underlying111 rfl rfl (fun w => ⟨0, Tryd.sizeOf108 w⟩) hx h
theorem WK {d : Option Tmp} {ty : TypeId} {pos : String} {af : Array Edge} {g : Option (Nat × Bool)} {σ : Env} {w : World} {K : Value → World → Prop} {x : Operand} {b o : Nat} (hx : ev σ x = .pointer (some ⟨b, o, none⟩)) (h : K (.pointer (some ⟨b, o + 0, none⟩)) w) : opV Tryd.prog ⟨d, .fieldAddr 133 x 0, ty, pos, af, g⟩ σ w K := zt Tryd.underlying133 rfl rfl (fun w => ⟨1, Tryd.sizeOf120 w⟩) hx h
theorem VE {d : Option Tmp} {ty : TypeId} {pos : String} {af : Array Edge} {g : Option (Nat × Bool)} {σ : Env} {w : World} {K : Value → World → Prop} {x : Operand} {b o : Nat} (hx : ev σ x = .pointer (some ⟨b, o, none⟩)) (h : K (.pointer (some ⟨b, o + 0, none⟩)) w) : opV Tryd.prog ⟨d, .fieldAddr 68 x 0, ty, pos, af, g⟩ σ w K := zt Tryd.underlying68 rfl rfl (fun w => ⟨0, Tryd.sizeOf3 w⟩) hx h
theorem el47 : Elem Tryd.prog 47 59 10 96 := ⟨Tryd.underlying47, _, _, rfl, rfl, rfl, rfl, rfl⟩
set_option maxHeartbeats 8000000 in
theorem D_try {G : Nat → Prop} {W w : World} {Rs : List HP} {b : Nat} {d : Dcl} {L : List Ent} {M : List Ent} {e : Ev} {ve0 : Value} (oe : e.Ok) (hKN : RdS W G (.slice (some ⟨0, 0, none⟩) 6 6) kindsL) (hS0 : Sep G W ((ViewO b d L M) :: (RowE (α := Int) own 3 ve0 e.deps) :: Rs) w) (hd : DclOk d) (hinv : Inv d M) (hml : M.length ≤ 1000000) : Ret Tryd.prog 59 [.pointer (some ⟨b, 0, none⟩), .agg (e.cells ve0).toArray] w (fun r w' => r = (.tuple #[.bool ((zT d M e).1), .agg #[.int .i64 ((zT d M e).2.1), .int .i64 ((zT d M e).2.2)]] : Value) ∧ (InR (zT d M e).2.1 ∧ InR (zT d M e).2.2) ∧ Sep G W ((ViewO b d L (M ++ [zR d M e])) :: Rs) w') := by
 have hKNs : _ * 8 ≤ _ := hKN.small
 refine zr (args := [.pointer (some ⟨b, 0, none⟩), .agg (e.cells ve0).toArray]) Tryd.func59 rfl rfl ?_
 obtain ⟨vt1, vp2, ve3, m4, m5, hS6⟩ := ViewO.open hS0
 have hS6t : Sep G W ((BkV b vt1 vp2 ve3 m4 m5) :: (RwT vt1 d.types) :: (RwP vp2 d.projs) :: (RwN ve3 L) :: (zF yi E1 m4 (zj d M)) :: (zF yr E2 m5 (zI M)) :: (RwI ve0 e.deps) :: Rs) w := hS6
 have hr7 := hS6t.row (i := 1) rfl
 have hr7s : _ * 24 ≤ _ := hr7.2
 have hr8 := hS6t.row (i := 2) rfl
 have hr8s : _ * 40 ≤ _ := hr8.2
 have hr9 := hS6t.row (i := 3) rfl
 have hr9s : _ * 120 ≤ _ := hr9.2
 have hr10 := hS6t.row (i := 6) rfl
 have hr10s : _ * 8 ≤ _ := hr10.2
 refine zd ?_
 refine za (by kernel_rfl) (fun _ => ?_)
 refine st (yb (v := .agg (e.cells ve0).toArray) rfl ?_)
 intro w13 b12 hn11
 have hS14 := hS6t.new hn11
 refine st (ze (v := .bool false) rfl ?_)
 refine st (zE Tryd.zeroValue57 ?_)
 intro w17 b16 hn15
 have hS18 := hS14.new hn15
 refine zf ?_
 refine zd ?_
 refine zd ?_
 refine zP ((fun TT pp0 pp1 pp2 => WF [fun vals wq => Sep G W (pp0 :: pp1 :: pp2 :: (RwT vt1 d.types) :: (RwP vp2 d.projs) :: TT) wq, fun vals wq => (vals 12 = (.int .i64 (yO d e.typ e.field e.op e.arg) : Value)) ∧ Sep G W ((RwT vt1 d.types) :: (RwP vp2 d.projs) :: pp0 :: pp1 :: pp2 :: TT) wq]) ((RwN ve3 L) :: (zF yi E1 m4 (zj d M)) :: (zF yr E2 m5 (zI M)) :: (RwI ve0 e.deps) :: Rs) (Blk b16 #[.int .i64 (0), .int .i64 (0)] 57) (Blk b12 (e.cells ve0).toArray 59) (BkV b vt1 vp2 ve3 m4 m5)) (AF [Vl 0 (.pointer (some ⟨b, 0, none⟩)), Vl 1 (.pointer (some ⟨b, 0, none⟩)), Vl 2 (.pointer (some ⟨b, 0, none⟩)), Vl 3 (.agg (d.cells vt1 vp2).toArray), Vl 4 (.pointer (some ⟨b12, 4, none⟩)), Vl 5 (.int .i64 (e.typ)), Vl 6 (.pointer (some ⟨b12, 6, none⟩)), Vl 7 (.int .i64 (e.field)), Vl 8 (.pointer (some ⟨b12, 7, none⟩)), Vl 9 (.int .i64 (e.op)), Vl 10 (.pointer (some ⟨b12, 8, none⟩)), Vl 11 (.int .i64 (e.arg)), fun _ => True, Vl 13 (.bool (!decide ((yO d e.typ e.field e.op e.arg) = 0)))]) [[], [0], [0, 1], [0, 1, 2], [], [4], [], [6], [], [8], [], [10], [0, 1, 2, 3, 4, 5, 6, 7, 8, 9, 10, 11], [0, 1, 2, 3, 4, 5, 6, 7, 8, 9, 10, 11, 12]] [12] [(0, 0), (0, 0), (0, 0), (0, 0), (0, 0), (0, 0), (0, 0), (0, 0), (0, 0), (0, 0), (0, 0), (0, 0), (0, 0), (1, 1)] (by kernel_rfl) (by kernel_rfl) (by kernel_rfl) rfl (by kernel_rfl) (by kernel_rfl) (fun _ h1 h2 h3 h4 _ => hS18.same h1 h2 h3 h4) ?_ (yg ⟨dA, dA, dA, dA, dA, dA, dA, dA, dA, dA, dA, dA, dT, dA, trivial⟩) ⟨?_, ?_, ?_, ?_, ?_, ?_, ?_, ?_, ?_, ?_, ?_, ?_, ?_, ?_, trivial⟩ ?_
 ·intro k vals vals' w hv h
  have e : ∀ j ∈ ([12] : List Nat), vals' j = vals j := hv
  match k, h with
  | 0, h => exact h
  | 1, h => exact (by simpa only [WF, List.getElem?_cons_zero, List.getElem?_cons_succ, e 12 (by decide)] using h)
  | _ + 2, _ => trivial
 ·intro k144 vals w145 h148 h149 hW147 hA146
  refine obl rfl ?_
  exact zb (v := .pointer (some ⟨b, 0, none⟩)) rfl (fun vals' hv _ => ⟨rfl, hv⟩)
 ·intro k150 vals w151 h154 h155 hW153 hA152
  have e156 := hA152 0 (by decide)
  refine obl rfl ?_
  exact zL (b := b) (o := 0) e156 (fun vals' hv _ => ⟨rfl, hv⟩)
 ·intro k157 vals w158 h161 h162 hW160 hA159
  have e163 := hA159 1 (by decide)
  refine obl rfl ?_
  exact WO e163 (fun vals' hv _ => ⟨rfl, hv⟩)
 ·intro k164 vals w165 h168 h169 hW167 hA166
  obtain rfl : k164 = 0 := Nat.le_antisymm h169 h168
  have hS170 : Sep _ _ _ _ := hW167
  have e171 := hA166 2 (by decide)
  refine obl rfl ?_
  have ok172 : Dcl.Ok d := ⟨⟩
  exact zl (k := 2) (cs := [vt1, vp2]) Tryd.isAgg25 Tryd.sizeOf25 rfl e171 (CellsAt.sub (CellsAt.all (hS170.blk (i := 2) rfl)) 0 (cs2 := [vt1, vp2]) rfl) (fun vals' hv _ => ⟨rfl, hv⟩)
 ·intro k173 vals w174 h177 h178 hW176 hA175
  refine obl rfl ?_
  exact Yl rfl (fun vals' hv _ => ⟨rfl, hv⟩)
 ·intro k179 vals w180 h183 h184 hW182 hA181
  obtain rfl : k179 = 0 := Nat.le_antisymm h184 h183
  have hS185 : Sep _ _ _ _ := hW182
  have e186 := hA181 4 (by decide)
  refine obl rfl ?_
  exact zg (v := .int .i64 (e.typ)) Tryd.isAgg3 e186 (zh (hS185.blk (i := 1) rfl) rfl) (fun vals' hv _ => ⟨rfl, hv⟩)
 ·intro k187 vals w188 h191 h192 hW190 hA189
  refine obl rfl ?_
  exact Zi rfl (fun vals' hv _ => ⟨rfl, hv⟩)
 ·intro k193 vals w194 h197 h198 hW196 hA195
  obtain rfl : k193 = 0 := Nat.le_antisymm h198 h197
  have hS199 : Sep _ _ _ _ := hW196
  have e200 := hA195 6 (by decide)
  refine obl rfl ?_
  exact zg (v := .int .i64 (e.field)) Tryd.isAgg3 e200 (zh (hS199.blk (i := 1) rfl) rfl) (fun vals' hv _ => ⟨rfl, hv⟩)
 ·intro k201 vals w202 h205 h206 hW204 hA203
  refine obl rfl ?_
  exact Zk rfl (fun vals' hv _ => ⟨rfl, hv⟩)
 ·intro k207 vals w208 h211 h212 hW210 hA209
  obtain rfl : k207 = 0 := Nat.le_antisymm h212 h211
  have hS213 : Sep _ _ _ _ := hW210
  have e214 := hA209 8 (by decide)
  refine obl rfl ?_
  exact zg (v := .int .i64 (e.op)) Tryd.isAgg3 e214 (zh (hS213.blk (i := 1) rfl) rfl) (fun vals' hv _ => ⟨rfl, hv⟩)
 ·intro k215 vals w216 h219 h220 hW218 hA217
  refine obl rfl ?_
  exact Zl rfl (fun vals' hv _ => ⟨rfl, hv⟩)
 ·intro k221 vals w222 h225 h226 hW224 hA223
  obtain rfl : k221 = 0 := Nat.le_antisymm h226 h225
  have hS227 : Sep _ _ _ _ := hW224
  have e228 := hA223 10 (by decide)
  refine obl rfl ?_
  exact zg (v := .int .i64 (e.arg)) Tryd.isAgg3 e228 (zh (hS227.blk (i := 1) rfl) rfl) (fun vals' hv _ => ⟨rfl, hv⟩)
 ·intro k104 vals w105 h108 h109 hW107 hA106
  obtain rfl : k104 = 0 := Nat.le_antisymm h109 h108
  have hS110 : Sep _ _ _ _ := hW107
  have e111 := hA106 3 (by decide)
  have e112 := hA106 5 (by decide)
  have e113 := hA106 7 (by decide)
  have e114 := hA106 9 (by decide)
  have e115 := hA106 11 (by decide)
  refine obl rfl ?_
  have hS116 := hS110.mv3
  obtain ⟨G117, hA119, hB120, hS121, hk122⟩ := hS116.lend
  have hrd123 := RowE.rd hA119
  have hrd123s : _ * 24 ≤ _ := hrd123.small
  have hS124 := hS121.mv3
  obtain ⟨G125, hA127, hB128, hS129, hk130⟩ := hS124.lend
  have hrd131 := RowE.rd hA127
  have hrd131s : _ * 40 ≤ _ := hrd131.small
  refine (zv (f := 15) (vals := [.agg (d.cells vt1 vp2).toArray, .int .i64 (e.typ), .int .i64 (e.field), .int .i64 (e.op), .int .i64 (e.arg)]) (cap := []) rfl (xj ⟨e111, e112, e113, e114, e115, trivial⟩) Tryd.call15 (QL (d := d) (ty := e.typ) (f := e.field) (op := e.op) (arg := e.arg) (RdS.base hrd123 hB128) hrd131 (⟨⟩ : Dcl.Ok d) oe.typ oe.field oe.op oe.arg (RdS.base (RdS.base hKN hB120) hB128) hS129) ?_)
  rintro _ w132 ⟨rfl, hS133⟩
  have hS134 := hk130 _ _ hS133
  have hS135 := hk122 _ _ hS134
  intro vals' hv hv'
  refine ⟨?_, trivial⟩
  show (vals' 12 = (.int .i64 (yO d e.typ e.field e.op e.arg) : Value)) ∧ Sep G W ((RwT vt1 d.types) :: (RwP vp2 d.projs) :: (Blk b16 #[.int .i64 (0), .int .i64 (0)] 57) :: (Blk b12 (e.cells ve0).toArray 59) :: (BkV b vt1 vp2 ve3 m4 m5) :: (RwN ve3 L) :: (zF yi E1 m4 (zj d M)) :: (zF yr E2 m5 (zI M)) :: (RwI ve0 e.deps) :: Rs) w132
  exact ⟨hv, hS135⟩
 ·intro k229 vals w230 h233 h234 hW232 hA231
  obtain rfl : k229 = 1 := Nat.le_antisymm h234 h233
  obtain ⟨he136, hS235⟩ := hW232
  refine obl rfl ?_
  exact yz (k := .i64) (a := yO d e.typ e.field e.op e.arg) (b := 0) he136 rfl (fun vals' hv _ => ⟨rfl, hv⟩)
 intro vals w236 hW237 hA238
 obtain ⟨he136, hS239⟩ := hW237
 have e240 := hA238 13 (by decide)
 refine yh (kv := [(0, .pointer (some ⟨b, 0, none⟩)), (1, .agg (e.cells ve0).toArray), (3, .pointer (some ⟨b12, 0, none⟩)), (4, .bool false), (5, .pointer (some ⟨b16, 0, none⟩)), (25, .bool (!decide ((yO d e.typ e.field e.op e.arg) = 0)))]) ⟨rfl, rfl, rfl, rfl, rfl, (by exact e240), trivial⟩ (fun ρw236 => ?_)
 refine zf ?_
 cases hc241 : !decide ((yO d e.typ e.field e.op e.arg) = 0)
 ·skip
  have hc241 := yq hc241
  have hfo := Xh hc241
  have hfz := hc241
  have hf0 := hfo.1; have hf1 := hfo.2.1; have hft := hfo.2.2
  have hfl := hft.lo; have hfh := hft.hi
  refine zo rfl ?_
  refine zw ?_
  refine zd ?_
  have hS242 : Sep G W ((RwT vt1 d.types) :: (Blk b16 #[.int .i64 (0), .int .i64 (0)] 57) :: (Blk b12 (e.cells ve0).toArray 59) :: (BkV b vt1 vp2 ve3 m4 m5) :: (zF yi E1 m4 (zj d M)) :: (zF yr E2 m5 (zI M)) :: (RwI ve0 e.deps) :: (RwP vp2 d.projs) :: (RwN ve3 L) :: Rs) w236 := hS239.sel 9 [0, 2, 3, 4, 6, 7, 8, 1, 5] (Nat.le_add_left _ _) rfl rfl
  generalize hR244 : ((RwP vp2 d.projs) :: (RwN ve3 L) :: Rs) = R243 at hS242
  obtain ⟨G245, hA247, hB248, hS249, hk250⟩ := hS242.lend
  have hrd251 := RowE.rd hA247
  have hrd251s : _ * 24 ≤ _ := hrd251.small
  refine Yj ((fun TT pp0 => WF [fun vals wq => Sep G245 w236 (pp0 :: TT) wq, fun vals wq => ∃ (b371 : Nat), (vals 17 = (.pointer (some ⟨b371, 0, none⟩) : Value)) ∧ Sep G245 w236 ((Blk b371 #[(.slice none 0 0)] 33) :: pp0 :: TT) wq, fun vals wq => ∃ (b382 : Nat), (vals 18 = (.pointer (some ⟨b382, 0, none⟩) : Value)) ∧ Sep G245 w236 ((Blk b382 #[.int .i64 (0), .int .i64 (0), .int .i64 (0)] 133) :: pp0 :: TT) wq, fun vals wq => ∃ (b371 : Nat) (b382 : Nat), (vals 17 = (.pointer (some ⟨b371, 0, none⟩) : Value)) ∧ (vals 18 = (.pointer (some ⟨b382, 0, none⟩) : Value)) ∧ Sep G245 w236 ((Blk b382 #[.int .i64 (0), .int .i64 (0), .int .i64 (0)] 133) :: (Blk b371 #[(.slice none 0 0)] 33) :: pp0 :: TT) wq, fun _ _ => True, fun _ _ => True, fun _ _ => True, fun vals wq => ∃ (b371 : Nat) (b382 : Nat), (vals 17 = (.pointer (some ⟨b371, 0, none⟩) : Value)) ∧ (vals 18 = (.pointer (some ⟨b382, 0, none⟩) : Value)) ∧ Sep G245 w236 ((Blk b382 #[.int .i64 (0), .int .i64 (0), .int .i64 (0)] 133) :: (BkT b371 d e w236 vt1) :: pp0 :: TT) wq, fun _ _ => True, fun _ _ => True, fun _ _ => True, fun _ _ => True, fun _ _ => True, fun _ _ => True, fun _ _ => True, fun vals wq => ∃ (b371 : Nat) (b382 : Nat), (vals 17 = (.pointer (some ⟨b371, 0, none⟩) : Value)) ∧ (vals 18 = (.pointer (some ⟨b382, 0, none⟩) : Value)) ∧ Sep G245 w236 ((BkP b382 e) :: (BkT b371 d e w236 vt1) :: pp0 :: TT) wq]) ((Blk b12 (e.cells ve0).toArray 59) :: (BkV b vt1 vp2 ve3 m4 m5) :: (zF yi E1 m4 (zj d M)) :: (zF yr E2 m5 (zI M)) :: (RwI ve0 e.deps) :: R243) (Blk b16 #[.int .i64 (0), .int .i64 (0)] 57)) (AF [Vl 0 (.pointer (some ⟨b, 0, none⟩)), Vl 1 (.pointer (some ⟨b, 0, none⟩)), Vl 2 (.pointer (some ⟨b, 0, none⟩)), Vl 3 (.pointer (some ⟨b, 0, none⟩)), Vl 4 (vt1), Vl 5 (.pointer (some ⟨b12, 4, none⟩)), Vl 6 (.int .i64 (e.typ)), Vl 7 (.pointer (some ⟨sb vt1, so vt1 + e.typ.toNat * 1, none⟩)), Vl 8 (.agg ((d.types.getD e.typ.toNat default).cells (zi w236 (sb vt1) (so vt1 + e.typ.toNat * 1 + 0))).toArray), Vl 9 (.pointer (some ⟨b12, 4, none⟩)), Vl 10 (.int .i64 (e.typ)), Vl 11 (.pointer (some ⟨b12, 5, none⟩)), Vl 12 (.int .i64 (e.agg)), Vl 13 (.agg #[.int .i64 (e.typ), .int .i64 (e.agg)]), Vl 14 (.pointer (some ⟨b12, 6, none⟩)), Vl 15 (.int .i64 (e.field)), Vl 16 (.agg #[.int .i64 (e.typ), .int .i64 (e.agg), .int .i64 (e.field)]), fun _ => True, fun _ => True, fun _ => True, fun _ => True]) [[], [0], [0, 1], [0, 1, 2], [0, 1, 2, 3], [], [5], [0, 1, 2, 3, 4, 5, 6], [0, 1, 2, 3, 4, 5, 6, 7], [], [9], [], [11], [9, 10, 11, 12], [], [14], [9, 10, 11, 12, 13, 14, 15], [], [], [0, 1, 2, 3, 4, 5, 6, 7, 8, 17, 18], [0, 1, 2, 3, 4, 5, 6, 7, 8, 9, 10, 11, 12, 13, 14, 15, 16, 17, 18, 19]] [17, 18, 19, 20] [[0, 1, 2, 3], [0, 1, 2, 3], [0, 1, 2, 3], [0, 1, 2, 3], [0, 1, 2, 3], [0, 1, 2, 3], [0, 1, 2, 3], [0, 1, 2, 3], [0, 1, 2, 3], [0, 1, 2, 3, 7], [0, 1, 2, 3, 7], [0, 1, 2, 3, 7], [0, 1, 2, 3, 7], [0, 1, 2, 3, 7], [0, 1, 2, 3, 7], [0, 1, 2, 3, 7], [0, 1, 2, 3, 7], [0, 2], [0, 1], [3], [7]] (by kernel_rfl) (by kernel_rfl) (by kernel_rfl) rfl (by kernel_rfl) (by kernel_rfl) (by decide) (fun _ h1 h2 h3 h4 _ => hS249.same h1 h2 h3 h4) ?_ (yg ⟨dA, dA, dA, dA, dA, dA, dA, dA, dA, dA, dA, dA, dA, dA, dA, dA, dA, dT, dT, dT, dT, trivial⟩) ⟨?_, ?_, ?_, ?_, ?_, ?_, ?_, ?_, ?_, ?_, ?_, ?_, ?_, ?_, ?_, ?_, ?_, ?_, ?_, ?_, ?_, trivial⟩ ?_
  ·intro k vals vals' w hv h
   have e : ∀ j ∈ ([17, 18, 19, 20] : List Nat), vals' j = vals j := hv
   match k, h with
   | 0, h => exact h
   | 1, h => exact (by simpa only [WF, List.getElem?_cons_zero, List.getElem?_cons_succ, e 17 (by decide)] using h)
   | 2, h => exact (by simpa only [WF, List.getElem?_cons_zero, List.getElem?_cons_succ, e 18 (by decide)] using h)
   | 3, h => exact (by simpa only [WF, List.getElem?_cons_zero, List.getElem?_cons_succ, e 17 (by decide), e 18 (by decide)] using h)
   | 4, h => exact h
   | 5, h => exact h
   | 6, h => exact h
   | 7, h => exact (by simpa only [WF, List.getElem?_cons_zero, List.getElem?_cons_succ, e 17 (by decide), e 18 (by decide)] using h)
   | 8, h => exact h
   | 9, h => exact h
   | 10, h => exact h
   | 11, h => exact h
   | 12, h => exact h
   | 13, h => exact h
   | 14, h => exact h
   | 15, h => exact (by simpa only [WF, List.getElem?_cons_zero, List.getElem?_cons_succ, e 17 (by decide), e 18 (by decide)] using h)
   | _ + 16, _ => trivial
  ·intro k415 vals w416 hk419 hW418 hA417
   refine obl rfl ?_
   exact zb (v := .pointer (some ⟨b, 0, none⟩)) rfl (fun vals' hv _ => ⟨rfl, hv⟩)
  ·intro k420 vals w421 hk424 hW423 hA422
   have e425 := hA422 0 (by decide)
   refine obl rfl ?_
   exact zL (b := b) (o := 0) e425 (fun vals' hv _ => ⟨rfl, hv⟩)
  ·intro k426 vals w427 hk430 hW429 hA428
   have e431 := hA428 1 (by decide)
   refine obl rfl ?_
   exact WO e431 (fun vals' hv _ => ⟨rfl, hv⟩)
  ·intro k432 vals w433 hk436 hW435 hA434
   have e437 := hA434 2 (by decide)
   refine obl rfl ?_
   exact yt e437 (fun vals' hv _ => ⟨rfl, hv⟩)
  ·intro k438 vals w439 hk442 hW441 hA440
   have hk4422 : k438 ∈ [0, 1, 2, 3] := hk442
   simp only [List.mem_cons, List.not_mem_nil, or_false] at hk4422
   rcases hk4422 with rfl | rfl | rfl | rfl
   ·skip
    have hS443 : Sep _ _ _ _ := hW441
    have e444 := hA440 3 (by decide)
    refine obl rfl ?_
    exact zg (v := vt1) Tryd.isAgg22 e444 (zh (hS443.blk (i := 2) rfl) rfl) (fun vals' hv _ => ⟨rfl, hv⟩)
   ·skip
    obtain ⟨b371, he374, hS445⟩ := hW441
    have e446 := hA440 3 (by decide)
    refine obl rfl ?_
    exact zg (v := vt1) Tryd.isAgg22 e446 (zh (hS445.blk (i := 3) rfl) rfl) (fun vals' hv _ => ⟨rfl, hv⟩)
   ·skip
    obtain ⟨b382, he385, hS447⟩ := hW441
    have e448 := hA440 3 (by decide)
    refine obl rfl ?_
    exact zg (v := vt1) Tryd.isAgg22 e448 (zh (hS447.blk (i := 3) rfl) rfl) (fun vals' hv _ => ⟨rfl, hv⟩)
   ·skip
    obtain ⟨b371, b382, he374, he385, hS449⟩ := hW441
    have e450 := hA440 3 (by decide)
    refine obl rfl ?_
    exact zg (v := vt1) Tryd.isAgg22 e450 (zh (hS449.blk (i := 4) rfl) rfl) (fun vals' hv _ => ⟨rfl, hv⟩)
  ·intro k451 vals w452 hk455 hW454 hA453
   refine obl rfl ?_
   exact Yl rfl (fun vals' hv _ => ⟨rfl, hv⟩)
  ·intro k456 vals w457 hk460 hW459 hA458
   have hk4602 : k456 ∈ [0, 1, 2, 3] := hk460
   simp only [List.mem_cons, List.not_mem_nil, or_false] at hk4602
   rcases hk4602 with rfl | rfl | rfl | rfl
   ·skip
    have hS461 : Sep _ _ _ _ := hW459
    have e462 := hA458 5 (by decide)
    refine obl rfl ?_
    exact zg (v := .int .i64 (e.typ)) Tryd.isAgg3 e462 (zh (hS461.blk (i := 1) rfl) rfl) (fun vals' hv _ => ⟨rfl, hv⟩)
   ·skip
    obtain ⟨b371, he374, hS463⟩ := hW459
    have e464 := hA458 5 (by decide)
    refine obl rfl ?_
    exact zg (v := .int .i64 (e.typ)) Tryd.isAgg3 e464 (zh (hS463.blk (i := 2) rfl) rfl) (fun vals' hv _ => ⟨rfl, hv⟩)
   ·skip
    obtain ⟨b382, he385, hS465⟩ := hW459
    have e466 := hA458 5 (by decide)
    refine obl rfl ?_
    exact zg (v := .int .i64 (e.typ)) Tryd.isAgg3 e466 (zh (hS465.blk (i := 2) rfl) rfl) (fun vals' hv _ => ⟨rfl, hv⟩)
   ·skip
    obtain ⟨b371, b382, he374, he385, hS467⟩ := hW459
    have e468 := hA458 5 (by decide)
    refine obl rfl ?_
    exact zg (v := .int .i64 (e.typ)) Tryd.isAgg3 e468 (zh (hS467.blk (i := 3) rfl) rfl) (fun vals' hv _ => ⟨rfl, hv⟩)
  ·intro k469 vals w470 hk473 hW472 hA471
   have hk4732 : k469 ∈ [0, 1, 2, 3] := hk473
   simp only [List.mem_cons, List.not_mem_nil, or_false] at hk4732
   rcases hk4732 with rfl | rfl | rfl | rfl
   ·skip
    have hS474 : Sep _ _ _ _ := hW472
    have e475 := hA471 4 (by decide)
    have e476 := hA471 6 (by decide)
    refine obl rfl ?_
    have hi477 : e.typ.toNat < d.types.length := (by first | omega | (simp only [lens]; omega))
    exact zG (k := 1) (i := e.typ) Tryd.underlying22 Tryd.sizeOf33 e475 hrd251.sl e476 ⟨by omega, by omega⟩ (fun vals' hv _ => ⟨rfl, hv⟩)
   ·skip
    obtain ⟨b371, he374, hS478⟩ := hW472
    have e479 := hA471 4 (by decide)
    have e480 := hA471 6 (by decide)
    refine obl rfl ?_
    have hi481 : e.typ.toNat < d.types.length := (by first | omega | (simp only [lens]; omega))
    exact zG (k := 1) (i := e.typ) Tryd.underlying22 Tryd.sizeOf33 e479 hrd251.sl e480 ⟨by omega, by omega⟩ (fun vals' hv _ => ⟨rfl, hv⟩)
   ·skip
    obtain ⟨b382, he385, hS482⟩ := hW472
    have e483 := hA471 4 (by decide)
    have e484 := hA471 6 (by decide)
    refine obl rfl ?_
    have hi485 : e.typ.toNat < d.types.length := (by first | omega | (simp only [lens]; omega))
    exact zG (k := 1) (i := e.typ) Tryd.underlying22 Tryd.sizeOf33 e483 hrd251.sl e484 ⟨by omega, by omega⟩ (fun vals' hv _ => ⟨rfl, hv⟩)
   ·skip
    obtain ⟨b371, b382, he374, he385, hS486⟩ := hW472
    have e487 := hA471 4 (by decide)
    have e488 := hA471 6 (by decide)
    refine obl rfl ?_
    have hi489 : e.typ.toNat < d.types.length := (by first | omega | (simp only [lens]; omega))
    exact zG (k := 1) (i := e.typ) Tryd.underlying22 Tryd.sizeOf33 e487 hrd251.sl e488 ⟨by omega, by omega⟩ (fun vals' hv _ => ⟨rfl, hv⟩)
  ·intro k490 vals w491 hk494 hW493 hA492
   have hk4942 : k490 ∈ [0, 1, 2, 3] := hk494
   simp only [List.mem_cons, List.not_mem_nil, or_false] at hk4942
   rcases hk4942 with rfl | rfl | rfl | rfl
   ·skip
    have hS495 : Sep _ _ _ _ := hW493
    have e496 := hA492 7 (by decide)
    refine obl rfl ?_
    have hi498 : e.typ.toNat < d.types.length := (by first | omega | (simp only [lens]; omega))
    obtain ⟨hce497, hde497_0, hoke497⟩ := hrd251.typ hi498
    rw [← zk default hi498] at hce497 hde497_0 hoke497
    have hsm499 : ((d.types.getD e.typ.toNat default).fields).length * 48 ≤ 140737488355328 := hde497_0.small
    have hcw500 := hS495.cells hce497 (hrd251.foot (ne_of_lt hi498))
    exact zl (k := 1) Tryd.isAgg33 Tryd.sizeOf33 rfl e496 hcw500 (fun vals' hv _ => ⟨rfl, hv⟩)
   ·skip
    obtain ⟨b371, he374, hS501⟩ := hW493
    have e502 := hA492 7 (by decide)
    refine obl rfl ?_
    have hi504 : e.typ.toNat < d.types.length := (by first | omega | (simp only [lens]; omega))
    obtain ⟨hce503, hde503_0, hoke503⟩ := hrd251.typ hi504
    rw [← zk default hi504] at hce503 hde503_0 hoke503
    have hsm505 : ((d.types.getD e.typ.toNat default).fields).length * 48 ≤ 140737488355328 := hde503_0.small
    have hcw506 := hS501.cells hce503 (hrd251.foot (ne_of_lt hi504))
    exact zl (k := 1) Tryd.isAgg33 Tryd.sizeOf33 rfl e502 hcw506 (fun vals' hv _ => ⟨rfl, hv⟩)
   ·skip
    obtain ⟨b382, he385, hS507⟩ := hW493
    have e508 := hA492 7 (by decide)
    refine obl rfl ?_
    have hi510 : e.typ.toNat < d.types.length := (by first | omega | (simp only [lens]; omega))
    obtain ⟨hce509, hde509_0, hoke509⟩ := hrd251.typ hi510
    rw [← zk default hi510] at hce509 hde509_0 hoke509
    have hsm511 : ((d.types.getD e.typ.toNat default).fields).length * 48 ≤ 140737488355328 := hde509_0.small
    have hcw512 := hS507.cells hce509 (hrd251.foot (ne_of_lt hi510))
    exact zl (k := 1) Tryd.isAgg33 Tryd.sizeOf33 rfl e508 hcw512 (fun vals' hv _ => ⟨rfl, hv⟩)
   ·skip
    obtain ⟨b371, b382, he374, he385, hS513⟩ := hW493
    have e514 := hA492 7 (by decide)
    refine obl rfl ?_
    have hi516 : e.typ.toNat < d.types.length := (by first | omega | (simp only [lens]; omega))
    obtain ⟨hce515, hde515_0, hoke515⟩ := hrd251.typ hi516
    rw [← zk default hi516] at hce515 hde515_0 hoke515
    have hsm517 : ((d.types.getD e.typ.toNat default).fields).length * 48 ≤ 140737488355328 := hde515_0.small
    have hcw518 := hS513.cells hce515 (hrd251.foot (ne_of_lt hi516))
    exact zl (k := 1) Tryd.isAgg33 Tryd.sizeOf33 rfl e514 hcw518 (fun vals' hv _ => ⟨rfl, hv⟩)
  ·intro k519 vals w520 hk523 hW522 hA521
   refine obl rfl ?_
   exact Yl rfl (fun vals' hv _ => ⟨rfl, hv⟩)
  ·intro k524 vals w525 hk528 hW527 hA526
   have hk5282 : k524 ∈ [0, 1, 2, 3, 7] := hk528
   simp only [List.mem_cons, List.not_mem_nil, or_false] at hk5282
   rcases hk5282 with rfl | rfl | rfl | rfl | rfl
   ·skip
    have hS529 : Sep _ _ _ _ := hW527
    have e530 := hA526 9 (by decide)
    refine obl rfl ?_
    exact zg (v := .int .i64 (e.typ)) Tryd.isAgg3 e530 (zh (hS529.blk (i := 1) rfl) rfl) (fun vals' hv _ => ⟨rfl, hv⟩)
   ·skip
    obtain ⟨b371, he374, hS531⟩ := hW527
    have e532 := hA526 9 (by decide)
    refine obl rfl ?_
    exact zg (v := .int .i64 (e.typ)) Tryd.isAgg3 e532 (zh (hS531.blk (i := 2) rfl) rfl) (fun vals' hv _ => ⟨rfl, hv⟩)
   ·skip
    obtain ⟨b382, he385, hS533⟩ := hW527
    have e534 := hA526 9 (by decide)
    refine obl rfl ?_
    exact zg (v := .int .i64 (e.typ)) Tryd.isAgg3 e534 (zh (hS533.blk (i := 2) rfl) rfl) (fun vals' hv _ => ⟨rfl, hv⟩)
   ·skip
    obtain ⟨b371, b382, he374, he385, hS535⟩ := hW527
    have e536 := hA526 9 (by decide)
    refine obl rfl ?_
    exact zg (v := .int .i64 (e.typ)) Tryd.isAgg3 e536 (zh (hS535.blk (i := 3) rfl) rfl) (fun vals' hv _ => ⟨rfl, hv⟩)
   ·skip
    obtain ⟨b371, b382, he374, he385, hS537⟩ := hW527
    have e538 := hA526 9 (by decide)
    refine obl rfl ?_
    exact zg (v := .int .i64 (e.typ)) Tryd.isAgg3 e538 (zh (hS537.blk (i := 3) rfl) rfl) (fun vals' hv _ => ⟨rfl, hv⟩)
  ·intro k539 vals w540 hk543 hW542 hA541
   refine obl rfl ?_
   exact Ub rfl (fun vals' hv _ => ⟨rfl, hv⟩)
  ·intro k544 vals w545 hk548 hW547 hA546
   have hk5482 : k544 ∈ [0, 1, 2, 3, 7] := hk548
   simp only [List.mem_cons, List.not_mem_nil, or_false] at hk5482
   rcases hk5482 with rfl | rfl | rfl | rfl | rfl
   ·skip
    have hS549 : Sep _ _ _ _ := hW547
    have e550 := hA546 11 (by decide)
    refine obl rfl ?_
    exact zg (v := .int .i64 (e.agg)) Tryd.isAgg3 e550 (zh (hS549.blk (i := 1) rfl) rfl) (fun vals' hv _ => ⟨rfl, hv⟩)
   ·skip
    obtain ⟨b371, he374, hS551⟩ := hW547
    have e552 := hA546 11 (by decide)
    refine obl rfl ?_
    exact zg (v := .int .i64 (e.agg)) Tryd.isAgg3 e552 (zh (hS551.blk (i := 2) rfl) rfl) (fun vals' hv _ => ⟨rfl, hv⟩)
   ·skip
    obtain ⟨b382, he385, hS553⟩ := hW547
    have e554 := hA546 11 (by decide)
    refine obl rfl ?_
    exact zg (v := .int .i64 (e.agg)) Tryd.isAgg3 e554 (zh (hS553.blk (i := 2) rfl) rfl) (fun vals' hv _ => ⟨rfl, hv⟩)
   ·skip
    obtain ⟨b371, b382, he374, he385, hS555⟩ := hW547
    have e556 := hA546 11 (by decide)
    refine obl rfl ?_
    exact zg (v := .int .i64 (e.agg)) Tryd.isAgg3 e556 (zh (hS555.blk (i := 3) rfl) rfl) (fun vals' hv _ => ⟨rfl, hv⟩)
   ·skip
    obtain ⟨b371, b382, he374, he385, hS557⟩ := hW547
    have e558 := hA546 11 (by decide)
    refine obl rfl ?_
    exact zg (v := .int .i64 (e.agg)) Tryd.isAgg3 e558 (zh (hS557.blk (i := 3) rfl) rfl) (fun vals' hv _ => ⟨rfl, hv⟩)
  ·intro k559 vals w560 hk563 hW562 hA561
   have e564 := hA561 10 (by decide)
   have e565 := hA561 12 (by decide)
   refine obl rfl ?_
   exact zS (parts' := [(0, .int .i64 (e.typ)), (1, .int .i64 (e.agg))]) (v := .agg #[.int .i64 (e.typ), .int .i64 (e.agg)]) (xE ⟨rfl, e564, rfl, e565, trivial⟩) (by simp [Instr.build, Instr.fill, Ev.cells, go_sem, Mv.cells, Fld.cells, Typ.cells, Prj.cells, Dcl.cells, Cel.cells, AskR.cells, Ask.cells, CelS.cells, Ev.cells, Ent.cells, Sta.cells]) (fun vals' hv _ => ⟨rfl, hv⟩)
  ·intro k566 vals w567 hk570 hW569 hA568
   refine obl rfl ?_
   exact Zi rfl (fun vals' hv _ => ⟨rfl, hv⟩)
  ·intro k571 vals w572 hk575 hW574 hA573
   have hk5752 : k571 ∈ [0, 1, 2, 3, 7] := hk575
   simp only [List.mem_cons, List.not_mem_nil, or_false] at hk5752
   rcases hk5752 with rfl | rfl | rfl | rfl | rfl
   ·skip
    have hS576 : Sep _ _ _ _ := hW574
    have e577 := hA573 14 (by decide)
    refine obl rfl ?_
    exact zg (v := .int .i64 (e.field)) Tryd.isAgg3 e577 (zh (hS576.blk (i := 1) rfl) rfl) (fun vals' hv _ => ⟨rfl, hv⟩)
   ·skip
    obtain ⟨b371, he374, hS578⟩ := hW574
    have e579 := hA573 14 (by decide)
    refine obl rfl ?_
    exact zg (v := .int .i64 (e.field)) Tryd.isAgg3 e579 (zh (hS578.blk (i := 2) rfl) rfl) (fun vals' hv _ => ⟨rfl, hv⟩)
   ·skip
    obtain ⟨b382, he385, hS580⟩ := hW574
    have e581 := hA573 14 (by decide)
    refine obl rfl ?_
    exact zg (v := .int .i64 (e.field)) Tryd.isAgg3 e581 (zh (hS580.blk (i := 2) rfl) rfl) (fun vals' hv _ => ⟨rfl, hv⟩)
   ·skip
    obtain ⟨b371, b382, he374, he385, hS582⟩ := hW574
    have e583 := hA573 14 (by decide)
    refine obl rfl ?_
    exact zg (v := .int .i64 (e.field)) Tryd.isAgg3 e583 (zh (hS582.blk (i := 3) rfl) rfl) (fun vals' hv _ => ⟨rfl, hv⟩)
   ·skip
    obtain ⟨b371, b382, he374, he385, hS584⟩ := hW574
    have e585 := hA573 14 (by decide)
    refine obl rfl ?_
    exact zg (v := .int .i64 (e.field)) Tryd.isAgg3 e585 (zh (hS584.blk (i := 3) rfl) rfl) (fun vals' hv _ => ⟨rfl, hv⟩)
  ·intro k586 vals w587 hk590 hW589 hA588
   have e591 := hA588 13 (by decide)
   have e592 := hA588 15 (by decide)
   refine obl rfl ?_
   exact zS (parts' := [(0, .agg #[.int .i64 (e.typ), .int .i64 (e.agg)]), (1, .int .i64 (e.field))]) (v := .agg #[.int .i64 (e.typ), .int .i64 (e.agg), .int .i64 (e.field)]) (xE ⟨rfl, e591, rfl, e592, trivial⟩) (by simp [Instr.build, Instr.fill, Ev.cells, go_sem, Mv.cells, Fld.cells, Typ.cells, Prj.cells, Dcl.cells, Cel.cells, AskR.cells, Ask.cells, CelS.cells, Ev.cells, Ent.cells, Sta.cells]) (fun vals' hv _ => ⟨rfl, hv⟩)
  ·intro k593 vals w594 hk597 hW596 hA595
   have hk5972 : k593 ∈ [0, 2] := hk597
   simp only [List.mem_cons, List.not_mem_nil, or_false] at hk5972
   rcases hk5972 with rfl | rfl
   ·skip
    have hS598 : Sep _ _ _ _ := hW596
    refine obl rfl ?_
    refine (zE Tryd.zeroValue33 ?_)
    intro w601 b371 hn599
    have hS602 := hS598.new hn599
    intro vals' hv hv'
    refine ⟨?_, trivial⟩
    show ∃ (b371 : Nat), (vals' 17 = (.pointer (some ⟨b371, 0, none⟩) : Value)) ∧ Sep G245 w236 ((Blk b371 #[(.slice none 0 0)] 33) :: (Blk b16 #[.int .i64 (0), .int .i64 (0)] 57) :: (Blk b12 (e.cells ve0).toArray 59) :: (BkV b vt1 vp2 ve3 m4 m5) :: (zF yi E1 m4 (zj d M)) :: (zF yr E2 m5 (zI M)) :: (RwI ve0 e.deps) :: R243) w601
    exact ⟨b371, hv, hS602⟩
   ·skip
    obtain ⟨b382, he385, hS603⟩ := hW596
    refine obl rfl ?_
    refine (zE Tryd.zeroValue33 ?_)
    intro w606 b371 hn604
    have hS607 := hS603.new hn604
    have hS608 := hS607.mv1
    intro vals' hv hv'
    refine ⟨?_, trivial⟩
    show ∃ (b371 : Nat) (b382 : Nat), (vals' 17 = (.pointer (some ⟨b371, 0, none⟩) : Value)) ∧ (vals' 18 = (.pointer (some ⟨b382, 0, none⟩) : Value)) ∧ Sep G245 w236 ((Blk b382 #[.int .i64 (0), .int .i64 (0), .int .i64 (0)] 133) :: (Blk b371 #[(.slice none 0 0)] 33) :: (Blk b16 #[.int .i64 (0), .int .i64 (0)] 57) :: (Blk b12 (e.cells ve0).toArray 59) :: (BkV b vt1 vp2 ve3 m4 m5) :: (zF yi E1 m4 (zj d M)) :: (zF yr E2 m5 (zI M)) :: (RwI ve0 e.deps) :: R243) w606
    exact ⟨b371, b382, hv, (by rw [hv' 18 (by decide)]; exact he385), hS608⟩
  ·intro k609 vals w610 hk613 hW612 hA611
   have hk6132 : k609 ∈ [0, 1] := hk613
   simp only [List.mem_cons, List.not_mem_nil, or_false] at hk6132
   rcases hk6132 with rfl | rfl
   ·skip
    have hS614 : Sep _ _ _ _ := hW612
    refine obl rfl ?_
    refine (zE Tryd.zeroValue133 ?_)
    intro w617 b382 hn615
    have hS618 := hS614.new hn615
    intro vals' hv hv'
    refine ⟨?_, trivial⟩
    show ∃ (b382 : Nat), (vals' 18 = (.pointer (some ⟨b382, 0, none⟩) : Value)) ∧ Sep G245 w236 ((Blk b382 #[.int .i64 (0), .int .i64 (0), .int .i64 (0)] 133) :: (Blk b16 #[.int .i64 (0), .int .i64 (0)] 57) :: (Blk b12 (e.cells ve0).toArray 59) :: (BkV b vt1 vp2 ve3 m4 m5) :: (zF yi E1 m4 (zj d M)) :: (zF yr E2 m5 (zI M)) :: (RwI ve0 e.deps) :: R243) w617
    exact ⟨b382, hv, hS618⟩
   ·skip
    obtain ⟨b371, he374, hS619⟩ := hW612
    refine obl rfl ?_
    refine (zE Tryd.zeroValue133 ?_)
    intro w622 b382 hn620
    have hS623 := hS619.new hn620
    intro vals' hv hv'
    refine ⟨?_, trivial⟩
    show ∃ (b371 : Nat) (b382 : Nat), (vals' 17 = (.pointer (some ⟨b371, 0, none⟩) : Value)) ∧ (vals' 18 = (.pointer (some ⟨b382, 0, none⟩) : Value)) ∧ Sep G245 w236 ((Blk b382 #[.int .i64 (0), .int .i64 (0), .int .i64 (0)] 133) :: (Blk b371 #[(.slice none 0 0)] 33) :: (Blk b16 #[.int .i64 (0), .int .i64 (0)] 57) :: (Blk b12 (e.cells ve0).toArray 59) :: (BkV b vt1 vp2 ve3 m4 m5) :: (zF yi E1 m4 (zj d M)) :: (zF yr E2 m5 (zI M)) :: (RwI ve0 e.deps) :: R243) w622
    exact ⟨b371, b382, (by rw [hv' 17 (by decide)]; exact he374), hv, hS623⟩
  ·intro k624 vals w625 hk628 hW627 hA626
   have hk6282 : k624 ∈ [3] := hk628
   simp only [List.mem_cons, List.not_mem_nil, or_false] at hk6282
   subst hk6282
   obtain ⟨b371, b382, he374, he385, hS629⟩ := hW627
   refine obl rfl ?_
   have e630 := hA626 8 (by decide)
   have hi634 : e.typ.toNat < d.types.length := (by first | omega | (simp only [lens]; omega))
   obtain ⟨hce633, hde633_0, hoke633⟩ := hrd251.typ hi634
   rw [← zk default hi634] at hce633 hde633_0 hoke633
   have hsm635 : ((d.types.getD e.typ.toNat default).fields).length * 48 ≤ 140737488355328 := hde633_0.small
   have hcw636 := hS629.cells hce633 (hrd251.foot (ne_of_lt hi634))
   refine (zy (v := .agg ((d.types.getD e.typ.toNat default).cells (zi w236 (sb vt1) (so vt1 + e.typ.toNat * 1 + 0))).toArray) (c' := ((d.types.getD e.typ.toNat default).cells (zi w236 (sb vt1) (so vt1 + e.typ.toNat * 1 + 0))).toArray) Tryd.sizeOf33 he374 e630 (hS629.blk (i := 1) rfl) (yj ⟨hde633_0.sl.one, trivial⟩) (Nat.le_of_ble_eq_true rfl) rfl ?_)
   intro w631 hp632
   have hS637 := hS629.pt1 hp632
   intro vals' hv hv'
   refine ⟨?_, trivial⟩
   show ∃ (b371 : Nat) (b382 : Nat), (vals' 17 = (.pointer (some ⟨b371, 0, none⟩) : Value)) ∧ (vals' 18 = (.pointer (some ⟨b382, 0, none⟩) : Value)) ∧ Sep G245 w236 ((Blk b382 #[.int .i64 (0), .int .i64 (0), .int .i64 (0)] 133) :: (BkT b371 d e w236 vt1) :: (Blk b16 #[.int .i64 (0), .int .i64 (0)] 57) :: (Blk b12 (e.cells ve0).toArray 59) :: (BkV b vt1 vp2 ve3 m4 m5) :: (zF yi E1 m4 (zj d M)) :: (zF yr E2 m5 (zI M)) :: (RwI ve0 e.deps) :: R243) w631
   exact ⟨b371, b382, (by rw [hv' 17 (by decide)]; exact he374), (by rw [hv' 18 (by decide)]; exact he385), hS637⟩
  ·intro k638 vals w639 hk642 hW641 hA640
   have hk6422 : k638 ∈ [7] := hk642
   simp only [List.mem_cons, List.not_mem_nil, or_false] at hk6422
   subst hk6422
   obtain ⟨b371, b382, he374, he385, hS643⟩ := hW641
   refine obl rfl ?_
   have e644 := hA640 16 (by decide)
   refine (zy (v := .agg #[.int .i64 (e.typ), .int .i64 (e.agg), .int .i64 (e.field)]) (c' := #[.int .i64 (e.typ), .int .i64 (e.agg), .int .i64 (e.field)]) Tryd.sizeOf133 he385 e644 (hS643.blk (i := 0) rfl) (yj ⟨rfl, rfl, rfl, trivial⟩) (Nat.le_of_ble_eq_true rfl) rfl ?_)
   intro w645 hp646
   have hS647 := hS643.pt0 hp646
   intro vals' hv hv'
   refine ⟨?_, trivial⟩
   show ∃ (b371 : Nat) (b382 : Nat), (vals' 17 = (.pointer (some ⟨b371, 0, none⟩) : Value)) ∧ (vals' 18 = (.pointer (some ⟨b382, 0, none⟩) : Value)) ∧ Sep G245 w236 ((BkP b382 e) :: (BkT b371 d e w236 vt1) :: (Blk b16 #[.int .i64 (0), .int .i64 (0)] 57) :: (Blk b12 (e.cells ve0).toArray 59) :: (BkV b vt1 vp2 ve3 m4 m5) :: (zF yi E1 m4 (zj d M)) :: (zF yr E2 m5 (zI M)) :: (RwI ve0 e.deps) :: R243) w645
   exact ⟨b371, b382, (by rw [hv' 17 (by decide)]; exact he374), (by rw [hv' 18 (by decide)]; exact he385), hS647⟩
  intro vals w648 hW649 hA650
  obtain ⟨b371, b382, he374, he385, hS651⟩ := hW649
  refine yh (kv := [(0, .pointer (some ⟨b, 0, none⟩)), (1, .agg (e.cells ve0).toArray), (3, .pointer (some ⟨b12, 0, none⟩)), (4, .bool false), (5, .pointer (some ⟨b16, 0, none⟩)), (25, .bool false), (6, .pointer (some ⟨b371, 0, none⟩)), (7, .pointer (some ⟨b382, 0, none⟩))]) ⟨rfl, rfl, rfl, rfl, rfl, rfl, (by exact he374), (by exact he385), trivial⟩ (fun ρw648 => ?_)
  refine zf ?_
  refine zd ?_
  refine zd ?_
  have hi653 : e.typ.toNat < d.types.length := (by first | omega | (simp only [lens]; omega))
  obtain ⟨hce652, hde652_0, hoke652⟩ := hrd251.typ hi653
  rw [← zk default hi653] at hce652 hde652_0 hoke652
  have hsm654 : ((d.types.getD e.typ.toNat default).fields).length * 48 ≤ 140737488355328 := hde652_0.small
  have hcw655 := hS651.cells hce652 (hrd251.foot (ne_of_lt hi653))
  have hS656 := hS651.mv6
  obtain ⟨vd657, hvd658, hS659⟩ := hS656.mapoTake (.slice none 0 0) (e.typ, e.agg, e.field)
  have hS660 := hS659.mv1
  have hS661 : Sep G245 w236 ((RwV vd657 (zz (e.typ, e.agg, e.field) M)) :: (Md1 m5 M e vd657) :: (BkP b382 e) :: (BkT b371 d e w236 vt1) :: (Blk b16 #[.int .i64 (0), .int .i64 (0)] 57) :: (Blk b12 (e.cells ve0).toArray 59) :: (BkV b vt1 vp2 ve3 m4 m5) :: (zF yi E1 m4 (zj d M)) :: (RwI ve0 e.deps) :: R243) w648 := Ur hS660 hvd658
  have hr662 := hS661.row (i := 0) rfl
  have hr662s : _ * 96 ≤ _ := hr662.2
  have hdl9 := VU (e.typ, e.agg, e.field) M
  refine zP (WF [fun vals wq => Sep G245 w236 ((RwV vd657 (zz (e.typ, e.agg, e.field) M)) :: (Md1 m5 M e vd657) :: (BkP b382 e) :: (BkT b371 d e w236 vt1) :: (Blk b16 #[.int .i64 (0), .int .i64 (0)] 57) :: (Blk b12 (e.cells ve0).toArray 59) :: (BkV b vt1 vp2 ve3 m4 m5) :: (zF yi E1 m4 (zj d M)) :: (RwI ve0 e.deps) :: R243) wq]) (AF [Vl 0 (.pointer (some ⟨b, 0, none⟩)), Vl 1 (.pointer (some ⟨b, 0, none⟩)), Vl 2 (.pointer (some ⟨b, 4, none⟩)), Vl 3 (.map (some m5)), Vl 4 (.agg #[.int .i64 (e.typ), .int .i64 (e.agg), .int .i64 (e.field)]), Vl 5 (vd657), Vl 6 (.int .i64 (((zz (e.typ, e.agg, e.field) M).length : Nat) : Int)), Vl 7 (.int .i64 (0))]) [[], [0], [0, 1], [0, 1, 2], [], [0, 1, 2, 3, 4], [0, 1, 2, 3, 4, 5], []] [] [(0, 0), (0, 0), (0, 0), (0, 0), (0, 0), (0, 0), (0, 0), (0, 0)] (by kernel_rfl) (by kernel_rfl) (by kernel_rfl) rfl (by kernel_rfl) (by kernel_rfl) (fun _ h1 h2 h3 h4 _ => hS661.same h1 h2 h3 h4) ?_ (yg ⟨dA, dA, dA, dA, dA, dA, dA, dA, trivial⟩) ⟨?_, ?_, ?_, ?_, ?_, ?_, ?_, ?_, trivial⟩ ?_
  ·intro k vals vals' w hv h
   match k, h with
   | 0, h => exact h
   | _ + 1, _ => trivial
  ·intro k721 vals w722 h725 h726 hW724 hA723
   refine obl rfl ?_
   exact zb (v := .pointer (some ⟨b, 0, none⟩)) rfl (fun vals' hv _ => ⟨rfl, hv⟩)
  ·intro k727 vals w728 h731 h732 hW730 hA729
   have e733 := hA729 0 (by decide)
   refine obl rfl ?_
   exact zL (b := b) (o := 0) e733 (fun vals' hv _ => ⟨rfl, hv⟩)
  ·intro k734 vals w735 h738 h739 hW737 hA736
   have e740 := hA736 1 (by decide)
   refine obl rfl ?_
   exact WI e740 (fun vals' hv _ => ⟨rfl, hv⟩)
  ·intro k741 vals w742 h745 h746 hW744 hA743
   obtain rfl : k741 = 0 := Nat.le_antisymm h746 h745
   have hS747 : Sep _ _ _ _ := hW744
   have e748 := hA743 2 (by decide)
   refine obl rfl ?_
   exact zg (v := .map (some m5)) Tryd.isAgg109 e748 (zh (hS747.blk (i := 6) rfl) rfl) (fun vals' hv _ => ⟨rfl, hv⟩)
  ·intro k749 vals w750 h753 h754 hW752 hA751
   obtain rfl : k749 = 0 := Nat.le_antisymm h754 h753
   have hS755 : Sep _ _ _ _ := hW752
   refine obl rfl ?_
   exact zl (k := 3) Tryd.isAgg133 Tryd.sizeOf133 rfl rfl (CellsAt.all (hS755.blk (i := 2) rfl)) (fun vals' hv _ => ⟨rfl, hv⟩)
  ·intro k756 vals w757 h760 h761 hW759 hA758
   obtain rfl : k756 = 0 := Nat.le_antisymm h761 h760
   have hS762 : Sep _ _ _ _ := hW759
   have e763 := hA758 3 (by decide)
   have e764 := hA758 4 (by decide)
   refine obl rfl ?_
   exact Wn hS762 (i := 1) rfl K3 Tryd.underlying109 Tryd.zeroValue47 e763 e764 (fun vals' hv _ => ⟨rfl, hv⟩)
  ·intro k765 vals w766 h769 h770 hW768 hA767
   obtain rfl : k765 = 0 := Nat.le_antisymm h770 h769
   have hS771 : Sep _ _ _ _ := hW768
   have e772 := hA767 5 (by decide)
   refine obl rfl ?_
   exact zJ (n := (zz (e.typ, e.agg, e.field) M).length) Tryd.underlying47 e772 hr662.1 (fun vals' hv _ => ⟨rfl, hv⟩)
  ·intro k773 vals w774 h777 h778 hW776 hA775
   refine obl rfl ?_
   exact zb (v := .int .i64 (0)) rfl (fun vals' hv _ => ⟨rfl, hv⟩)
  intro vals w779 hW780 hA781
  have hS782 : Sep _ _ _ _ := hW780
  have e783 := hA781 5 (by decide)
  have e784 := hA781 6 (by decide)
  have e785 := hA781 7 (by decide)
  refine yh (kv := [(0, .pointer (some ⟨b, 0, none⟩)), (1, .agg (e.cells ve0).toArray), (3, .pointer (some ⟨b12, 0, none⟩)), (4, .bool false), (5, .pointer (some ⟨b16, 0, none⟩)), (25, .bool false), (6, .pointer (some ⟨b371, 0, none⟩)), (7, .pointer (some ⟨b382, 0, none⟩)), (49, vd657), (50, .int .i64 (((zz (e.typ, e.agg, e.field) M).length : Nat) : Int)), (51, .int .i64 (0))]) ⟨rfl, rfl, rfl, rfl, rfl, rfl, rfl, rfl, (by exact e783), (by exact e784), (by exact e785), trivial⟩ (fun ρw779 => ?_)
  refine zf ?_
  refine zx ?_
  obtain ⟨G786, hA788, hB789, hS790, hk791⟩ := hS782.lend
  have hrd792 := RowE.rd hA788
  have hrd792s : _ * 96 ≤ _ := hrd792.small
  have hS793 : Sep G786 w779 ((BkP b382 e) :: (BkT b371 d e w236 vt1) :: (Blk b16 #[.int .i64 (0), .int .i64 (0)] 57) :: (Blk b12 (e.cells ve0).toArray 59) :: (BkV b vt1 vp2 ve3 m4 m5) :: (RwI ve0 e.deps) :: (Md1 m5 M e vd657) :: (zF yi E1 m4 (zj d M)) :: R243) w779 := hS790.sel 8 [1, 2, 3, 4, 5, 7, 0, 6] (Nat.le_add_left _ _) rfl rfl
  generalize hR795 : ((Md1 m5 M e vd657) :: (zF yi E1 m4 (zj d M)) :: R243) = R794 at hS793
  refine yn (fun mq σ wq => ∃ (k : Nat) (ρ : Env), mq = (zz (e.typ, e.agg, e.field) M).length - k ∧ σ = yp ρ [(0, .pointer (some ⟨b, 0, none⟩)), (3, .pointer (some ⟨b12, 0, none⟩)), (5, .pointer (some ⟨b16, 0, none⟩)), (6, .pointer (some ⟨b371, 0, none⟩)), (7, .pointer (some ⟨b382, 0, none⟩)), (49, vd657), (50, .int .i64 (((zz (e.typ, e.agg, e.field) M).length : Nat) : Int)), (51, .int .i64 ((k : Nat) : Int))] ∧ (k ≤ (zz (e.typ, e.agg, e.field) M).length) ∧ (∀ i, i < k → yF ((d.types.getD e.typ.toNat default).fields.getD e.field.toNat default) ((zz (e.typ, e.agg, e.field) M).getD i default) e = false) ∧ Sep G786 w779 ((BkP b382 e) :: (BkT b371 d e w236 vt1) :: (Blk b16 #[.int .i64 (0), .int .i64 (0)] 57) :: (Blk b12 (e.cells ve0).toArray 59) :: (BkV b vt1 vp2 ve3 m4 m5) :: (RwI ve0 e.deps) :: R794) wq) ⟨0, _, rfl, zp ⟨rfl, rfl, rfl, rfl, rfl, rfl, rfl, rfl, trivial⟩, Nat.zero_le _, (fun i h => absurd h (Nat.not_lt_zero i)), hS793⟩ ?_
  rintro m797 σ798 w796 ⟨k, ρl1, rfl, rfl, hkk, hno, hS799⟩
  refine zd ?_
  refine za (by kernel_rfl) (fun _ => ?_)
  refine st (zN (k := .i64) (a := ((k : Nat) : Int)) (b := (((zz (e.typ, e.agg, e.field) M).length : Nat) : Int)) rfl rfl ?_)
  refine zf ?_
  refine zd ?_
  cases hc800 : decide (((k : Nat) : Int) < (((zz (e.typ, e.agg, e.field) M).length : Nat) : Int))
  ·skip
   have hc800 := of_decide_eq_false hc800
   rw [← hR795] at hS799
   have hS801 := hk791 _ _ hS799
   have hfree := VZ hfz (fun i hi => hno i (by omega))
   refine zo rfl ?_
   refine ym ?_
   refine yd ?_
   refine zd ?_
   have hS802 := hS801.mv8
   obtain ⟨vs803, hvs804, hS805⟩ := hS802.mapoTake YX (e.typ, e.agg)
   have hS808 := hS805.mv1
   obtain ⟨vc806, rfl, hS807⟩ := YL hS808 hvs804
   have hS807t : Sep G245 w236 ((RwC vc806 (stL d (e.typ, e.agg) M)) :: (Ms1 m4 d M (e.typ, e.agg) vc806) :: (RwV vd657 (zz (e.typ, e.agg, e.field) M)) :: (BkP b382 e) :: (BkT b371 d e w236 vt1) :: (Blk b16 #[.int .i64 (0), .int .i64 (0)] 57) :: (Blk b12 (e.cells ve0).toArray 59) :: (BkV b vt1 vp2 ve3 m4 m5) :: (RwI ve0 e.deps) :: (Md1 m5 M e vd657) :: R243) w796 := hS807
   have hr809 := hS807t.row (i := 0) rfl
   have hr809s : _ * 32 ≤ _ := hr809.2
   have hS810 : Sep G245 w236 ((RwC vc806 (stL d (e.typ, e.agg) M)) :: (Ms1 m4 d M (e.typ, e.agg) vc806) :: (BkP b382 e) :: (BkT b371 d e w236 vt1) :: (Blk b12 (e.cells ve0).toArray 59) :: (BkV b vt1 vp2 ve3 m4 m5) :: (Md1 m5 M e vd657) :: (RwV vd657 (zz (e.typ, e.agg, e.field) M)) :: (RwI ve0 e.deps) :: (Blk b16 #[.int .i64 (0), .int .i64 (0)] 57) :: R243) w796 := hS807t.sel 10 [0, 1, 3, 4, 6, 7, 9, 2, 8, 5] (Nat.le_add_left _ _) rfl rfl
   generalize hR812 : ((Md1 m5 M e vd657) :: (RwV vd657 (zz (e.typ, e.agg, e.field) M)) :: (RwI ve0 e.deps) :: (Blk b16 #[.int .i64 (0), .int .i64 (0)] 57) :: R243) = R811 at hS810
   have hve9 := WQ (e.typ, e.agg) M
   refine zP ((fun TT pp0 => WF [fun vals wq => Sep G245 w236 (pp0 :: TT) wq, fun vals wq => ∃ (b893 : Nat), (vals 10 = (.pointer (some ⟨b893, 0, none⟩) : Value)) ∧ Sep G245 w236 ((Blk b893 #[.int .i64 (0), (.slice none 0 0)] 68) :: pp0 :: TT) wq, fun vals wq => ∃ (b893 : Nat), (vals 10 = (.pointer (some ⟨b893, 0, none⟩) : Value)) ∧ Sep G245 w236 ((BkS b893 M (e.typ, e.agg) vc806) :: pp0 :: TT) wq]) ((Ms1 m4 d M (e.typ, e.agg) vc806) :: (BkP b382 e) :: (BkT b371 d e w236 vt1) :: (Blk b12 (e.cells ve0).toArray 59) :: (BkV b vt1 vp2 ve3 m4 m5) :: R811) (RwC vc806 (stL d (e.typ, e.agg) M))) (AF [Vl 0 (.pointer (some ⟨b, 0, none⟩)), Vl 1 (.pointer (some ⟨b, 0, none⟩)), Vl 2 (.pointer (some ⟨b, 3, none⟩)), Vl 3 (.map (some m4)), Vl 4 (.pointer (some ⟨b382, 0, none⟩)), Vl 5 (.agg #[.int .i64 (e.typ), .int .i64 (e.agg)]), Vl 6 (.tuple #[.agg #[.int .i64 ((zX (e.typ, e.agg) M : Nat) : Int), vc806], .bool (((zj d M) (e.typ, e.agg)).isSome)]), Vl 7 (.tuple #[.agg #[.int .i64 ((zX (e.typ, e.agg) M : Nat) : Int), vc806], .bool (((zj d M) (e.typ, e.agg)).isSome)]), Vl 8 (.agg #[.int .i64 ((zX (e.typ, e.agg) M : Nat) : Int), vc806]), Vl 9 (.bool (((zj d M) (e.typ, e.agg)).isSome)), fun _ => True, fun _ => True, Vl 12 (.bool (((zj d M) (e.typ, e.agg)).isSome))]) [[], [0], [0, 1], [0, 1, 2], [], [4], [0, 1, 2, 3, 4, 5], [0, 1, 2, 3, 4, 5, 6], [0, 1, 2, 3, 4, 5, 6, 7], [0, 1, 2, 3, 4, 5, 6, 7], [], [0, 1, 2, 3, 4, 5, 6, 7, 8, 10], [0, 1, 2, 3, 4, 5, 6, 7, 8, 9, 10, 11]] [10, 11] [(0, 1), (0, 1), (0, 1), (0, 1), (0, 1), (0, 1), (0, 1), (0, 1), (0, 1), (0, 2), (0, 0), (1, 1), (2, 2)] (by kernel_rfl) (by kernel_rfl) (by kernel_rfl) rfl (by kernel_rfl) (by kernel_rfl) (fun _ h1 h2 h3 h4 _ => hS810.same h1 h2 h3 h4) ?_ (yg ⟨dA, dA, dA, dA, dA, dA, dA, dA, dA, dA, dT, dT, dA, trivial⟩) ⟨?_, ?_, ?_, ?_, ?_, ?_, ?_, ?_, ?_, ?_, ?_, ?_, ?_, trivial⟩ ?_
   ·intro k vals vals' w hv h
    have e : ∀ j ∈ ([10, 11] : List Nat), vals' j = vals j := hv
    match k, h with
    | 0, h => exact h
    | 1, h => exact (by simpa only [WF, List.getElem?_cons_zero, List.getElem?_cons_succ, e 10 (by decide)] using h)
    | 2, h => exact (by simpa only [WF, List.getElem?_cons_zero, List.getElem?_cons_succ, e 10 (by decide)] using h)
    | _ + 3, _ => trivial
   ·intro k915 vals w916 h919 h920 hW918 hA917
    refine obl rfl ?_
    exact zb (v := .pointer (some ⟨b, 0, none⟩)) rfl (fun vals' hv _ => ⟨rfl, hv⟩)
   ·intro k921 vals w922 h925 h926 hW924 hA923
    have e927 := hA923 0 (by decide)
    refine obl rfl ?_
    exact zL (b := b) (o := 0) e927 (fun vals' hv _ => ⟨rfl, hv⟩)
   ·intro k928 vals w929 h932 h933 hW931 hA930
    have e934 := hA930 1 (by decide)
    refine obl rfl ?_
    exact Xv e934 (fun vals' hv _ => ⟨rfl, hv⟩)
   ·intro k935 vals w936 h939 h940 hW938 hA937
    have hkk : k935 = 0 ∨ k935 = 1 := by have h1 : 0 ≤ k935 := h939; have h2 : k935 ≤ 1 := h940; omega
    rcases hkk with rfl | rfl
    ·skip
     have hS941 : Sep _ _ _ _ := hW938
     have e942 := hA937 2 (by decide)
     refine obl rfl ?_
     exact zg (v := .map (some m4)) Tryd.isAgg108 e942 (zh (hS941.blk (i := 5) rfl) rfl) (fun vals' hv _ => ⟨rfl, hv⟩)
    ·skip
     obtain ⟨b893, he896, hS943⟩ := hW938
     have e944 := hA937 2 (by decide)
     refine obl rfl ?_
     exact zg (v := .map (some m4)) Tryd.isAgg108 e944 (zh (hS943.blk (i := 6) rfl) rfl) (fun vals' hv _ => ⟨rfl, hv⟩)
   ·intro k945 vals w946 h949 h950 hW948 hA947
    refine obl rfl ?_
    exact WK rfl (fun vals' hv _ => ⟨rfl, hv⟩)
   ·intro k951 vals w952 h955 h956 hW954 hA953
    have hkk : k951 = 0 ∨ k951 = 1 := by have h1 : 0 ≤ k951 := h955; have h2 : k951 ≤ 1 := h956; omega
    rcases hkk with rfl | rfl
    ·skip
     have hS957 : Sep _ _ _ _ := hW954
     have e958 := hA953 4 (by decide)
     refine obl rfl ?_
     exact zl (k := 2) (cs := [.int .i64 (e.typ), .int .i64 (e.agg)]) Tryd.isAgg120 Tryd.sizeOf120 rfl e958 (CellsAt.sub (CellsAt.all (hS957.blk (i := 2) rfl)) 0 (cs2 := [.int .i64 (e.typ), .int .i64 (e.agg)]) rfl) (fun vals' hv _ => ⟨rfl, hv⟩)
    ·skip
     obtain ⟨b893, he896, hS959⟩ := hW954
     have e960 := hA953 4 (by decide)
     refine obl rfl ?_
     exact zl (k := 2) (cs := [.int .i64 (e.typ), .int .i64 (e.agg)]) Tryd.isAgg120 Tryd.sizeOf120 rfl e960 (CellsAt.sub (CellsAt.all (hS959.blk (i := 3) rfl)) 0 (cs2 := [.int .i64 (e.typ), .int .i64 (e.agg)]) rfl) (fun vals' hv _ => ⟨rfl, hv⟩)
   ·intro k961 vals w962 h965 h966 hW964 hA963
    have hkk : k961 = 0 ∨ k961 = 1 := by have h1 : 0 ≤ k961 := h965; have h2 : k961 ≤ 1 := h966; omega
    rcases hkk with rfl | rfl
    ·skip
     have hS967 : Sep _ _ _ _ := hW964
     have e968 := hA963 3 (by decide)
     have e969 := hA963 5 (by decide)
     refine obl rfl ?_
     exact xV hS967 (i := 1) rfl K2 Tryd.underlying108 Tryd.zeroValue68 e968 e969 (fun vals' hv _ => ⟨rfl, hv⟩)
    ·skip
     obtain ⟨b893, he896, hS970⟩ := hW964
     have e971 := hA963 3 (by decide)
     have e972 := hA963 5 (by decide)
     refine obl rfl ?_
     exact xV hS970 (i := 2) rfl K2 Tryd.underlying108 Tryd.zeroValue68 e971 e972 (fun vals' hv _ => ⟨rfl, hv⟩)
   ·intro k973 vals w974 h977 h978 hW976 hA975
    have e979 := hA975 6 (by decide)
    refine obl rfl ?_
    exact zb (v := .tuple #[.agg #[.int .i64 ((zX (e.typ, e.agg) M : Nat) : Int), vc806], .bool (((zj d M) (e.typ, e.agg)).isSome)]) e979 (fun vals' hv _ => ⟨rfl, hv⟩)
   ·intro k980 vals w981 h984 h985 hW983 hA982
    have e986 := hA982 7 (by decide)
    refine obl rfl ?_
    exact zH (vs := [.agg #[.int .i64 ((zX (e.typ, e.agg) M : Nat) : Int), vc806], .bool (((zj d M) (e.typ, e.agg)).isSome)]) (i := 0) (v := .agg #[.int .i64 ((zX (e.typ, e.agg) M : Nat) : Int), vc806]) e986 rfl (fun vals' hv _ => ⟨rfl, hv⟩)
   ·intro k987 vals w988 h991 h992 hW990 hA989
    have e993 := hA989 7 (by decide)
    refine obl rfl ?_
    exact zH (vs := [.agg #[.int .i64 ((zX (e.typ, e.agg) M : Nat) : Int), vc806], .bool (((zj d M) (e.typ, e.agg)).isSome)]) (i := 1) (v := .bool (((zj d M) (e.typ, e.agg)).isSome)) e993 rfl (fun vals' hv _ => ⟨rfl, hv⟩)
   ·intro k885 vals w886 h889 h890 hW888 hA887
    obtain rfl : k885 = 0 := Nat.le_antisymm h890 h889
    have hS891 : Sep _ _ _ _ := hW888
    refine obl rfl ?_
    refine (zE Tryd.zeroValue68 ?_)
    intro w894 b893 hn892
    have hS895 := hS891.new hn892
    intro vals' hv hv'
    refine ⟨?_, trivial⟩
    show ∃ (b893 : Nat), (vals' 10 = (.pointer (some ⟨b893, 0, none⟩) : Value)) ∧ Sep G245 w236 ((Blk b893 #[.int .i64 (0), (.slice none 0 0)] 68) :: (RwC vc806 (stL d (e.typ, e.agg) M)) :: (Ms1 m4 d M (e.typ, e.agg) vc806) :: (BkP b382 e) :: (BkT b371 d e w236 vt1) :: (Blk b12 (e.cells ve0).toArray 59) :: (BkV b vt1 vp2 ve3 m4 m5) :: R811) w894
    exact ⟨b893, hv, hS895⟩
   ·intro k897 vals w898 h901 h902 hW900 hA899
    obtain rfl : k897 = 1 := Nat.le_antisymm h902 h901
    obtain ⟨b893, he896, hS903⟩ := hW900
    have e904 := hA899 8 (by decide)
    refine obl rfl ?_
    refine (zy (v := .agg #[.int .i64 ((zX (e.typ, e.agg) M : Nat) : Int), vc806]) (c' := #[.int .i64 ((zX (e.typ, e.agg) M : Nat) : Int), vc806]) Tryd.sizeOf68 he896 e904 (hS903.blk (i := 0) rfl) (yj ⟨rfl, hr809.1.one, trivial⟩) (Nat.le_of_ble_eq_true rfl) rfl ?_)
    intro w905 hp906
    have hS907 := hS903.pt0 hp906
    intro vals' hv hv'
    refine ⟨?_, trivial⟩
    show ∃ (b893 : Nat), (vals' 10 = (.pointer (some ⟨b893, 0, none⟩) : Value)) ∧ Sep G245 w236 ((BkS b893 M (e.typ, e.agg) vc806) :: (RwC vc806 (stL d (e.typ, e.agg) M)) :: (Ms1 m4 d M (e.typ, e.agg) vc806) :: (BkP b382 e) :: (BkT b371 d e w236 vt1) :: (Blk b12 (e.cells ve0).toArray 59) :: (BkV b vt1 vp2 ve3 m4 m5) :: R811) w905
    exact ⟨b893, (by rw [hv' 10 (by decide)]; exact he896), hS907⟩
   ·intro k994 vals w995 h998 h999 hW997 hA996
    have e1000 := hA996 9 (by decide)
    refine obl rfl ?_
    exact ze (v := .bool (((zj d M) (e.typ, e.agg)).isSome)) e1000 (fun vals' hv _ => ⟨rfl, hv⟩)
   intro vals w1001 hW1002 hA1003
   obtain ⟨b893, he896, hS1004⟩ := hW1002
   have e1005 := hA1003 12 (by decide)
   refine yh (kv := [(0, .pointer (some ⟨b, 0, none⟩)), (3, .pointer (some ⟨b12, 0, none⟩)), (5, .pointer (some ⟨b16, 0, none⟩)), (6, .pointer (some ⟨b371, 0, none⟩)), (7, .pointer (some ⟨b382, 0, none⟩)), (49, vd657), (50, .int .i64 (((zz (e.typ, e.agg, e.field) M).length : Nat) : Int)), (51, .int .i64 ((k : Nat) : Int)), (52, .bool false), (10, .pointer (some ⟨b893, 0, none⟩)), (11, .bool (((zj d M) (e.typ, e.agg)).isSome))]) ⟨rfl, rfl, rfl, rfl, rfl, rfl, rfl, rfl, rfl, (by exact he896), (by exact e1005), trivial⟩ (fun ρw1001 => ?_)
   refine zf ?_
   refine zd ?_
   refine zd ?_
   refine za (by kernel_rfl) (fun _ => ?_)
   refine st (zb (v := .bool (((zj d M) (e.typ, e.agg)).isSome)) rfl ?_)
   refine st (yJ (a := ((zj d M) (e.typ, e.agg)).isSome) rfl ?_)
   refine zf ?_
   refine Uy (fun σ wq => ∃ (vs2 : Value) (ρ : Env), σ = yp ρ [(0, .pointer (some ⟨b, 0, none⟩)), (3, .pointer (some ⟨b12, 0, none⟩)), (5, .pointer (some ⟨b16, 0, none⟩)), (6, .pointer (some ⟨b371, 0, none⟩)), (7, .pointer (some ⟨b382, 0, none⟩)), (10, .pointer (some ⟨b893, 0, none⟩))] ∧ (vs2 = vc806 ∨ zX (e.typ, e.agg) M = 0) ∧ Sep G245 w236 ((BkS b893 M (e.typ, e.agg) vs2) :: (RwC vs2 (clL d M e)) :: (Ms1 m4 d M (e.typ, e.agg) vc806) :: (BkP b382 e) :: (BkT b371 d e w236 vt1) :: (Blk b12 (e.cells ve0).toArray 59) :: (BkV b vt1 vp2 ve3 m4 m5) :: R811) wq) ?_ ?_
   ·skip
    cases hc1006 : !(((zj d M) (e.typ, e.agg)).isSome)
    ·skip
     try simp only [zn] at hc1006
     refine zo rfl ?_
     refine zw ?_
     have hS1007 := hS1004.mv1
     rw [show stL d (e.typ, e.agg) M = (yx d (e.typ, e.agg) M) from if_neg (VI hc1006)] at hS1007
     have hS1008 := hS1007.mv1
     exact ⟨rfl, vc806, _, zp ⟨(show _ = (.pointer (some ⟨b, 0, none⟩) : Value) from rfl), (show _ = (.pointer (some ⟨b12, 0, none⟩) : Value) from rfl), (show _ = (.pointer (some ⟨b16, 0, none⟩) : Value) from rfl), (show _ = (.pointer (some ⟨b371, 0, none⟩) : Value) from rfl), (show _ = (.pointer (some ⟨b382, 0, none⟩) : Value) from rfl), (show _ = (.pointer (some ⟨b893, 0, none⟩) : Value) from rfl), trivial⟩, (.inl rfl), hS1008⟩
    ·skip
     try simp only [zn] at hc1006
     refine zq rfl ?_
     refine za (by kernel_rfl) (fun _ => ?_)
     refine st (zl (k := 1) Tryd.isAgg33 Tryd.sizeOf33 rfl rfl (CellsAt.all (hS1004.blk (i := 4) rfl)) ?_)
     refine st (zv (f := 48) (vals := [.agg ((d.types.getD e.typ.toNat default).cells (zi w236 (sb vt1) (so vt1 + e.typ.toNat * 1 + 0))).toArray]) (cap := []) rfl rfl Tryd.call48 (D_New (t := (d.types.getD e.typ.toNat default)) hde652_0 hoke652 hS1004) ?_)
     rintro v1009 w1010 ⟨_, rfl, hS1011⟩
     have hr1012 := hS1011.row (i := 0) rfl
     have hr1012s : _ * 32 ≤ _ := hr1012.2
     refine st (xm rfl ?_)
     refine stn (yK (v := v1009) (c := [.int .i64 ((zX (e.typ, e.agg) M : Nat) : Int), vc806]) (c' := [.int .i64 ((zX (e.typ, e.agg) M : Nat) : Int), v1009]) Tryd.sizeOf26 rfl rfl (hS1011.blk (i := 1) rfl) hr1012.1.one rfl rfl ?_)
     intro w1013 hp1014
     have hS1015 := hS1011.pt1 hp1014
     refine zf ?_
     have hv0 : zX (e.typ, e.agg) M = 0 := VV hc1006
     rw [show (List.replicate (d.types.getD e.typ.toNat default).fields.length (⟨0, []⟩ : Cel)) = (yx d (e.typ, e.agg) M) from (QE (d := d) hv0).symm] at hS1015
     have hS1016 : Sep G245 w236 ((BkS b893 M (e.typ, e.agg) v1009) :: (RwC v1009 (clL d M e)) :: (Ms1 m4 d M (e.typ, e.agg) vc806) :: (BkP b382 e) :: (BkT b371 d e w236 vt1) :: (Blk b12 (e.cells ve0).toArray 59) :: (BkV b vt1 vp2 ve3 m4 m5) :: R811) w1013 := hS1015.sel 8 [1, 0, 3, 4, 5, 6, 7] (Nat.le_add_left _ _) rfl rfl
     exact ⟨rfl, v1009, _, zp ⟨(show _ = (.pointer (some ⟨b, 0, none⟩) : Value) from rfl), (show _ = (.pointer (some ⟨b12, 0, none⟩) : Value) from rfl), (show _ = (.pointer (some ⟨b16, 0, none⟩) : Value) from rfl), (show _ = (.pointer (some ⟨b371, 0, none⟩) : Value) from rfl), (show _ = (.pointer (some ⟨b382, 0, none⟩) : Value) from rfl), (show _ = (.pointer (some ⟨b893, 0, none⟩) : Value) from rfl), trivial⟩, (.inr hv0), hS1016⟩
   rintro _ w1017 ⟨vs2, ρj1, rfl, hvs2, hS1018⟩
   have hr1019 := hS1018.row (i := 1) rfl
   have hr1019s : _ * 32 ≤ _ := hr1019.2
   refine zd ?_
   refine zd ?_
   refine za (by kernel_rfl) (fun _ => ?_)
   refine st (zl (k := 1) Tryd.isAgg33 Tryd.sizeOf33 rfl rfl (CellsAt.all (hS1018.blk (i := 4) rfl)) ?_)
   refine st (xm rfl ?_)
   refine st (zg (v := vs2) Tryd.isAgg26 rfl (zh (hS1018.blk (i := 0) rfl) rfl) ?_)
   refine st (Zi rfl ?_)
   refine st (zg (v := .int .i64 (e.field)) Tryd.isAgg3 rfl (zh (hS1018.blk (i := 5) rfl) rfl) ?_)
   refine st (Zk rfl ?_)
   refine st (zg (v := .int .i64 (e.op)) Tryd.isAgg3 rfl (zh (hS1018.blk (i := 5) rfl) rfl) ?_)
   refine st (Zl rfl ?_)
   refine st (zg (v := .int .i64 (e.arg)) Tryd.isAgg3 rfl (zh (hS1018.blk (i := 5) rfl) rfl) ?_)
   have hS1020 := hS1018.mv1
   obtain ⟨G1021, hA1023, hB1024, hS1025, hk1026⟩ := hS1020.lend
   have hrd1027 := RowE.rd hA1023
   have hrd1027s : _ * 32 ≤ _ := hrd1027.small
   refine st (zv (f := 16) (vals := [.agg ((d.types.getD e.typ.toNat default).cells (zi w236 (sb vt1) (so vt1 + e.typ.toNat * 1 + 0))).toArray, vs2, .int .i64 (e.field), .int .i64 (e.op), .int .i64 (e.arg)]) (cap := []) rfl rfl Tryd.call16 (D_May (t := (d.types.getD e.typ.toNat default)) (c := (yx d (e.typ, e.agg) M)) (vc := vs2) (f := e.field) (op := e.op) (arg := e.arg) (RdS.base hde652_0 hB1024) hoke652 hrd1027 oe.field oe.op oe.arg hS1025 ((hft.ask (hd.typ _ (by omega)) (hinv e.typ e.agg hf0 hf1)))) ?_)
   rintro _ w1028 ⟨rfl, hS1029⟩
   have hS1030 := hk1026 _ _ hS1029
   refine st (yz (k := .i64) (a := Zo (d.types.getD e.typ.toNat default) (yx d (e.typ, e.agg) M) e.field e.op e.arg) (b := 0) rfl rfl ?_)
   refine zf ?_
   cases hc1031 : !decide ((Zo (d.types.getD e.typ.toNat default) (yx d (e.typ, e.agg) M) e.field e.op e.arg) = 0)
   ·skip
    have hc1031 := yq hc1031
    have hT : zT d M e = (false, 0, 0) := hfree.trans (if_neg (not_not_intro hc1031))
    refine zo rfl ?_
    refine zw ?_
    refine zd ?_
    refine zP ((fun TT pp0 pp1 pp2 => WF [fun vals wq => Sep G245 w236 (pp0 :: pp1 :: pp2 :: TT) wq, fun vals wq => ∃ (v1179 : Value), (vals 18 = (v1179 : Value)) ∧ Sep G245 w236 (pp0 :: (RwC v1179 (doL (d.types.getD e.typ.toNat default) (clL d M e) e.field e.op e.arg)) :: pp1 :: pp2 :: TT) wq, fun vals wq => ∃ (v1179 : Value), (vals 18 = (v1179 : Value)) ∧ Sep G245 w236 ((zF yi E1 m4 (xd (zj d M) (e.typ, e.agg) (zX (e.typ, e.agg) M + 1, (doL (d.types.getD e.typ.toNat default) (clL d M e) e.field e.op e.arg)))) :: pp0 :: pp1 :: TT) wq]) ((BkP b382 e) :: (BkT b371 d e w236 vt1) :: (Blk b12 (e.cells ve0).toArray 59) :: (BkV b vt1 vp2 ve3 m4 m5) :: R811) (RwC vs2 (clL d M e)) (BkS b893 M (e.typ, e.agg) vs2) (Ms1 m4 d M (e.typ, e.agg) vc806)) (AF [Vl 0 (.pointer (some ⟨b, 0, none⟩)), Vl 1 (.pointer (some ⟨b, 0, none⟩)), Vl 2 (.pointer (some ⟨b, 3, none⟩)), Vl 3 (.map (some m4)), Vl 4 (.pointer (some ⟨b382, 0, none⟩)), Vl 5 (.agg #[.int .i64 (e.typ), .int .i64 (e.agg)]), Vl 6 (.pointer (some ⟨b893, 0, none⟩)), Vl 7 (.int .i64 ((zX (e.typ, e.agg) M : Nat) : Int)), Vl 8 (.int .i64 ((zX (e.typ, e.agg) M + 1 : Nat) : Int)), Vl 9 (.agg ((d.types.getD e.typ.toNat default).cells (zi w236 (sb vt1) (so vt1 + e.typ.toNat * 1 + 0))).toArray), Vl 10 (.pointer (some ⟨b893, 1, none⟩)), Vl 11 (vs2), Vl 12 (.pointer (some ⟨b12, 6, none⟩)), Vl 13 (.int .i64 (e.field)), Vl 14 (.pointer (some ⟨b12, 7, none⟩)), Vl 15 (.int .i64 (e.op)), Vl 16 (.pointer (some ⟨b12, 8, none⟩)), Vl 17 (.int .i64 (e.arg)), fun _ => True, fun vals => ∀ (v1179 : Value), vals 18 = (v1179 : Value) → vals 19 = (.agg #[.int .i64 ((zX (e.typ, e.agg) M + 1 : Nat) : Int), v1179] : Value), fun _ => True]) [[], [0], [0, 1], [0, 1, 2], [], [4], [], [6], [6, 7], [], [], [10], [], [12], [], [14], [], [16], [9, 10, 11, 12, 13, 14, 15, 16, 17], [6, 7, 8, 9, 10, 11, 12, 13, 14, 15, 16, 17, 18], [0, 1, 2, 3, 4, 5, 6, 7, 8, 9, 10, 11, 12, 13, 14, 15, 16, 17, 18, 19]] [18, 20] [(0, 1), (0, 1), (0, 1), (0, 1), (0, 1), (0, 1), (0, 1), (0, 1), (0, 1), (0, 0), (0, 0), (0, 0), (0, 0), (0, 0), (0, 0), (0, 0), (0, 0), (0, 0), (0, 0), (1, 1), (1, 1)] (by kernel_rfl) (by kernel_rfl) (by kernel_rfl) rfl (by kernel_rfl) (by kernel_rfl) (fun _ h1 h2 h3 h4 _ => hS1030.same h1 h2 h3 h4) ?_ (yg ⟨dA, dA, dA, dA, dA, dA, dA, dA, dA, dA, dA, dA, dA, dA, dA, dA, dA, dA, dT, fun vals vals' hv h => fun v1179 hq0 => (hv 19 (.inl rfl)).trans (h v1179 ((hv 18 (.inr (by decide))).symm.trans hq0)), dT, trivial⟩) ⟨?_, ?_, ?_, ?_, ?_, ?_, ?_, ?_, ?_, ?_, ?_, ?_, ?_, ?_, ?_, ?_, ?_, ?_, ?_, ?_, ?_, trivial⟩ ?_
    ·intro k vals vals' w hv h
     have e : ∀ j ∈ ([18, 20] : List Nat), vals' j = vals j := hv
     match k, h with
     | 0, h => exact h
     | 1, h => exact (by simpa only [WF, List.getElem?_cons_zero, List.getElem?_cons_succ, e 18 (by decide)] using h)
     | 2, h => exact (by simpa only [WF, List.getElem?_cons_zero, List.getElem?_cons_succ, e 18 (by decide)] using h)
     | _ + 3, _ => trivial
    ·intro k1210 vals w1211 h1214 h1215 hW1213 hA1212
     refine obl rfl ?_
     exact zb (v := .pointer (some ⟨b, 0, none⟩)) rfl (fun vals' hv _ => ⟨rfl, hv⟩)
    ·intro k1216 vals w1217 h1220 h1221 hW1219 hA1218
     have e1222 := hA1218 0 (by decide)
     refine obl rfl ?_
     exact zL (b := b) (o := 0) e1222 (fun vals' hv _ => ⟨rfl, hv⟩)
    ·intro k1223 vals w1224 h1227 h1228 hW1226 hA1225
     have e1229 := hA1225 1 (by decide)
     refine obl rfl ?_
     exact Xv e1229 (fun vals' hv _ => ⟨rfl, hv⟩)
    ·intro k1230 vals w1231 h1234 h1235 hW1233 hA1232
     have hkk : k1230 = 0 ∨ k1230 = 1 := by have h1 : 0 ≤ k1230 := h1234; have h2 : k1230 ≤ 1 := h1235; omega
     rcases hkk with rfl | rfl
     ·skip
      have hS1236 : Sep _ _ _ _ := hW1233
      have e1237 := hA1232 2 (by decide)
      refine obl rfl ?_
      exact zg (v := .map (some m4)) Tryd.isAgg108 e1237 (zh (hS1236.blk (i := 6) rfl) rfl) (fun vals' hv _ => ⟨rfl, hv⟩)
     ·skip
      obtain ⟨v1179, he1184, hS1238⟩ := hW1233
      have e1239 := hA1232 2 (by decide)
      refine obl rfl ?_
      exact zg (v := .map (some m4)) Tryd.isAgg108 e1239 (zh (hS1238.blk (i := 7) rfl) rfl) (fun vals' hv _ => ⟨rfl, hv⟩)
    ·intro k1240 vals w1241 h1244 h1245 hW1243 hA1242
     refine obl rfl ?_
     exact WK rfl (fun vals' hv _ => ⟨rfl, hv⟩)
    ·intro k1246 vals w1247 h1250 h1251 hW1249 hA1248
     have hkk : k1246 = 0 ∨ k1246 = 1 := by have h1 : 0 ≤ k1246 := h1250; have h2 : k1246 ≤ 1 := h1251; omega
     rcases hkk with rfl | rfl
     ·skip
      have hS1252 : Sep _ _ _ _ := hW1249
      have e1253 := hA1248 4 (by decide)
      refine obl rfl ?_
      exact zl (k := 2) (cs := [.int .i64 (e.typ), .int .i64 (e.agg)]) Tryd.isAgg120 Tryd.sizeOf120 rfl e1253 (CellsAt.sub (CellsAt.all (hS1252.blk (i := 3) rfl)) 0 (cs2 := [.int .i64 (e.typ), .int .i64 (e.agg)]) rfl) (fun vals' hv _ => ⟨rfl, hv⟩)
     ·skip
      obtain ⟨v1179, he1184, hS1254⟩ := hW1249
      have e1255 := hA1248 4 (by decide)
      refine obl rfl ?_
      exact zl (k := 2) (cs := [.int .i64 (e.typ), .int .i64 (e.agg)]) Tryd.isAgg120 Tryd.sizeOf120 rfl e1255 (CellsAt.sub (CellsAt.all (hS1254.blk (i := 4) rfl)) 0 (cs2 := [.int .i64 (e.typ), .int .i64 (e.agg)]) rfl) (fun vals' hv _ => ⟨rfl, hv⟩)
    ·intro k1256 vals w1257 h1260 h1261 hW1259 hA1258
     refine obl rfl ?_
     exact VE rfl (fun vals' hv _ => ⟨rfl, hv⟩)
    ·intro k1262 vals w1263 h1266 h1267 hW1265 hA1264
     have hkk : k1262 = 0 ∨ k1262 = 1 := by have h1 : 0 ≤ k1262 := h1266; have h2 : k1262 ≤ 1 := h1267; omega
     rcases hkk with rfl | rfl
     ·skip
      have hS1268 : Sep _ _ _ _ := hW1265
      have e1269 := hA1264 6 (by decide)
      refine obl rfl ?_
      exact zg (v := .int .i64 ((zX (e.typ, e.agg) M : Nat) : Int)) Tryd.isAgg3 e1269 (zh (hS1268.blk (i := 1) rfl) rfl) (fun vals' hv _ => ⟨rfl, hv⟩)
     ·skip
      obtain ⟨v1179, he1184, hS1270⟩ := hW1265
      have e1271 := hA1264 6 (by decide)
      refine obl rfl ?_
      exact zg (v := .int .i64 ((zX (e.typ, e.agg) M : Nat) : Int)) Tryd.isAgg3 e1271 (zh (hS1270.blk (i := 2) rfl) rfl) (fun vals' hv _ => ⟨rfl, hv⟩)
    ·intro k1272 vals w1273 h1276 h1277 hW1275 hA1274
     have hkk : k1272 = 0 ∨ k1272 = 1 := by have h1 : 0 ≤ k1272 := h1276; have h2 : k1272 ≤ 1 := h1277; omega
     rcases hkk with rfl | rfl
     ·skip
      have hS1278 : Sep _ _ _ _ := hW1275
      have e1279 := hA1274 7 (by decide)
      refine obl rfl ?_
      have hr1280 : InR ((zX (e.typ, e.agg) M + 1 : Nat) : Int) := by first | omega | (simp only [lens]; omega)
      exact ye (r := ((zX (e.typ, e.agg) M + 1 : Nat) : Int)) (k := .i64) (a := ((zX (e.typ, e.agg) M : Nat) : Int)) (b := 1) e1279 rfl (by rw [show (((zX (e.typ, e.agg) M : Nat) : Int) + 1 : Int) = ((zX (e.typ, e.agg) M + 1 : Nat) : Int) by first | omega | (simp only [lens]; omega)]; exact zQ hr1280) (fun vals' hv _ => ⟨rfl, hv⟩)
     ·skip
      obtain ⟨v1179, he1184, hS1281⟩ := hW1275
      have e1282 := hA1274 7 (by decide)
      refine obl rfl ?_
      have hr1283 : InR ((zX (e.typ, e.agg) M + 1 : Nat) : Int) := by first | omega | (simp only [lens]; omega)
      exact ye (r := ((zX (e.typ, e.agg) M + 1 : Nat) : Int)) (k := .i64) (a := ((zX (e.typ, e.agg) M : Nat) : Int)) (b := 1) e1282 rfl (by rw [show (((zX (e.typ, e.agg) M : Nat) : Int) + 1 : Int) = ((zX (e.typ, e.agg) M + 1 : Nat) : Int) by first | omega | (simp only [lens]; omega)]; exact zQ hr1283) (fun vals' hv _ => ⟨rfl, hv⟩)
    ·intro k1284 vals w1285 h1288 h1289 hW1287 hA1286
     obtain rfl : k1284 = 0 := Nat.le_antisymm h1289 h1288
     have hS1290 : Sep _ _ _ _ := hW1287
     refine obl rfl ?_
     exact zl (k := 1) Tryd.isAgg33 Tryd.sizeOf33 rfl rfl (CellsAt.all (hS1290.blk (i := 4) rfl)) (fun vals' hv _ => ⟨rfl, hv⟩)
    ·intro k1291 vals w1292 h1295 h1296 hW1294 hA1293
     refine obl rfl ?_
     exact xm rfl (fun vals' hv _ => ⟨rfl, hv⟩)
    ·intro k1297 vals w1298 h1301 h1302 hW1300 hA1299
     obtain rfl : k1297 = 0 := Nat.le_antisymm h1302 h1301
     have hS1303 : Sep _ _ _ _ := hW1300
     have e1304 := hA1299 10 (by decide)
     refine obl rfl ?_
     exact zg (v := vs2) Tryd.isAgg26 e1304 (zh (hS1303.blk (i := 1) rfl) rfl) (fun vals' hv _ => ⟨rfl, hv⟩)
    ·intro k1305 vals w1306 h1309 h1310 hW1308 hA1307
     refine obl rfl ?_
     exact Zi rfl (fun vals' hv _ => ⟨rfl, hv⟩)
    ·intro k1311 vals w1312 h1315 h1316 hW1314 hA1313
     obtain rfl : k1311 = 0 := Nat.le_antisymm h1316 h1315
     have hS1317 : Sep _ _ _ _ := hW1314
     have e1318 := hA1313 12 (by decide)
     refine obl rfl ?_
     exact zg (v := .int .i64 (e.field)) Tryd.isAgg3 e1318 (zh (hS1317.blk (i := 5) rfl) rfl) (fun vals' hv _ => ⟨rfl, hv⟩)
    ·intro k1319 vals w1320 h1323 h1324 hW1322 hA1321
     refine obl rfl ?_
     exact Zk rfl (fun vals' hv _ => ⟨rfl, hv⟩)
    ·intro k1325 vals w1326 h1329 h1330 hW1328 hA1327
     obtain rfl : k1325 = 0 := Nat.le_antisymm h1330 h1329
     have hS1331 : Sep _ _ _ _ := hW1328
     have e1332 := hA1327 14 (by decide)
     refine obl rfl ?_
     exact zg (v := .int .i64 (e.op)) Tryd.isAgg3 e1332 (zh (hS1331.blk (i := 5) rfl) rfl) (fun vals' hv _ => ⟨rfl, hv⟩)
    ·intro k1333 vals w1334 h1337 h1338 hW1336 hA1335
     refine obl rfl ?_
     exact Zl rfl (fun vals' hv _ => ⟨rfl, hv⟩)
    ·intro k1339 vals w1340 h1343 h1344 hW1342 hA1341
     obtain rfl : k1339 = 0 := Nat.le_antisymm h1344 h1343
     have hS1345 : Sep _ _ _ _ := hW1342
     have e1346 := hA1341 16 (by decide)
     refine obl rfl ?_
     exact zg (v := .int .i64 (e.arg)) Tryd.isAgg3 e1346 (zh (hS1345.blk (i := 5) rfl) rfl) (fun vals' hv _ => ⟨rfl, hv⟩)
    ·intro k1160 vals w1161 h1164 h1165 hW1163 hA1162
     obtain rfl : k1160 = 0 := Nat.le_antisymm h1165 h1164
     have hS1166 : Sep _ _ _ _ := hW1163
     have e1167 := hA1162 9 (by decide)
     have e1168 := hA1162 11 (by decide)
     have e1169 := hA1162 13 (by decide)
     have e1170 := hA1162 15 (by decide)
     have e1171 := hA1162 17 (by decide)
     refine obl rfl ?_
     obtain ⟨G1172, hA1174, hB1175, hS1176, hk1177⟩ := hS1166.lend
     have hrd1178 := RowE.rd hA1174
     have hrd1178s : _ * 32 ≤ _ := hrd1178.small
     refine (zv (f := 17) (vals := [.agg ((d.types.getD e.typ.toNat default).cells (zi w236 (sb vt1) (so vt1 + e.typ.toNat * 1 + 0))).toArray, vs2, .int .i64 (e.field), .int .i64 (e.op), .int .i64 (e.arg)]) (cap := []) rfl (xj ⟨e1167, e1168, e1169, e1170, e1171, trivial⟩) Tryd.call17 (D_Do (t := (d.types.getD e.typ.toNat default)) (c := (yx d (e.typ, e.agg) M)) (vc := vs2) (f := e.field) (op := e.op) (arg := e.arg) (RdS.base hde652_0 hB1175) hoke652 hrd1178 oe.field oe.op oe.arg hS1176 ((hft.ask (hd.typ _ (by omega)) (hinv e.typ e.agg hf0 hf1))) ((fun _ => QG (hinv e.typ e.agg hf0 hf1) hfl hfh))) ?_)
     rintro v1179 w1180 ⟨_, rfl, hS1181⟩
     have hr1182 := hS1181.row (i := 0) rfl
     have hr1182s : _ * 32 ≤ _ := hr1182.2
     have hS1183 := hk1177 _ _ hS1181
     intro vals' hv hv'
     refine ⟨?_, trivial⟩
     show ∃ (v1179 : Value), (vals' 18 = (v1179 : Value)) ∧ Sep G245 w236 ((RwC vs2 (clL d M e)) :: (RwC v1179 (doL (d.types.getD e.typ.toNat default) (clL d M e) e.field e.op e.arg)) :: (BkS b893 M (e.typ, e.agg) vs2) :: (Ms1 m4 d M (e.typ, e.agg) vc806) :: (BkP b382 e) :: (BkT b371 d e w236 vt1) :: (Blk b12 (e.cells ve0).toArray 59) :: (BkV b vt1 vp2 ve3 m4 m5) :: R811) w1180
     exact ⟨v1179, hv, hS1183⟩
    ·intro k1347 vals w1348 h1351 h1352 hW1350 hA1349
     obtain rfl : k1347 = 1 := Nat.le_antisymm h1352 h1351
     obtain ⟨v1179, he1184, hS1353⟩ := hW1350
     have e1354 := hA1349 8 (by decide)
     refine obl rfl ?_
     have hr1356 := hS1353.row (i := 1) rfl
     have hr1356s : _ * 32 ≤ _ := hr1356.2
     refine zS (parts' := [(0, .int .i64 ((zX (e.typ, e.agg) M + 1 : Nat) : Int)), (1, v1179)]) (v := .agg #[.int .i64 ((zX (e.typ, e.agg) M + 1 : Nat) : Int), v1179]) (xE ⟨rfl, e1354, rfl, he1184, trivial⟩) (by obtain ⟨_, _, hv1355, _⟩ := hr1356.1; rw [show v1179 = Value.slice _ _ _ from hv1355]; simp [Instr.build, Instr.fill, Ev.cells, go_sem, Mv.cells, Fld.cells, Typ.cells, Prj.cells, Dcl.cells, Cel.cells, AskR.cells, Ask.cells, CelS.cells, Ev.cells, Ent.cells, Sta.cells]) (fun vals' hv hv' => ⟨rfl, ?_⟩)
     intro v1179q hq0
     rw [hv' 18 (by decide)] at hq0; cases he1184.symm.trans hq0
     exact hv
    ·intro k1195 vals w1196 h1199 h1200 hW1198 hA1197
     obtain rfl : k1195 = 1 := Nat.le_antisymm h1200 h1199
     obtain ⟨v1179, he1184, hS1201⟩ := hW1198
     have e1202 := hA1197 3 (by decide)
     have e1203 := hA1197 5 (by decide)
     have e1204 : vals 19 = (.agg #[.int .i64 ((zX (e.typ, e.agg) M + 1 : Nat) : Int), v1179] : Value) := hA1197 19 (by decide) v1179 he1184
     refine obl rfl ?_
     have hS1206 := hS1201.mv1
     have hS1207 : Sep G245 w236 ((E1 (.agg #[.int .i64 ((zX (e.typ, e.agg) M + 1 : Nat) : Int), v1179]) (zX (e.typ, e.agg) M + 1, (doL (d.types.getD e.typ.toNat default) (clL d M e) e.field e.op e.arg))) :: (RwC vs2 (clL d M e)) :: (BkS b893 M (e.typ, e.agg) vs2) :: (Ms1 m4 d M (e.typ, e.agg) vc806) :: (BkP b382 e) :: (BkT b371 d e w236 vt1) :: (Blk b12 (e.cells ve0).toArray 59) :: (BkV b vt1 vp2 ve3 m4 m5) :: R811) w1196 := Vp (n := zX (e.typ, e.agg) M + 1) hS1206
     have hS1208 := hS1207.mv3
     refine (YD hS1208 K2 Tryd.underlying108 e1202 e1203 e1204 ?_)
     intro w1205 hS1209
     have hS1209t : Sep G245 w236 ((zF yi E1 m4 (xd (zj d M) (e.typ, e.agg) (zX (e.typ, e.agg) M + 1, (doL (d.types.getD e.typ.toNat default) (clL d M e) e.field e.op e.arg)))) :: (RwC vs2 (clL d M e)) :: (BkS b893 M (e.typ, e.agg) vs2) :: (BkP b382 e) :: (BkT b371 d e w236 vt1) :: (Blk b12 (e.cells ve0).toArray 59) :: (BkV b vt1 vp2 ve3 m4 m5) :: R811) w1205 := hS1209
     intro vals' hv hv'
     refine ⟨?_, trivial⟩
     show ∃ (v1179 : Value), (vals' 18 = (v1179 : Value)) ∧ Sep G245 w236 ((zF yi E1 m4 (xd (zj d M) (e.typ, e.agg) (zX (e.typ, e.agg) M + 1, (doL (d.types.getD e.typ.toNat default) (clL d M e) e.field e.op e.arg)))) :: (RwC vs2 (clL d M e)) :: (BkS b893 M (e.typ, e.agg) vs2) :: (BkP b382 e) :: (BkT b371 d e w236 vt1) :: (Blk b12 (e.cells ve0).toArray 59) :: (BkV b vt1 vp2 ve3 m4 m5) :: R811) w1205
     exact ⟨v1179, (by rw [hv' 18 (by decide)]; exact he1184), hS1209t⟩
    intro vals w1357 hW1358 hA1359
    obtain ⟨v1179, he1184, hS1360⟩ := hW1358
    refine yh (kv := [(0, .pointer (some ⟨b, 0, none⟩)), (3, .pointer (some ⟨b12, 0, none⟩)), (5, .pointer (some ⟨b16, 0, none⟩)), (6, .pointer (some ⟨b371, 0, none⟩)), (7, .pointer (some ⟨b382, 0, none⟩)), (10, .pointer (some ⟨b893, 0, none⟩)), (82, .agg ((d.types.getD e.typ.toNat default).cells (zi w236 (sb vt1) (so vt1 + e.typ.toNat * 1 + 0))).toArray), (83, .pointer (some ⟨b893, 1, none⟩)), (84, vs2), (85, .pointer (some ⟨b12, 6, none⟩)), (86, .int .i64 (e.field)), (87, .pointer (some ⟨b12, 7, none⟩)), (88, .int .i64 (e.op)), (89, .pointer (some ⟨b12, 8, none⟩)), (90, .int .i64 (e.arg)), (91, .int .i64 (Zo (d.types.getD e.typ.toNat default) (yx d (e.typ, e.agg) M) e.field e.op e.arg)), (92, .bool false)]) ⟨rfl, rfl, rfl, rfl, rfl, rfl, rfl, rfl, rfl, rfl, rfl, rfl, rfl, rfl, rfl, rfl, rfl, trivial⟩ (fun ρw1357 => ?_)
    refine zf ?_
    refine zd ?_
    rw [← hR812] at hS1360
    refine zP ((fun TT pp0 pp1 pp2 pp3 pp4 pp5 pp6 pp7 pp8 pp9 => WF [fun vals wq => Sep G245 w236 (pp0 :: pp1 :: pp2 :: pp3 :: pp4 :: pp5 :: pp6 :: pp7 :: pp8 :: pp9 :: TT) wq, fun vals wq => ∃ (b1412 : Nat), (vals 6 = ((.slice (some ⟨b1412, 0, none⟩) 1 1) : Value)) ∧ Sep G245 w236 ((Blk b1412 (e.cells ve0).toArray 59) :: pp0 :: pp1 :: pp2 :: pp3 :: pp4 :: pp5 :: pp6 :: pp7 :: pp8 :: pp9 :: TT) wq, fun vals wq => ∃ (b1412 : Nat) (sn1426 : Int), (vals 6 = ((.slice (some ⟨b1412, 0, none⟩) 1 1) : Value)) ∧ (vals 7 = (.tuple #[vd657, .int .i64 sn1426] : Value)) ∧ Sep G245 w236 ((Zs yr E2 m5 (zI M) (e.typ, e.agg, e.field) sn1426) :: (Blk b1412 (e.cells ve0).toArray 59) :: pp0 :: pp1 :: pp2 :: pp3 :: pp4 :: pp5 :: pp6 :: pp8 :: pp9 :: TT) wq, fun vals wq => ∃ (b1412 : Nat) (sn1426 : Int) (v1446 : Value), (vals 6 = ((.slice (some ⟨b1412, 0, none⟩) 1 1) : Value)) ∧ (vals 7 = (.tuple #[vd657, .int .i64 sn1426] : Value)) ∧ (vals 9 = (v1446 : Value)) ∧ Sep G245 w236 ((RwV v1446 ((zz (e.typ, e.agg, e.field) M) ++ [e])) :: (Zs yr E2 m5 (zI M) (e.typ, e.agg, e.field) sn1426) :: pp0 :: pp1 :: pp2 :: pp3 :: pp4 :: pp5 :: pp6 :: TT) wq, fun vals wq => ∃ (b1412 : Nat) (sn1426 : Int) (v1446 : Value), (vals 6 = ((.slice (some ⟨b1412, 0, none⟩) 1 1) : Value)) ∧ (vals 7 = (.tuple #[vd657, .int .i64 sn1426] : Value)) ∧ (vals 9 = (v1446 : Value)) ∧ Sep G245 w236 ((zF yr E2 m5 (xd (zI M) (e.typ, e.agg, e.field) ((zz (e.typ, e.agg, e.field) M) ++ [e]))) :: pp0 :: pp1 :: pp2 :: pp3 :: pp4 :: pp5 :: pp6 :: TT) wq]) ((Blk b16 #[.int .i64 (0), .int .i64 (0)] 57) :: R243) (zF yi E1 m4 (xd (zj d M) (e.typ, e.agg) (zX (e.typ, e.agg) M + 1, (doL (d.types.getD e.typ.toNat default) (clL d M e) e.field e.op e.arg)))) (RwC vs2 (clL d M e)) (BkS b893 M (e.typ, e.agg) vs2) (BkP b382 e) (BkT b371 d e w236 vt1) (Blk b12 (e.cells ve0).toArray 59) (BkV b vt1 vp2 ve3 m4 m5) (Md1 m5 M e vd657) (RwV vd657 (zz (e.typ, e.agg, e.field) M)) (RwI ve0 e.deps)) (AF [Vl 0 (.pointer (some ⟨b, 0, none⟩)), Vl 1 (.pointer (some ⟨b, 0, none⟩)), Vl 2 (.pointer (some ⟨b, 4, none⟩)), Vl 3 (.map (some m5)), Vl 4 (.agg #[.int .i64 (e.typ), .int .i64 (e.agg), .int .i64 (e.field)]), Vl 5 (.agg (e.cells ve0).toArray), fun _ => True, fun _ => True, Vl 8 (vd657), fun _ => True, fun vals => ∀ (sn1426 : Int), vals 7 = (.tuple #[vd657, .int .i64 sn1426] : Value) → vals 10 = (.int .i64 (sn1426) : Value), fun _ => True]) [[], [0], [0, 1], [0, 1, 2], [], [], [5], [0, 1, 2, 3, 4, 5, 6], [0, 1, 2, 3, 4, 5, 6, 7], [0, 1, 2, 3, 4, 5, 6, 7, 8], [0, 1, 2, 3, 4, 5, 6, 7], [0, 1, 2, 3, 4, 5, 6, 7, 8, 9, 10]] [6, 7, 9, 11] [(0, 1), (0, 1), (0, 1), (0, 1), (0, 1), (0, 0), (0, 0), (1, 1), (2, 2), (2, 2), (2, 3), (3, 3)] (by kernel_rfl) (by kernel_rfl) (by kernel_rfl) rfl (by kernel_rfl) (by kernel_rfl) (fun _ h1 h2 h3 h4 _ => hS1360.same h1 h2 h3 h4) ?_ (yg ⟨dA, dA, dA, dA, dA, dA, dT, dT, dA, dT, fun vals vals' hv h => fun sn1426 hq0 => (hv 10 (.inl rfl)).trans (h sn1426 ((hv 7 (.inr (by decide))).symm.trans hq0)), dT, trivial⟩) ⟨?_, ?_, ?_, ?_, ?_, ?_, ?_, ?_, ?_, ?_, ?_, ?_, trivial⟩ ?_
    ·intro k vals vals' w hv h
     have e : ∀ j ∈ ([6, 7, 9, 11] : List Nat), vals' j = vals j := hv
     match k, h with
     | 0, h => exact h
     | 1, h => exact (by simpa only [WF, List.getElem?_cons_zero, List.getElem?_cons_succ, e 6 (by decide)] using h)
     | 2, h => exact (by simpa only [WF, List.getElem?_cons_zero, List.getElem?_cons_succ, e 6 (by decide), e 7 (by decide)] using h)
     | 3, h => exact (by simpa only [WF, List.getElem?_cons_zero, List.getElem?_cons_succ, e 6 (by decide), e 7 (by decide), e 9 (by decide)] using h)
     | 4, h => exact (by simpa only [WF, List.getElem?_cons_zero, List.getElem?_cons_succ, e 6 (by decide), e 7 (by decide), e 9 (by decide)] using h)
     | _ + 5, _ => trivial
    ·intro k1471 vals w1472 h1475 h1476 hW1474 hA1473
     refine obl rfl ?_
     exact zb (v := .pointer (some ⟨b, 0, none⟩)) rfl (fun vals' hv _ => ⟨rfl, hv⟩)
    ·intro k1477 vals w1478 h1481 h1482 hW1480 hA1479
     have e1483 := hA1479 0 (by decide)
     refine obl rfl ?_
     exact zL (b := b) (o := 0) e1483 (fun vals' hv _ => ⟨rfl, hv⟩)
    ·intro k1484 vals w1485 h1488 h1489 hW1487 hA1486
     have e1490 := hA1486 1 (by decide)
     refine obl rfl ?_
     exact WI e1490 (fun vals' hv _ => ⟨rfl, hv⟩)
    ·intro k1491 vals w1492 h1495 h1496 hW1494 hA1493
     have hkk : k1491 = 0 ∨ k1491 = 1 := by have h1 : 0 ≤ k1491 := h1495; have h2 : k1491 ≤ 1 := h1496; omega
     rcases hkk with rfl | rfl
     ·skip
      have hS1497 : Sep _ _ _ _ := hW1494
      have e1498 := hA1493 2 (by decide)
      refine obl rfl ?_
      exact zg (v := .map (some m5)) Tryd.isAgg109 e1498 (zh (hS1497.blk (i := 6) rfl) rfl) (fun vals' hv _ => ⟨rfl, hv⟩)
     ·skip
      obtain ⟨b1412, he1415, hS1499⟩ := hW1494
      have e1500 := hA1493 2 (by decide)
      refine obl rfl ?_
      exact zg (v := .map (some m5)) Tryd.isAgg109 e1500 (zh (hS1499.blk (i := 7) rfl) rfl) (fun vals' hv _ => ⟨rfl, hv⟩)
    ·intro k1501 vals w1502 h1505 h1506 hW1504 hA1503
     have hkk : k1501 = 0 ∨ k1501 = 1 := by have h1 : 0 ≤ k1501 := h1505; have h2 : k1501 ≤ 1 := h1506; omega
     rcases hkk with rfl | rfl
     ·skip
      have hS1507 : Sep _ _ _ _ := hW1504
      refine obl rfl ?_
      exact zl (k := 3) Tryd.isAgg133 Tryd.sizeOf133 rfl rfl (CellsAt.all (hS1507.blk (i := 3) rfl)) (fun vals' hv _ => ⟨rfl, hv⟩)
     ·skip
      obtain ⟨b1412, he1415, hS1508⟩ := hW1504
      refine obl rfl ?_
      exact zl (k := 3) Tryd.isAgg133 Tryd.sizeOf133 rfl rfl (CellsAt.all (hS1508.blk (i := 4) rfl)) (fun vals' hv _ => ⟨rfl, hv⟩)
    ·intro k1509 vals w1510 h1513 h1514 hW1512 hA1511
     obtain rfl : k1509 = 0 := Nat.le_antisymm h1514 h1513
     have hS1515 : Sep _ _ _ _ := hW1512
     refine obl rfl ?_
     exact zl (k := 10) Tryd.isAgg59 Tryd.sizeOf59 rfl rfl (CellsAt.all (hS1515.blk (i := 5) rfl)) (fun vals' hv _ => ⟨rfl, hv⟩)
    ·intro k1403 vals w1404 h1407 h1408 hW1406 hA1405
     obtain rfl : k1403 = 0 := Nat.le_antisymm h1408 h1407
     have hS1409 : Sep _ _ _ _ := hW1406
     have e1410 := hA1405 5 (by decide)
     refine obl rfl ?_
     refine (zB (k := 10) (parts' := [(0, .agg (e.cells ve0).toArray)]) (c := (e.cells ve0).toArray) Tryd.underlying47 Tryd.sizeOf59 Tryd.zeroValue59 (by decide) (xE ⟨rfl, e1410, trivial⟩) (by kernel_rfl) ?_)
     intro w1413 b1412 hn1411
     have hS1414 := hS1409.new hn1411
     intro vals' hv hv'
     refine ⟨?_, trivial⟩
     show ∃ (b1412 : Nat), (vals' 6 = ((.slice (some ⟨b1412, 0, none⟩) 1 1) : Value)) ∧ Sep G245 w236 ((Blk b1412 (e.cells ve0).toArray 59) :: (zF yi E1 m4 (xd (zj d M) (e.typ, e.agg) (zX (e.typ, e.agg) M + 1, (doL (d.types.getD e.typ.toNat default) (clL d M e) e.field e.op e.arg)))) :: (RwC vs2 (clL d M e)) :: (BkS b893 M (e.typ, e.agg) vs2) :: (BkP b382 e) :: (BkT b371 d e w236 vt1) :: (Blk b12 (e.cells ve0).toArray 59) :: (BkV b vt1 vp2 ve3 m4 m5) :: (Md1 m5 M e vd657) :: (RwV vd657 (zz (e.typ, e.agg, e.field) M)) :: (RwI ve0 e.deps) :: (Blk b16 #[.int .i64 (0), .int .i64 (0)] 57) :: R243) w1413
     exact ⟨b1412, hv, hS1414⟩
    ·intro k1416 vals w1417 h1420 h1421 hW1419 hA1418
     obtain rfl : k1416 = 1 := Nat.le_antisymm h1421 h1420
     obtain ⟨b1412, he1415, hS1422⟩ := hW1419
     have e1423 := hA1418 3 (by decide)
     have e1424 := hA1418 4 (by decide)
     refine obl rfl ?_
     have hS1427 := hS1422.mv8
     refine (Xp hS1427 K3 Tryd.underlying109 Tryd.zeroValue47 e1423 e1424 ?_)
     intro w1425 sn1426 hS1428
     intro vals' hv hv'
     refine ⟨?_, trivial⟩
     show ∃ (b1412 : Nat) (sn1426 : Int), (vals' 6 = ((.slice (some ⟨b1412, 0, none⟩) 1 1) : Value)) ∧ (vals' 7 = (.tuple #[vd657, .int .i64 sn1426] : Value)) ∧ Sep G245 w236 ((Zs yr E2 m5 (zI M) (e.typ, e.agg, e.field) sn1426) :: (Blk b1412 (e.cells ve0).toArray 59) :: (zF yi E1 m4 (xd (zj d M) (e.typ, e.agg) (zX (e.typ, e.agg) M + 1, (doL (d.types.getD e.typ.toNat default) (clL d M e) e.field e.op e.arg)))) :: (RwC vs2 (clL d M e)) :: (BkS b893 M (e.typ, e.agg) vs2) :: (BkP b382 e) :: (BkT b371 d e w236 vt1) :: (Blk b12 (e.cells ve0).toArray 59) :: (BkV b vt1 vp2 ve3 m4 m5) :: (RwV vd657 (zz (e.typ, e.agg, e.field) M)) :: (RwI ve0 e.deps) :: (Blk b16 #[.int .i64 (0), .int .i64 (0)] 57) :: R243) w1425
     exact ⟨b1412, sn1426, (by rw [hv' 6 (by decide)]; exact he1415), hv, hS1428⟩
    ·intro k1516 vals w1517 h1520 h1521 hW1519 hA1518
     obtain rfl : k1516 = 2 := Nat.le_antisymm h1521 h1520
     obtain ⟨b1412, sn1426, he1415, he1429, hS1522⟩ := hW1519
     refine obl rfl ?_
     exact zH (vs := [vd657, .int .i64 (sn1426)]) (i := 0) (v := vd657) he1429 rfl (fun vals' hv _ => ⟨rfl, hv⟩)
    ·intro k1437 vals w1438 h1441 h1442 hW1440 hA1439
     obtain rfl : k1437 = 2 := Nat.le_antisymm h1442 h1441
     obtain ⟨b1412, sn1426, he1415, he1429, hS1443⟩ := hW1440
     have e1444 := hA1439 8 (by decide)
     refine obl rfl ?_
     have hbk1448 := hS1443.blk (i := 1) rfl
     have hS1449 : Sep G245 w236 ((RwV vd657 (zz (e.typ, e.agg, e.field) M)) :: (RwI ve0 e.deps) :: (Zs yr E2 m5 (zI M) (e.typ, e.agg, e.field) sn1426) :: (zF yi E1 m4 (xd (zj d M) (e.typ, e.agg) (zX (e.typ, e.agg) M + 1, (doL (d.types.getD e.typ.toNat default) (clL d M e) e.field e.op e.arg)))) :: (RwC vs2 (clL d M e)) :: (BkS b893 M (e.typ, e.agg) vs2) :: (BkP b382 e) :: (BkT b371 d e w236 vt1) :: (Blk b12 (e.cells ve0).toArray 59) :: (BkV b vt1 vp2 ve3 m4 m5) :: (Blk b16 #[.int .i64 (0), .int .i64 (0)] 57) :: R243) w1438 := hS1443.sel 12 [9, 10, 0, 2, 3, 4, 5, 6, 7, 8, 11] (Nat.le_add_left _ _) rfl rfl
     refine (yG (src := own) (bytes := 96) (x1 := e) hS1449 el47 e1444 he1415 hbk1448 (fun _ _ hN => ⟨_, rfl, RowE.soft hN, oe⟩) (by first | omega | (simp only [List.length_append, List.length_cons, List.length_nil, List.length_take, List.length_drop]; omega)) rfl ?_)
     intro v1446 w1445 hS1447
     have hr1450 := hS1447.row (i := 0) rfl
     have hr1450s : _ * 96 ≤ _ := hr1450.2
     intro vals' hv hv'
     refine ⟨?_, trivial⟩
     show ∃ (b1412 : Nat) (sn1426 : Int) (v1446 : Value), (vals' 6 = ((.slice (some ⟨b1412, 0, none⟩) 1 1) : Value)) ∧ (vals' 7 = (.tuple #[vd657, .int .i64 sn1426] : Value)) ∧ (vals' 9 = (v1446 : Value)) ∧ Sep G245 w236 ((RwV v1446 ((zz (e.typ, e.agg, e.field) M) ++ [e])) :: (Zs yr E2 m5 (zI M) (e.typ, e.agg, e.field) sn1426) :: (zF yi E1 m4 (xd (zj d M) (e.typ, e.agg) (zX (e.typ, e.agg) M + 1, (doL (d.types.getD e.typ.toNat default) (clL d M e) e.field e.op e.arg)))) :: (RwC vs2 (clL d M e)) :: (BkS b893 M (e.typ, e.agg) vs2) :: (BkP b382 e) :: (BkT b371 d e w236 vt1) :: (Blk b12 (e.cells ve0).toArray 59) :: (BkV b vt1 vp2 ve3 m4 m5) :: (Blk b16 #[.int .i64 (0), .int .i64 (0)] 57) :: R243) w1445
     exact ⟨b1412, sn1426, v1446, (by rw [hv' 6 (by decide)]; exact he1415), (by rw [hv' 7 (by decide)]; exact he1429), hv, hS1447⟩
    ·intro k1523 vals w1524 h1527 h1528 hW1526 hA1525
     have hkk : k1523 = 2 ∨ k1523 = 3 := by have h1 : 2 ≤ k1523 := h1527; have h2 : k1523 ≤ 3 := h1528; omega
     rcases hkk with rfl | rfl
     ·skip
      obtain ⟨b1412, sn1426, he1415, he1429, hS1529⟩ := hW1526
      refine obl rfl ?_
      refine zH (vs := [vd657, .int .i64 (sn1426)]) (i := 1) (v := .int .i64 (sn1426)) he1429 rfl (fun vals' hv hv' => ⟨rfl, ?_⟩)
      intro sn1426q hq0
      rw [hv' 7 (by decide)] at hq0; cases he1429.symm.trans hq0
      exact hv
     ·skip
      obtain ⟨b1412, sn1426, v1446, he1415, he1429, he1451, hS1530⟩ := hW1526
      refine obl rfl ?_
      refine zH (vs := [vd657, .int .i64 (sn1426)]) (i := 1) (v := .int .i64 (sn1426)) he1429 rfl (fun vals' hv hv' => ⟨rfl, ?_⟩)
      intro sn1426q hq0
      rw [hv' 7 (by decide)] at hq0; cases he1429.symm.trans hq0
      exact hv
    ·intro k1459 vals w1460 h1463 h1464 hW1462 hA1461
     obtain rfl : k1459 = 3 := Nat.le_antisymm h1464 h1463
     obtain ⟨b1412, sn1426, v1446, he1415, he1429, he1451, hS1465⟩ := hW1462
     have e1466 := hA1461 3 (by decide)
     have e1467 : vals 10 = (.int .i64 (sn1426) : Value) := hA1461 10 (by decide) sn1426 he1429
     refine obl rfl ?_
     have hS1469 := hS1465.mv1
     refine (Yq (E := E2) (v' := v1446) (x' := (zz (e.typ, e.agg, e.field) M) ++ [e]) hS1469 e1466 e1467 he1451 ?_)
     intro w1468 hS1470
     intro vals' hv hv'
     refine ⟨?_, trivial⟩
     show ∃ (b1412 : Nat) (sn1426 : Int) (v1446 : Value), (vals' 6 = ((.slice (some ⟨b1412, 0, none⟩) 1 1) : Value)) ∧ (vals' 7 = (.tuple #[vd657, .int .i64 sn1426] : Value)) ∧ (vals' 9 = (v1446 : Value)) ∧ Sep G245 w236 ((zF yr E2 m5 (xd (zI M) (e.typ, e.agg, e.field) ((zz (e.typ, e.agg, e.field) M) ++ [e]))) :: (zF yi E1 m4 (xd (zj d M) (e.typ, e.agg) (zX (e.typ, e.agg) M + 1, (doL (d.types.getD e.typ.toNat default) (clL d M e) e.field e.op e.arg)))) :: (RwC vs2 (clL d M e)) :: (BkS b893 M (e.typ, e.agg) vs2) :: (BkP b382 e) :: (BkT b371 d e w236 vt1) :: (Blk b12 (e.cells ve0).toArray 59) :: (BkV b vt1 vp2 ve3 m4 m5) :: (Blk b16 #[.int .i64 (0), .int .i64 (0)] 57) :: R243) w1468
     exact ⟨b1412, sn1426, v1446, (by rw [hv' 6 (by decide)]; exact he1415), (by rw [hv' 7 (by decide)]; exact he1429), (by rw [hv' 9 (by decide)]; exact he1451), hS1470⟩
    intro vals w1531 hW1532 hA1533
    obtain ⟨b1412, sn1426, v1446, he1415, he1429, he1451, hS1534⟩ := hW1532
    refine yh (kv := [(0, .pointer (some ⟨b, 0, none⟩)), (3, .pointer (some ⟨b12, 0, none⟩)), (5, .pointer (some ⟨b16, 0, none⟩)), (6, .pointer (some ⟨b371, 0, none⟩)), (7, .pointer (some ⟨b382, 0, none⟩)), (10, .pointer (some ⟨b893, 0, none⟩)), (82, .agg ((d.types.getD e.typ.toNat default).cells (zi w236 (sb vt1) (so vt1 + e.typ.toNat * 1 + 0))).toArray), (83, .pointer (some ⟨b893, 1, none⟩)), (84, vs2), (85, .pointer (some ⟨b12, 6, none⟩)), (86, .int .i64 (e.field)), (87, .pointer (some ⟨b12, 7, none⟩)), (88, .int .i64 (e.op)), (89, .pointer (some ⟨b12, 8, none⟩)), (90, .int .i64 (e.arg)), (91, .int .i64 (Zo (d.types.getD e.typ.toNat default) (yx d (e.typ, e.agg) M) e.field e.op e.arg)), (92, .bool false)]) ⟨rfl, rfl, rfl, rfl, rfl, rfl, rfl, rfl, rfl, rfl, rfl, rfl, rfl, rfl, rfl, rfl, rfl, trivial⟩ (fun ρw1531 => ?_)
    refine zf ?_
    refine zd ?_
    refine zP ((fun TT pp0 => WF [fun vals wq => Sep G245 w236 (pp0 :: TT) wq, fun vals wq => Sep G245 w236 (pp0 :: TT) wq]) ((zF yi E1 m4 (xd (zj d M) (e.typ, e.agg) (zX (e.typ, e.agg) M + 1, (doL (d.types.getD e.typ.toNat default) (clL d M e) e.field e.op e.arg)))) :: (RwC vs2 (clL d M e)) :: (BkS b893 M (e.typ, e.agg) vs2) :: (BkP b382 e) :: (BkT b371 d e w236 vt1) :: (Blk b12 (e.cells ve0).toArray 59) :: (BkV b vt1 vp2 ve3 m4 m5) :: (Blk b16 #[.int .i64 (0), .int .i64 (0)] 57) :: R243) (zF yr E2 m5 (xd (zI M) (e.typ, e.agg, e.field) ((zz (e.typ, e.agg, e.field) M) ++ [e])))) (AF [Vl 0 (.agg #[.int .i64 (0), .int .i64 (0)]), Vl 1 (.bool false), fun _ => True]) [[], [], [0, 1]] [2] [(0, 0), (0, 0), (0, 0)] (by kernel_rfl) (by kernel_rfl) (by kernel_rfl) rfl (by kernel_rfl) (by kernel_rfl) (fun _ h1 h2 h3 h4 _ => hS1534.same h1 h2 h3 h4) ?_ (yg ⟨dA, dA, dT, trivial⟩) ⟨?_, ?_, ?_, trivial⟩ ?_
    ·intro k vals vals' w hv h
     have e : ∀ j ∈ ([2] : List Nat), vals' j = vals j := hv
     match k, h with
     | 0, h => exact h
     | 1, h => exact h
     | _ + 2, _ => trivial
    ·intro k1559 vals w1560 h1563 h1564 hW1562 hA1561
     obtain rfl : k1559 = 0 := Nat.le_antisymm h1564 h1563
     have hS1565 : Sep _ _ _ _ := hW1562
     refine obl rfl ?_
     exact zl (k := 2) Tryd.isAgg57 Tryd.sizeOf57 rfl rfl (CellsAt.all (hS1565.blk (i := 8) rfl)) (fun vals' hv _ => ⟨rfl, hv⟩)
    ·intro k1566 vals w1567 h1570 h1571 hW1569 hA1568
     refine obl rfl ?_
     exact ze (v := .bool false) rfl (fun vals' hv _ => ⟨rfl, hv⟩)
    ·intro k1548 vals w1549 h1552 h1553 hW1551 hA1550
     obtain rfl : k1548 = 0 := Nat.le_antisymm h1553 h1552
     have hS1554 : Sep _ _ _ _ := hW1551
     have e1555 := hA1550 0 (by decide)
     refine obl rfl ?_
     refine (zy (v := .agg #[.int .i64 (0), .int .i64 (0)]) (c' := #[.int .i64 (0), .int .i64 (0)]) Tryd.sizeOf57 rfl e1555 (hS1554.blk (i := 8) rfl) (yj ⟨rfl, rfl, trivial⟩) (Nat.le_of_ble_eq_true rfl) rfl ?_)
     intro w1556 hp1557
     have hS1558 := hS1554.pt8 hp1557
     intro vals' hv hv'
     refine ⟨?_, trivial⟩
     show Sep G245 w236 ((zF yr E2 m5 (xd (zI M) (e.typ, e.agg, e.field) ((zz (e.typ, e.agg, e.field) M) ++ [e]))) :: (zF yi E1 m4 (xd (zj d M) (e.typ, e.agg) (zX (e.typ, e.agg) M + 1, (doL (d.types.getD e.typ.toNat default) (clL d M e) e.field e.op e.arg)))) :: (RwC vs2 (clL d M e)) :: (BkS b893 M (e.typ, e.agg) vs2) :: (BkP b382 e) :: (BkT b371 d e w236 vt1) :: (Blk b12 (e.cells ve0).toArray 59) :: (BkV b vt1 vp2 ve3 m4 m5) :: (Blk b16 #[.int .i64 (0), .int .i64 (0)] 57) :: R243) w1556
     exact hS1558
    intro vals w1572 hW1573 hA1574
    have hS1575 : Sep _ _ _ _ := hW1573
    have e1576 := hA1574 1 (by decide)
    refine yh (kv := [(0, .pointer (some ⟨b, 0, none⟩)), (3, .pointer (some ⟨b12, 0, none⟩)), (5, .pointer (some ⟨b16, 0, none⟩)), (6, .pointer (some ⟨b371, 0, none⟩)), (7, .pointer (some ⟨b382, 0, none⟩)), (10, .pointer (some ⟨b893, 0, none⟩)), (82, .agg ((d.types.getD e.typ.toNat default).cells (zi w236 (sb vt1) (so vt1 + e.typ.toNat * 1 + 0))).toArray), (83, .pointer (some ⟨b893, 1, none⟩)), (84, vs2), (85, .pointer (some ⟨b12, 6, none⟩)), (86, .int .i64 (e.field)), (87, .pointer (some ⟨b12, 7, none⟩)), (88, .int .i64 (e.op)), (89, .pointer (some ⟨b12, 8, none⟩)), (90, .int .i64 (e.arg)), (91, .int .i64 (Zo (d.types.getD e.typ.toNat default) (yx d (e.typ, e.agg) M) e.field e.op e.arg)), (92, .bool false), (4, .bool false)]) ⟨rfl, rfl, rfl, rfl, rfl, rfl, rfl, rfl, rfl, rfl, rfl, rfl, rfl, rfl, rfl, rfl, rfl, (by exact e1576), trivial⟩ (fun ρw1572 => ?_)
    refine zf ?_
    refine zu ?_
    refine Xo (b := b16) Tryd.results59 Tryd.isAgg57 Tryd.sizeOf57 rfl rfl (CellsAt.all (hS1575.blk (i := 8) rfl)) (show _ = (.bool false : Value) from rfl) ?_
    have hS1577 := hk250 _ _ hS1575
    rw [← hR244] at hS1577
    have hv9 : (zR d M e).void = false := by show (zT d M e).1 = false; rw [hT]
    have hz1 : (zj d (M ++ [zR d M e])) = (xd (zj d M) (e.typ, e.agg) (zX (e.typ, e.agg) M + 1, (doL (d.types.getD e.typ.toNat default) (yx d (e.typ, e.agg) M) e.field e.op e.arg))) := XQ hv9
    have hz2 : (zI (M ++ [zR d M e])) = (xd (zI M) (e.typ, e.agg, e.field) ((zz (e.typ, e.agg, e.field) M) ++ [e])) := Vm hv9
    rw [← hz1, ← hz2] at hS1577
    have hS1578 : Sep G W ((BkV b vt1 vp2 ve3 m4 m5) :: (RwT vt1 d.types) :: (RwP vp2 d.projs) :: (RwN ve3 L) :: (zF yi E1 m4 (zj d (M ++ [zR d M e]))) :: (zF yr E2 m5 (zI (M ++ [zR d M e]))) :: (RwC vs2 (clL d M e)) :: (BkS b893 M (e.typ, e.agg) vs2) :: (BkP b382 e) :: (BkT b371 d e w236 vt1) :: (Blk b12 (e.cells ve0).toArray 59) :: (Blk b16 #[.int .i64 (0), .int .i64 (0)] 57) :: Rs) w1572 := hS1577.sel 12 [8, 0, 10, 11, 2, 1, 3, 4, 5, 6, 7, 9] (Nat.le_add_left _ _) rfl rfl
    have hS1579 : Sep G W ((ViewO b d L (M ++ [zR d M e])) :: (RwC vs2 (clL d M e)) :: (BkS b893 M (e.typ, e.agg) vs2) :: (BkP b382 e) :: (BkT b371 d e w236 vt1) :: (Blk b12 (e.cells ve0).toArray 59) :: (Blk b16 #[.int .i64 (0), .int .i64 (0)] 57) :: Rs) w1572 := ViewO.close (d := d) (L := L) (M := (M ++ [zR d M e])) hS1578
    have hS1580 : Sep G W ((ViewO b d L (M ++ [zR d M e])) :: Rs) w1572 := hS1579.sel 7 [0] (Nat.le_add_left _ _) rfl rfl
    rw [hT]
    refine ⟨rfl, ?_, hS1580⟩
    exact ⟨by decide, by decide⟩
   ·skip
    have hc1031 := zY hc1031
    have hT : zT d M e = (true, 0, 0) := hfree.trans (if_pos hc1031)
    refine zq rfl ?_
    refine zd ?_
    rw [← hR812] at hS1030
    refine zP ((fun TT pp0 => WF [fun vals wq => Sep G245 w236 (pp0 :: TT) wq, fun vals wq => Sep G245 w236 (pp0 :: TT) wq]) ((BkS b893 M (e.typ, e.agg) vs2) :: (Ms1 m4 d M (e.typ, e.agg) vc806) :: (BkP b382 e) :: (BkT b371 d e w236 vt1) :: (Blk b12 (e.cells ve0).toArray 59) :: (BkV b vt1 vp2 ve3 m4 m5) :: (Md1 m5 M e vd657) :: (RwV vd657 (zz (e.typ, e.agg, e.field) M)) :: (RwI ve0 e.deps) :: (Blk b16 #[.int .i64 (0), .int .i64 (0)] 57) :: R243) (RwC vs2 (clL d M e))) (AF [Vl 0 (.agg #[.int .i64 (0), .int .i64 (0)]), Vl 1 (.bool true), fun _ => True]) [[], [], [0, 1]] [2] [(0, 0), (0, 0), (0, 0)] (by kernel_rfl) (by kernel_rfl) (by kernel_rfl) rfl (by kernel_rfl) (by kernel_rfl) (fun _ h1 h2 h3 h4 _ => hS1030.same h1 h2 h3 h4) ?_ (yg ⟨dA, dA, dT, trivial⟩) ⟨?_, ?_, ?_, trivial⟩ ?_
    ·intro k vals vals' w hv h
     have e : ∀ j ∈ ([2] : List Nat), vals' j = vals j := hv
     match k, h with
     | 0, h => exact h
     | 1, h => exact h
     | _ + 2, _ => trivial
    ·intro k1605 vals w1606 h1609 h1610 hW1608 hA1607
     obtain rfl : k1605 = 0 := Nat.le_antisymm h1610 h1609
     have hS1611 : Sep _ _ _ _ := hW1608
     refine obl rfl ?_
     exact zl (k := 2) Tryd.isAgg57 Tryd.sizeOf57 rfl rfl (CellsAt.all (hS1611.blk (i := 10) rfl)) (fun vals' hv _ => ⟨rfl, hv⟩)
    ·intro k1612 vals w1613 h1616 h1617 hW1615 hA1614
     refine obl rfl ?_
     exact ze (v := .bool true) rfl (fun vals' hv _ => ⟨rfl, hv⟩)
    ·intro k1594 vals w1595 h1598 h1599 hW1597 hA1596
     obtain rfl : k1594 = 0 := Nat.le_antisymm h1599 h1598
     have hS1600 : Sep _ _ _ _ := hW1597
     have e1601 := hA1596 0 (by decide)
     refine obl rfl ?_
     refine (zy (v := .agg #[.int .i64 (0), .int .i64 (0)]) (c' := #[.int .i64 (0), .int .i64 (0)]) Tryd.sizeOf57 rfl e1601 (hS1600.blk (i := 10) rfl) (yj ⟨rfl, rfl, trivial⟩) (Nat.le_of_ble_eq_true rfl) rfl ?_)
     intro w1602 hp1603
     have hS1604 := hS1600.pt10 hp1603
     intro vals' hv hv'
     refine ⟨?_, trivial⟩
     show Sep G245 w236 ((RwC vs2 (clL d M e)) :: (BkS b893 M (e.typ, e.agg) vs2) :: (Ms1 m4 d M (e.typ, e.agg) vc806) :: (BkP b382 e) :: (BkT b371 d e w236 vt1) :: (Blk b12 (e.cells ve0).toArray 59) :: (BkV b vt1 vp2 ve3 m4 m5) :: (Md1 m5 M e vd657) :: (RwV vd657 (zz (e.typ, e.agg, e.field) M)) :: (RwI ve0 e.deps) :: (Blk b16 #[.int .i64 (0), .int .i64 (0)] 57) :: R243) w1602
     exact hS1604
    intro vals w1618 hW1619 hA1620
    have hS1621 : Sep _ _ _ _ := hW1619
    have e1622 := hA1620 1 (by decide)
    refine yh (kv := [(0, .pointer (some ⟨b, 0, none⟩)), (3, .pointer (some ⟨b12, 0, none⟩)), (5, .pointer (some ⟨b16, 0, none⟩)), (6, .pointer (some ⟨b371, 0, none⟩)), (7, .pointer (some ⟨b382, 0, none⟩)), (10, .pointer (some ⟨b893, 0, none⟩)), (82, .agg ((d.types.getD e.typ.toNat default).cells (zi w236 (sb vt1) (so vt1 + e.typ.toNat * 1 + 0))).toArray), (83, .pointer (some ⟨b893, 1, none⟩)), (84, vs2), (85, .pointer (some ⟨b12, 6, none⟩)), (86, .int .i64 (e.field)), (87, .pointer (some ⟨b12, 7, none⟩)), (88, .int .i64 (e.op)), (89, .pointer (some ⟨b12, 8, none⟩)), (90, .int .i64 (e.arg)), (91, .int .i64 (Zo (d.types.getD e.typ.toNat default) (yx d (e.typ, e.agg) M) e.field e.op e.arg)), (92, .bool true), (4, .bool true)]) ⟨rfl, rfl, rfl, rfl, rfl, rfl, rfl, rfl, rfl, rfl, rfl, rfl, rfl, rfl, rfl, rfl, rfl, (by exact e1622), trivial⟩ (fun ρw1618 => ?_)
    refine zf ?_
    refine zu ?_
    refine Xo (b := b16) Tryd.results59 Tryd.isAgg57 Tryd.sizeOf57 rfl rfl (CellsAt.all (hS1621.blk (i := 10) rfl)) (show _ = (.bool true : Value) from rfl) ?_
    have hS1623 := hk250 _ _ hS1621
    rw [← hR244] at hS1623
    have hS1624 := hS1623.mv1
    have hS1625 : Sep G W ((ZG E1 (.agg #[.int .i64 ((zX (e.typ, e.agg) M : Nat) : Int), vc806]) ((zj d M) (e.typ, e.agg))) :: (RwT vt1 d.types) :: (BkS b893 M (e.typ, e.agg) vs2) :: (Ms1 m4 d M (e.typ, e.agg) vc806) :: (BkP b382 e) :: (BkT b371 d e w236 vt1) :: (Blk b12 (e.cells ve0).toArray 59) :: (BkV b vt1 vp2 ve3 m4 m5) :: (Md1 m5 M e vd657) :: (RwV vd657 (zz (e.typ, e.agg, e.field) M)) :: (RwI ve0 e.deps) :: (Blk b16 #[.int .i64 (0), .int .i64 (0)] 57) :: (RwP vp2 d.projs) :: (RwN ve3 L) :: Rs) w1618 := XO hS1624 hvs2
    have hS1626 := hS1625.mv3
    have hS1627 : Sep G W ((zF yi E1 m4 (zj d M)) :: (RwT vt1 d.types) :: (BkS b893 M (e.typ, e.agg) vs2) :: (BkP b382 e) :: (BkT b371 d e w236 vt1) :: (Blk b12 (e.cells ve0).toArray 59) :: (BkV b vt1 vp2 ve3 m4 m5) :: (Md1 m5 M e vd657) :: (RwV vd657 (zz (e.typ, e.agg, e.field) M)) :: (RwI ve0 e.deps) :: (Blk b16 #[.int .i64 (0), .int .i64 (0)] 57) :: (RwP vp2 d.projs) :: (RwN ve3 L) :: Rs) w1618 := hS1626.mapoPut
    have hS1628 := hS1627.mv8
    have hS1629 : Sep G W ((ZG E2 vd657 ((zI M) (e.typ, e.agg, e.field))) :: (zF yi E1 m4 (zj d M)) :: (RwT vt1 d.types) :: (BkS b893 M (e.typ, e.agg) vs2) :: (BkP b382 e) :: (BkT b371 d e w236 vt1) :: (Blk b12 (e.cells ve0).toArray 59) :: (BkV b vt1 vp2 ve3 m4 m5) :: (Md1 m5 M e vd657) :: (RwI ve0 e.deps) :: (Blk b16 #[.int .i64 (0), .int .i64 (0)] 57) :: (RwP vp2 d.projs) :: (RwN ve3 L) :: Rs) w1618 := YR hS1628
    have hS1630 := hS1629.mv8
    have hS1631 : Sep G W ((zF yr E2 m5 (zI M)) :: (zF yi E1 m4 (zj d M)) :: (RwT vt1 d.types) :: (BkS b893 M (e.typ, e.agg) vs2) :: (BkP b382 e) :: (BkT b371 d e w236 vt1) :: (Blk b12 (e.cells ve0).toArray 59) :: (BkV b vt1 vp2 ve3 m4 m5) :: (RwI ve0 e.deps) :: (Blk b16 #[.int .i64 (0), .int .i64 (0)] 57) :: (RwP vp2 d.projs) :: (RwN ve3 L) :: Rs) w1618 := hS1630.mapoPut
    have hv9 : (zR d M e).void = true := by show (zT d M e).1 = true; rw [hT]
    have hz1 : (zj d (M ++ [zR d M e])) = (zj d M) := (yW hv9).1
    have hz2 : (zI (M ++ [zR d M e])) = (zI M) := (yW (d := d) hv9).2
    rw [← hz1, ← hz2] at hS1631
    have hS1632 : Sep G W ((BkV b vt1 vp2 ve3 m4 m5) :: (RwT vt1 d.types) :: (RwP vp2 d.projs) :: (RwN ve3 L) :: (zF yi E1 m4 (zj d (M ++ [zR d M e]))) :: (zF yr E2 m5 (zI (M ++ [zR d M e]))) :: (BkS b893 M (e.typ, e.agg) vs2) :: (BkP b382 e) :: (BkT b371 d e w236 vt1) :: (Blk b12 (e.cells ve0).toArray 59) :: (RwI ve0 e.deps) :: (Blk b16 #[.int .i64 (0), .int .i64 (0)] 57) :: Rs) w1618 := hS1631.sel 12 [7, 2, 10, 11, 1, 0, 3, 4, 5, 6, 8, 9] (Nat.le_add_left _ _) rfl rfl
    have hS1633 : Sep G W ((ViewO b d L (M ++ [zR d M e])) :: (BkS b893 M (e.typ, e.agg) vs2) :: (BkP b382 e) :: (BkT b371 d e w236 vt1) :: (Blk b12 (e.cells ve0).toArray 59) :: (RwI ve0 e.deps) :: (Blk b16 #[.int .i64 (0), .int .i64 (0)] 57) :: Rs) w1618 := ViewO.close (d := d) (L := L) (M := (M ++ [zR d M e])) hS1632
    have hS1634 : Sep G W ((ViewO b d L (M ++ [zR d M e])) :: Rs) w1618 := hS1633.sel 7 [0] (Nat.le_add_left _ _) rfl rfl
    rw [hT]
    refine ⟨rfl, ?_, hS1634⟩
    exact ⟨by decide, by decide⟩
  ·skip
   have hc800 := of_decide_eq_true hc800
   refine zq rfl ?_
   refine zw ?_
   refine zd ?_
   refine zx ?_
   refine zd ?_
   refine za (by kernel_rfl) (fun _ => ?_)
   have hi1635 : k < (zz (e.typ, e.agg, e.field) M).length := (by first | omega | (simp only [lens]; omega))
   refine st (zm (k := 10) (i := k) Tryd.underlying47 Tryd.sizeOf59 rfl hrd792.sl rfl hi1635 ?_)
   have hi1637 : k < (zz (e.typ, e.agg, e.field) M).length := (by first | omega | (simp only [lens]; omega))
   obtain ⟨hce1636, hde1636_0, hoke1636⟩ := hrd792.ev hi1637
   rw [← zk default hi1637] at hce1636 hde1636_0 hoke1636
   have hsm1638 : (((zz (e.typ, e.agg, e.field) M).getD k default).deps).length * 8 ≤ 140737488355328 := hde1636_0.small
   have hcw1639 := hS799.cells hce1636 (hrd792.foot (ne_of_lt hi1637))
   refine st (zl (k := 10) Tryd.isAgg59 Tryd.sizeOf59 rfl rfl hcw1639 ?_)
   refine st (zE Tryd.zeroValue59 ?_)
   intro w1642 b1641 hn1640
   have hS1643 := hS799.new hn1640
   refine stn (zy (v := .agg (((zz (e.typ, e.agg, e.field) M).getD k default).cells (zi w779 (sb vd657) (so vd657 + k * 10 + 3))).toArray) (c' := (((zz (e.typ, e.agg, e.field) M).getD k default).cells (zi w779 (sb vd657) (so vd657 + k * 10 + 3))).toArray) Tryd.sizeOf59 rfl rfl (hS1643.blk (i := 0) rfl) (yj ⟨rfl, rfl, rfl, hde1636_0.sl.one, rfl, rfl, rfl, rfl, rfl, rfl, trivial⟩) (Nat.le_of_ble_eq_true rfl) rfl ?_)
   intro w1644 hp1645
   have hS1646 := hS1643.pt0 hp1645
   refine zf ?_
   refine zd ?_
   refine zP ((fun pp0 pp1 pp2 pp3 pp4 => WF [fun vals wq => Sep G786 w779 (pp0 :: (BkP b382 e) :: pp1 :: pp2 :: pp3 :: pp4 :: (RwI ve0 e.deps) :: R794) wq, fun vals wq => (vals 8 = (.bool ((yF (((d.types.getD e.typ.toNat default).fields).getD e.field.toNat default) ((zz (e.typ, e.agg, e.field) M).getD k default) e)) : Value)) ∧ Sep G786 w779 ((RwI ve0 e.deps) :: pp0 :: (BkP b382 e) :: pp1 :: pp2 :: pp3 :: pp4 :: R794) wq]) (Blk b1641 (((zz (e.typ, e.agg, e.field) M).getD k default).cells (zi w779 (sb vd657) (so vd657 + k * 10 + 3))).toArray 59) (BkT b371 d e w236 vt1) (Blk b16 #[.int .i64 (0), .int .i64 (0)] 57) (Blk b12 (e.cells ve0).toArray 59) (BkV b vt1 vp2 ve3 m4 m5)) (AF [Vl 0 (.pointer (some ⟨b371, 0, none⟩)), Vl 1 ((zi w236 (sb vt1) (so vt1 + e.typ.toNat * 1 + 0))), Vl 2 (.pointer (some ⟨b12, 6, none⟩)), Vl 3 (.int .i64 (e.field)), Vl 4 (.pointer (some ⟨sb (zi w236 (sb vt1) (so vt1 + e.typ.toNat * 1 + 0)), so (zi w236 (sb vt1) (so vt1 + e.typ.toNat * 1 + 0)) + e.field.toNat * 4, none⟩)), Vl 5 (.agg ((((d.types.getD e.typ.toNat default).fields).getD e.field.toNat default).cells (zi w779 (sb (zi w236 (sb vt1) (so vt1 + e.typ.toNat * 1 + 0))) (so (zi w236 (sb vt1) (so vt1 + e.typ.toNat * 1 + 0)) + e.field.toNat * 4 + 3))).toArray), Vl 6 (.agg (((zz (e.typ, e.agg, e.field) M).getD k default).cells (zi w779 (sb vd657) (so vd657 + k * 10 + 3))).toArray), Vl 7 (.agg (e.cells ve0).toArray), fun _ => True]) [[], [0], [], [2], [0, 1, 2, 3], [0, 1, 2, 3, 4], [], [], [0, 1, 2, 3, 4, 5, 6, 7]] [8] [(0, 0), (0, 0), (0, 0), (0, 0), (0, 0), (0, 0), (0, 0), (0, 0), (0, 0)] (by kernel_rfl) (by kernel_rfl) (by kernel_rfl) rfl (by kernel_rfl) (by kernel_rfl) (fun _ h1 h2 h3 h4 _ => hS1646.same h1 h2 h3 h4) ?_ (yg ⟨dA, dA, dA, dA, dA, dA, dA, dA, dT, trivial⟩) ⟨?_, ?_, ?_, ?_, ?_, ?_, ?_, ?_, ?_, trivial⟩ ?_
   ·intro k vals vals' w hv h
    have e : ∀ j ∈ ([8] : List Nat), vals' j = vals j := hv
    match k, h with
    | 0, h => exact h
    | 1, h => exact (by simpa only [WF, List.getElem?_cons_zero, List.getElem?_cons_succ, e 8 (by decide)] using h)
    | _ + 2, _ => trivial
   ·intro k1737 vals w1738 h1741 h1742 hW1740 hA1739
    refine obl rfl ?_
    exact yC rfl (fun vals' hv _ => ⟨rfl, hv⟩)
   ·intro k1743 vals w1744 h1747 h1748 hW1746 hA1745
    obtain rfl : k1743 = 0 := Nat.le_antisymm h1748 h1747
    have hS1749 : Sep _ _ _ _ := hW1746
    have e1750 := hA1745 0 (by decide)
    refine obl rfl ?_
    exact zg (v := (zi w236 (sb vt1) (so vt1 + e.typ.toNat * 1 + 0))) Tryd.isAgg31 e1750 (zh (hS1749.blk (i := 2) rfl) rfl) (fun vals' hv _ => ⟨rfl, hv⟩)
   ·intro k1751 vals w1752 h1755 h1756 hW1754 hA1753
    refine obl rfl ?_
    exact Zi rfl (fun vals' hv _ => ⟨rfl, hv⟩)
   ·intro k1757 vals w1758 h1761 h1762 hW1760 hA1759
    obtain rfl : k1757 = 0 := Nat.le_antisymm h1762 h1761
    have hS1763 : Sep _ _ _ _ := hW1760
    have e1764 := hA1759 2 (by decide)
    refine obl rfl ?_
    exact zg (v := .int .i64 (e.field)) Tryd.isAgg3 e1764 (zh (hS1763.blk (i := 4) rfl) rfl) (fun vals' hv _ => ⟨rfl, hv⟩)
   ·intro k1765 vals w1766 h1769 h1770 hW1768 hA1767
    obtain rfl : k1765 = 0 := Nat.le_antisymm h1770 h1769
    have hS1771 : Sep _ _ _ _ := hW1768
    have e1772 := hA1767 1 (by decide)
    have e1773 := hA1767 3 (by decide)
    refine obl rfl ?_
    have hi1774 : e.field.toNat < ((d.types.getD e.typ.toNat default).fields).length := (by first | omega | (simp only [lens]; omega))
    exact zG (k := 4) (i := e.field) Tryd.underlying31 Tryd.sizeOf79 e1772 (RdS.base hde652_0 hB789).sl e1773 ⟨by omega, by omega⟩ (fun vals' hv _ => ⟨rfl, hv⟩)
   ·intro k1775 vals w1776 h1779 h1780 hW1778 hA1777
    obtain rfl : k1775 = 0 := Nat.le_antisymm h1780 h1779
    have hS1781 : Sep _ _ _ _ := hW1778
    have e1782 := hA1777 4 (by decide)
    refine obl rfl ?_
    have hi1784 : e.field.toNat < ((d.types.getD e.typ.toNat default).fields).length := (by first | omega | (simp only [lens]; omega))
    obtain ⟨hce1783, hde1783_0, hoke1783⟩ := (RdS.base hde652_0 hB789).fld hi1784
    rw [← zk default hi1784] at hce1783 hde1783_0 hoke1783
    have hsm1785 : ((((d.types.getD e.typ.toNat default).fields).getD e.field.toNat default).moves).length * 32 ≤ 140737488355328 := hde1783_0.small
    have hcw1786 := hS1781.cells hce1783 ((RdS.base hde652_0 hB789).foot (ne_of_lt hi1784))
    exact zl (k := 4) Tryd.isAgg79 Tryd.sizeOf79 rfl e1782 hcw1786 (fun vals' hv _ => ⟨rfl, hv⟩)
   ·intro k1787 vals w1788 h1791 h1792 hW1790 hA1789
    obtain rfl : k1787 = 0 := Nat.le_antisymm h1792 h1791
    have hS1793 : Sep _ _ _ _ := hW1790
    refine obl rfl ?_
    exact zl (k := 10) Tryd.isAgg59 Tryd.sizeOf59 rfl rfl (CellsAt.all (hS1793.blk (i := 0) rfl)) (fun vals' hv _ => ⟨rfl, hv⟩)
   ·intro k1794 vals w1795 h1798 h1799 hW1797 hA1796
    obtain rfl : k1794 = 0 := Nat.le_antisymm h1799 h1798
    have hS1800 : Sep _ _ _ _ := hW1797
    refine obl rfl ?_
    exact zl (k := 10) Tryd.isAgg59 Tryd.sizeOf59 rfl rfl (CellsAt.all (hS1800.blk (i := 4) rfl)) (fun vals' hv _ => ⟨rfl, hv⟩)
   ·intro k1711 vals w1712 h1715 h1716 hW1714 hA1713
    obtain rfl : k1711 = 0 := Nat.le_antisymm h1716 h1715
    have hS1717 : Sep _ _ _ _ := hW1714
    have e1718 := hA1713 5 (by decide)
    have e1719 := hA1713 6 (by decide)
    have e1720 := hA1713 7 (by decide)
    refine obl rfl ?_
    have hi1722 : e.field.toNat < ((d.types.getD e.typ.toNat default).fields).length := (by first | omega | (simp only [lens]; omega))
    obtain ⟨hce1721, hde1721_0, hoke1721⟩ := (RdS.base hde652_0 hB789).fld hi1722
    rw [← zk default hi1722] at hce1721 hde1721_0 hoke1721
    have hsm1723 : ((((d.types.getD e.typ.toNat default).fields).getD e.field.toNat default).moves).length * 32 ≤ 140737488355328 := hde1721_0.small
    have hcw1724 := hS1717.cells hce1721 ((RdS.base hde652_0 hB789).foot (ne_of_lt hi1722))
    have hS1725 := hS1717.mv6
    obtain ⟨G1726, hA1728, hB1729, hS1730, hk1731⟩ := hS1725.lend
    have hrd1732 := RowE.rd hA1728
    have hrd1732s : _ * 8 ≤ _ := hrd1732.small
    refine (zv (f := 41) (vals := [.agg ((((d.types.getD e.typ.toNat default).fields).getD e.field.toNat default).cells (zi w779 (sb (zi w236 (sb vt1) (so vt1 + e.typ.toNat * 1 + 0))) (so (zi w236 (sb vt1) (so vt1 + e.typ.toNat * 1 + 0)) + e.field.toNat * 4 + 3))).toArray, .agg (((zz (e.typ, e.agg, e.field) M).getD k default).cells (zi w779 (sb vd657) (so vd657 + k * 10 + 3))).toArray, .agg (e.cells ve0).toArray]) (cap := []) rfl (xj ⟨e1718, e1719, e1720, trivial⟩) Tryd.call41 (UC (f := (((d.types.getD e.typ.toNat default).fields).getD e.field.toNat default)) (x := ((zz (e.typ, e.agg, e.field) M).getD k default)) (e := e) (RdS.base hde1721_0 hB1729) hoke1721 (RdS.base hde1636_0 hB1729) hoke1636 hrd1732 oe hS1730) ?_)
    rintro _ w1733 ⟨rfl, hS1734⟩
    have hS1735 := hk1731 _ _ hS1734
    intro vals' hv hv'
    refine ⟨?_, trivial⟩
    show (vals' 8 = (.bool ((yF (((d.types.getD e.typ.toNat default).fields).getD e.field.toNat default) ((zz (e.typ, e.agg, e.field) M).getD k default) e)) : Value)) ∧ Sep G786 w779 ((RwI ve0 e.deps) :: (Blk b1641 (((zz (e.typ, e.agg, e.field) M).getD k default).cells (zi w779 (sb vd657) (so vd657 + k * 10 + 3))).toArray 59) :: (BkP b382 e) :: (BkT b371 d e w236 vt1) :: (Blk b16 #[.int .i64 (0), .int .i64 (0)] 57) :: (Blk b12 (e.cells ve0).toArray 59) :: (BkV b vt1 vp2 ve3 m4 m5) :: R794) w1733
    exact ⟨hv, hS1735⟩
   intro vals w1801 hW1802 hA1803
   obtain ⟨he1736, hS1804⟩ := hW1802
   refine yh (kv := [(0, .pointer (some ⟨b, 0, none⟩)), (3, .pointer (some ⟨b12, 0, none⟩)), (5, .pointer (some ⟨b16, 0, none⟩)), (6, .pointer (some ⟨b371, 0, none⟩)), (7, .pointer (some ⟨b382, 0, none⟩)), (49, vd657), (50, .int .i64 (((zz (e.typ, e.agg, e.field) M).length : Nat) : Int)), (51, .int .i64 ((k : Nat) : Int)), (52, .bool true), (53, .pointer (some ⟨sb vd657, so vd657 + k * 10, none⟩)), (54, .agg (((zz (e.typ, e.agg, e.field) M).getD k default).cells (zi w779 (sb vd657) (so vd657 + k * 10 + 3))).toArray), (9, .pointer (some ⟨b1641, 0, none⟩)), (63, .bool ((yF (((d.types.getD e.typ.toNat default).fields).getD e.field.toNat default) ((zz (e.typ, e.agg, e.field) M).getD k default) e)))]) ⟨rfl, rfl, rfl, rfl, rfl, rfl, rfl, rfl, rfl, rfl, rfl, rfl, (by exact he1736), trivial⟩ (fun ρw1801 => ?_)
   refine zf ?_
   cases hc1805 : (yF (((d.types.getD e.typ.toNat default).fields).getD e.field.toNat default) ((zz (e.typ, e.agg, e.field) M).getD k default) e)
   ·skip
    refine zo rfl ?_
    refine zw ?_
    refine za (by kernel_rfl) (fun _ => ?_)
    have hr1806 : InR ((k + 1 : Nat) : Int) := by first | omega | (simp only [lens]; omega)
    refine st (ye (r := ((k + 1 : Nat) : Int)) (k := .i64) (a := ((k : Nat) : Int)) (b := 1) rfl rfl (by rw [show (((k : Nat) : Int) + 1 : Int) = ((k + 1 : Nat) : Int) by first | omega | (simp only [lens]; omega)]; exact zQ hr1806) ?_)
    refine st (zb (v := .int .i64 ((k + 1 : Nat) : Int)) rfl ?_)
    refine zf ?_
    have hS1807 : Sep G786 w779 ((BkP b382 e) :: (BkT b371 d e w236 vt1) :: (Blk b16 #[.int .i64 (0), .int .i64 (0)] 57) :: (Blk b12 (e.cells ve0).toArray 59) :: (BkV b vt1 vp2 ve3 m4 m5) :: (RwI ve0 e.deps) :: R794) w1801 := hS1804.sel 7 [2, 3, 4, 5, 6, 0] (Nat.le_add_left _ _) rfl rfl
    exact ⟨_, by omega, k + 1, _, rfl, zp ⟨rfl, rfl, rfl, rfl, rfl, rfl, rfl, rfl, trivial⟩, by omega, (xv hno hc1805), hS1807⟩
   ·skip
    have hok1808 := hoke1636
    have hT := Qg hfz (by omega) hno hc1805
    refine zq rfl ?_
    refine zd ?_
    refine zP ((fun TT pp0 pp1 => WF [fun vals wq => Sep G786 w779 ((RwI ve0 e.deps) :: pp0 :: (BkP b382 e) :: pp1 :: (Blk b16 #[.int .i64 (0), .int .i64 (0)] 57) :: TT) wq, fun vals wq => Sep G786 w779 ((RwI ve0 e.deps) :: pp0 :: (BkP b382 e) :: pp1 :: (Blk b16 #[.int .i64 (((zz (e.typ, e.agg, e.field) M).getD k default).origin), .int .i64 (((zz (e.typ, e.agg, e.field) M).getD k default).seq)] 57) :: TT) wq]) ((Blk b12 (e.cells ve0).toArray 59) :: (BkV b vt1 vp2 ve3 m4 m5) :: R794) (Blk b1641 (((zz (e.typ, e.agg, e.field) M).getD k default).cells (zi w779 (sb vd657) (so vd657 + k * 10 + 3))).toArray 59) (BkT b371 d e w236 vt1)) (AF [Vl 0 (.pointer (some ⟨b1641, 0, none⟩)), Vl 1 (.agg #[.int .i64 (((zz (e.typ, e.agg, e.field) M).getD k default).origin), .int .i64 (((zz (e.typ, e.agg, e.field) M).getD k default).seq)]), Vl 2 (.bool true), fun _ => True]) [[], [0], [], [0, 1, 2]] [3] [(0, 0), (0, 0), (0, 0), (0, 0)] (by kernel_rfl) (by kernel_rfl) (by kernel_rfl) rfl (by kernel_rfl) (by kernel_rfl) (fun _ h1 h2 h3 h4 _ => hS1804.same h1 h2 h3 h4) ?_ (yg ⟨dA, dA, dA, dT, trivial⟩) ⟨?_, ?_, ?_, ?_, trivial⟩ ?_
    ·intro k vals vals' w hv h
     have e : ∀ j ∈ ([3] : List Nat), vals' j = vals j := hv
     match k, h with
     | 0, h => exact h
     | 1, h => exact h
     | _ + 2, _ => trivial
    ·intro k1840 vals w1841 h1844 h1845 hW1843 hA1842
     refine obl rfl ?_
     exact yU rfl (fun vals' hv _ => ⟨rfl, hv⟩)
    ·intro k1846 vals w1847 h1850 h1851 hW1849 hA1848
     obtain rfl : k1846 = 0 := Nat.le_antisymm h1851 h1850
     have hS1852 : Sep _ _ _ _ := hW1849
     have e1853 := hA1848 0 (by decide)
     refine obl rfl ?_
     exact zl (k := 2) (cs := [.int .i64 (((zz (e.typ, e.agg, e.field) M).getD k default).origin), .int .i64 (((zz (e.typ, e.agg, e.field) M).getD k default).seq)]) Tryd.isAgg57 Tryd.sizeOf57 rfl e1853 (CellsAt.sub (CellsAt.all (hS1852.blk (i := 1) rfl)) 0 (cs2 := [.int .i64 (((zz (e.typ, e.agg, e.field) M).getD k default).origin), .int .i64 (((zz (e.typ, e.agg, e.field) M).getD k default).seq)]) rfl) (fun vals' hv _ => ⟨rfl, hv⟩)
    ·intro k1854 vals w1855 h1858 h1859 hW1857 hA1856
     refine obl rfl ?_
     exact ze (v := .bool true) rfl (fun vals' hv _ => ⟨rfl, hv⟩)
    ·intro k1829 vals w1830 h1833 h1834 hW1832 hA1831
     obtain rfl : k1829 = 0 := Nat.le_antisymm h1834 h1833
     have hS1835 : Sep _ _ _ _ := hW1832
     have e1836 := hA1831 1 (by decide)
     refine obl rfl ?_
     refine (zy (v := .agg #[.int .i64 (((zz (e.typ, e.agg, e.field) M).getD k default).origin), .int .i64 (((zz (e.typ, e.agg, e.field) M).getD k default).seq)]) (c' := #[.int .i64 (((zz (e.typ, e.agg, e.field) M).getD k default).origin), .int .i64 (((zz (e.typ, e.agg, e.field) M).getD k default).seq)]) Tryd.sizeOf57 rfl e1836 (hS1835.blk (i := 4) rfl) (yj ⟨rfl, rfl, trivial⟩) (Nat.le_of_ble_eq_true rfl) rfl ?_)
     intro w1837 hp1838
     have hS1839 := hS1835.pt4 hp1838
     intro vals' hv hv'
     refine ⟨?_, trivial⟩
     show Sep G786 w779 ((RwI ve0 e.deps) :: (Blk b1641 (((zz (e.typ, e.agg, e.field) M).getD k default).cells (zi w779 (sb vd657) (so vd657 + k * 10 + 3))).toArray 59) :: (BkP b382 e) :: (BkT b371 d e w236 vt1) :: (Blk b16 #[.int .i64 (((zz (e.typ, e.agg, e.field) M).getD k default).origin), .int .i64 (((zz (e.typ, e.agg, e.field) M).getD k default).seq)] 57) :: (Blk b12 (e.cells ve0).toArray 59) :: (BkV b vt1 vp2 ve3 m4 m5) :: R794) w1837
     exact hS1839
    intro vals w1860 hW1861 hA1862
    have hS1863 : Sep _ _ _ _ := hW1861
    have e1864 := hA1862 2 (by decide)
    refine yh (kv := [(0, .pointer (some ⟨b, 0, none⟩)), (3, .pointer (some ⟨b12, 0, none⟩)), (5, .pointer (some ⟨b16, 0, none⟩)), (6, .pointer (some ⟨b371, 0, none⟩)), (7, .pointer (some ⟨b382, 0, none⟩)), (49, vd657), (50, .int .i64 (((zz (e.typ, e.agg, e.field) M).length : Nat) : Int)), (51, .int .i64 ((k : Nat) : Int)), (52, .bool true), (53, .pointer (some ⟨sb vd657, so vd657 + k * 10, none⟩)), (54, .agg (((zz (e.typ, e.agg, e.field) M).getD k default).cells (zi w779 (sb vd657) (so vd657 + k * 10 + 3))).toArray), (9, .pointer (some ⟨b1641, 0, none⟩)), (63, .bool true), (4, .bool true)]) ⟨rfl, rfl, rfl, rfl, rfl, rfl, rfl, rfl, rfl, rfl, rfl, rfl, rfl, (by exact e1864), trivial⟩ (fun ρw1860 => ?_)
    refine zf ?_
    refine zu ?_
    refine Xo (b := b16) Tryd.results59 Tryd.isAgg57 Tryd.sizeOf57 rfl rfl (CellsAt.all (hS1863.blk (i := 4) rfl)) (show _ = (.bool true : Value) from rfl) ?_
    have hS1865 := hk791 _ _ hS1863
    have hS1866 := hk250 _ _ hS1865
    rw [← hR795] at hS1866
    rw [← hR244] at hS1866
    have hS1867 := hS1866.mv1
    have hS1868 : Sep G W ((ZG E2 vd657 ((zI M) (e.typ, e.agg, e.field))) :: (RwT vt1 d.types) :: (RwI ve0 e.deps) :: (Blk b1641 (((zz (e.typ, e.agg, e.field) M).getD k default).cells (zi w779 (sb vd657) (so vd657 + k * 10 + 3))).toArray 59) :: (BkP b382 e) :: (BkT b371 d e w236 vt1) :: (Blk b16 #[.int .i64 (((zz (e.typ, e.agg, e.field) M).getD k default).origin), .int .i64 (((zz (e.typ, e.agg, e.field) M).getD k default).seq)] 57) :: (Blk b12 (e.cells ve0).toArray 59) :: (BkV b vt1 vp2 ve3 m4 m5) :: (Md1 m5 M e vd657) :: (zF yi E1 m4 (zj d M)) :: (RwP vp2 d.projs) :: (RwN ve3 L) :: Rs) w1860 := YR hS1867
    have hS1869 := hS1868.mv9
    have hS1870 : Sep G W ((zF yr E2 m5 (zI M)) :: (RwT vt1 d.types) :: (RwI ve0 e.deps) :: (Blk b1641 (((zz (e.typ, e.agg, e.field) M).getD k default).cells (zi w779 (sb vd657) (so vd657 + k * 10 + 3))).toArray 59) :: (BkP b382 e) :: (BkT b371 d e w236 vt1) :: (Blk b16 #[.int .i64 (((zz (e.typ, e.agg, e.field) M).getD k default).origin), .int .i64 (((zz (e.typ, e.agg, e.field) M).getD k default).seq)] 57) :: (Blk b12 (e.cells ve0).toArray 59) :: (BkV b vt1 vp2 ve3 m4 m5) :: (zF yi E1 m4 (zj d M)) :: (RwP vp2 d.projs) :: (RwN ve3 L) :: Rs) w1860 := hS1869.mapoPut
    have hv9 : (zR d M e).void = true := by show (zT d M e).1 = true; rw [hT]
    have hz1 : (zj d (M ++ [zR d M e])) = (zj d M) := (yW hv9).1
    have hz2 : (zI (M ++ [zR d M e])) = (zI M) := (yW (d := d) hv9).2
    rw [← hz1, ← hz2] at hS1870
    have hS1871 : Sep G W ((BkV b vt1 vp2 ve3 m4 m5) :: (RwT vt1 d.types) :: (RwP vp2 d.projs) :: (RwN ve3 L) :: (zF yi E1 m4 (zj d (M ++ [zR d M e]))) :: (zF yr E2 m5 (zI (M ++ [zR d M e]))) :: (RwI ve0 e.deps) :: (Blk b1641 (((zz (e.typ, e.agg, e.field) M).getD k default).cells (zi w779 (sb vd657) (so vd657 + k * 10 + 3))).toArray 59) :: (BkP b382 e) :: (BkT b371 d e w236 vt1) :: (Blk b16 #[.int .i64 (((zz (e.typ, e.agg, e.field) M).getD k default).origin), .int .i64 (((zz (e.typ, e.agg, e.field) M).getD k default).seq)] 57) :: (Blk b12 (e.cells ve0).toArray 59) :: Rs) w1860 := hS1870.sel 12 [8, 1, 10, 11, 9, 0, 2, 3, 4, 5, 6, 7] (Nat.le_add_left _ _) rfl rfl
    have hS1872 : Sep G W ((ViewO b d L (M ++ [zR d M e])) :: (RwI ve0 e.deps) :: (Blk b1641 (((zz (e.typ, e.agg, e.field) M).getD k default).cells (zi w779 (sb vd657) (so vd657 + k * 10 + 3))).toArray 59) :: (BkP b382 e) :: (BkT b371 d e w236 vt1) :: (Blk b16 #[.int .i64 (((zz (e.typ, e.agg, e.field) M).getD k default).origin), .int .i64 (((zz (e.typ, e.agg, e.field) M).getD k default).seq)] 57) :: (Blk b12 (e.cells ve0).toArray 59) :: Rs) w1860 := ViewO.close (d := d) (L := L) (M := (M ++ [zR d M e])) hS1871
    have hS1873 : Sep G W ((ViewO b d L (M ++ [zR d M e])) :: Rs) w1860 := hS1872.sel 7 [0] (Nat.le_add_left _ _) rfl rfl
    rw [hT]
    refine ⟨rfl, ?_, hS1873⟩
    exact ⟨hok1808.origin, hok1808.seq⟩
 ·skip
  have hc241 := zY hc241
  have hT : zT d M e = (true, 0, 0) := WA hc241
  refine zq rfl ?_
  refine zd ?_
  refine zP ((fun TT => WF [fun vals wq => Sep G W ((RwT vt1 d.types) :: TT) wq, fun vals wq => Sep G W ((RwT vt1 d.types) :: TT) wq]) ((RwP vp2 d.projs) :: (Blk b16 #[.int .i64 (0), .int .i64 (0)] 57) :: (Blk b12 (e.cells ve0).toArray 59) :: (BkV b vt1 vp2 ve3 m4 m5) :: (RwN ve3 L) :: (zF yi E1 m4 (zj d M)) :: (zF yr E2 m5 (zI M)) :: (RwI ve0 e.deps) :: Rs)) (AF [Vl 0 (.agg #[.int .i64 (0), .int .i64 (0)]), Vl 1 (.bool true), fun _ => True]) [[], [], [0, 1]] [2] [(0, 0), (0, 0), (0, 0)] (by kernel_rfl) (by kernel_rfl) (by kernel_rfl) rfl (by kernel_rfl) (by kernel_rfl) (fun _ h1 h2 h3 h4 _ => hS239.same h1 h2 h3 h4) ?_ (yg ⟨dA, dA, dT, trivial⟩) ⟨?_, ?_, ?_, trivial⟩ ?_
  ·intro k vals vals' w hv h
   have e : ∀ j ∈ ([2] : List Nat), vals' j = vals j := hv
   match k, h with
   | 0, h => exact h
   | 1, h => exact h
   | _ + 2, _ => trivial
  ·intro k1898 vals w1899 h1902 h1903 hW1901 hA1900
   obtain rfl : k1898 = 0 := Nat.le_antisymm h1903 h1902
   have hS1904 : Sep _ _ _ _ := hW1901
   refine obl rfl ?_
   exact zl (k := 2) Tryd.isAgg57 Tryd.sizeOf57 rfl rfl (CellsAt.all (hS1904.blk (i := 2) rfl)) (fun vals' hv _ => ⟨rfl, hv⟩)
  ·intro k1905 vals w1906 h1909 h1910 hW1908 hA1907
   refine obl rfl ?_
   exact ze (v := .bool true) rfl (fun vals' hv _ => ⟨rfl, hv⟩)
  ·intro k1887 vals w1888 h1891 h1892 hW1890 hA1889
   obtain rfl : k1887 = 0 := Nat.le_antisymm h1892 h1891
   have hS1893 : Sep _ _ _ _ := hW1890
   have e1894 := hA1889 0 (by decide)
   refine obl rfl ?_
   refine (zy (v := .agg #[.int .i64 (0), .int .i64 (0)]) (c' := #[.int .i64 (0), .int .i64 (0)]) Tryd.sizeOf57 rfl e1894 (hS1893.blk (i := 2) rfl) (yj ⟨rfl, rfl, trivial⟩) (Nat.le_of_ble_eq_true rfl) rfl ?_)
   intro w1895 hp1896
   have hS1897 := hS1893.pt2 hp1896
   intro vals' hv hv'
   refine ⟨?_, trivial⟩
   show Sep G W ((RwT vt1 d.types) :: (RwP vp2 d.projs) :: (Blk b16 #[.int .i64 (0), .int .i64 (0)] 57) :: (Blk b12 (e.cells ve0).toArray 59) :: (BkV b vt1 vp2 ve3 m4 m5) :: (RwN ve3 L) :: (zF yi E1 m4 (zj d M)) :: (zF yr E2 m5 (zI M)) :: (RwI ve0 e.deps) :: Rs) w1895
   exact hS1897
  intro vals w1911 hW1912 hA1913
  have hS1914 : Sep _ _ _ _ := hW1912
  have e1915 := hA1913 1 (by decide)
  refine yh (kv := [(0, .pointer (some ⟨b, 0, none⟩)), (1, .agg (e.cells ve0).toArray), (3, .pointer (some ⟨b12, 0, none⟩)), (4, .bool true), (5, .pointer (some ⟨b16, 0, none⟩)), (25, .bool true)]) ⟨rfl, rfl, rfl, (by exact e1915), rfl, rfl, trivial⟩ (fun ρw1911 => ?_)
  refine zf ?_
  refine zu ?_
  refine Xo (b := b16) Tryd.results59 Tryd.isAgg57 Tryd.sizeOf57 rfl rfl (CellsAt.all (hS1914.blk (i := 2) rfl)) (show _ = (.bool true : Value) from rfl) ?_
  have hv9 : (zR d M e).void = true := by show (zT d M e).1 = true; rw [hT]
  have hz1 : (zj d (M ++ [zR d M e])) = (zj d M) := (yW hv9).1
  have hz2 : (zI (M ++ [zR d M e])) = (zI M) := (yW (d := d) hv9).2
  rw [← hz1, ← hz2] at hS1914
  have hS1916 : Sep G W ((BkV b vt1 vp2 ve3 m4 m5) :: (RwT vt1 d.types) :: (RwP vp2 d.projs) :: (RwN ve3 L) :: (zF yi E1 m4 (zj d (M ++ [zR d M e]))) :: (zF yr E2 m5 (zI (M ++ [zR d M e]))) :: (Blk b16 #[.int .i64 (0), .int .i64 (0)] 57) :: (Blk b12 (e.cells ve0).toArray 59) :: (RwI ve0 e.deps) :: Rs) w1911 := hS1914.sel 9 [4, 0, 1, 5, 6, 7, 2, 3, 8] (Nat.le_add_left _ _) rfl rfl
  have hS1917 : Sep G W ((ViewO b d L (M ++ [zR d M e])) :: (Blk b16 #[.int .i64 (0), .int .i64 (0)] 57) :: (Blk b12 (e.cells ve0).toArray 59) :: (RwI ve0 e.deps) :: Rs) w1911 := ViewO.close (d := d) (L := L) (M := (M ++ [zR d M e])) hS1916
  have hS1918 : Sep G W ((ViewO b d L (M ++ [zR d M e])) :: Rs) w1911 := hS1917.sel 4 [0] (Nat.le_add_left _ _) rfl rfl
  rw [hT]
  refine ⟨rfl, ?_, hS1918⟩
  exact ⟨by decide, by decide⟩

end Go.Proofs.YtlblilbmpdejgaaDoor
