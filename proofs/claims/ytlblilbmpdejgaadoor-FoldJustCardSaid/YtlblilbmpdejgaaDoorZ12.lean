import Derived.Test.YtlblilbmpdejgaaDoorZ11
set_option linter.unusedSimpArgs false
set_option linter.unusedVariables false
set_option linter.unusedSectionVars false
set_option linter.deprecated false
/- Steps of the proofs of this seat: part F9. -/
set_option maxRecDepth 8000
set_option maxHeartbeats 4000000
namespace Go.Proofs.YtlblilbmpdejgaaDoor
open Go.Proofs Go.RowKit

theorem fieldL_fits {d : Dcl} {ty f op arg : Int} (h : fitsL d ty f op arg = 0) : fieldL d ty f = (typL d ty).fields.getD f.toNat default := by
  unfold fitsL at h
  split at h
  · cases h
  · rename_i h1
    have hB : fieldB d ty f = true := by simpa using h1
    unfold fieldL; rw [hB]; rfl
theorem rj_iff {d : Dcl} {e : Ev} {y : Ent} {fl : Fld} (hf : fl = (typL d e.typ).fields.getD e.field.toNat default) : rJ d e y = true ↔ (((y.void = false ∧ y.ev.typ = e.typ) ∧ y.ev.agg = e.agg) ∧ y.ev.field = e.field) ∧ voidsL fl y.ev e = true := by
  subst hf
  unfold rJ on3
  simp only [Bool.and_eq_true, Bool.not_eq_true', decide_eq_true_eq]
  constructor
  · rintro ⟨⟨h1, h2, h3, h4⟩, h5⟩; exact ⟨⟨⟨⟨h1, h2⟩, h3⟩, h4⟩, h5⟩
  · rintro ⟨⟨⟨⟨h1, h2⟩, h3⟩, h4⟩, h5⟩; exact ⟨⟨h1, h2, h3, h4⟩, h5⟩
theorem rj_of {d : Dcl} {e : Ev} {y : Ent} {fl : Fld} (hf : fl = (typL d e.typ).fields.getD e.field.toNat default) (h : (((y.void = false ∧ y.ev.typ = e.typ) ∧ y.ev.agg = e.agg) ∧ y.ev.field = e.field) ∧ voidsL fl y.ev e = true) : rJ d e y = true := (rj_iff hf).2 h
theorem rj_no {d : Dcl} {e : Ev} {y : Ent} {fl : Fld} (hf : fl = (typL d e.typ).fields.getD e.field.toNat default) (h : ¬ ((((y.void = false ∧ y.ev.typ = e.typ) ∧ y.ev.agg = e.agg) ∧ y.ev.field = e.field) ∧ voidsL fl y.ev e = true)) : rJ d e y = false := by
  cases hr : rJ d e y with
  | false => rfl
  | true => exact absurd ((rj_iff hf).1 hr) h
theorem rj_no4 {d : Dcl} {e : Ev} {y : Ent} {fl : Fld} (hf : fl = (typL d e.typ).fields.getD e.field.toNat default) (h : (!y.void && decide (y.ev.typ = e.typ) && decide (y.ev.agg = e.agg) && decide (y.ev.field = e.field)) = false) : rJ d e y = false := by
  refine rj_no hf (fun h9 => ?_)
  rw [h9.1.1.1.1, decide_eq_true h9.1.1.1.2, decide_eq_true h9.1.1.2, decide_eq_true h9.1.2] at h
  cases h
set_option maxHeartbeats 8000000 in
theorem D_FoldJust {G : Nat → Prop} {W w : World} {Rs : List HP} {d : Dcl} {dd0 : Value} (hdd0 : RdS W G dd0 d.types) {dd1 : Value} (hdd1 : RdS W G dd1 d.projs) (od : d.Ok) {n : Int} (hn : InR n) {vl : Value} {l : List Ev} (hl : RdS W G vl l) (hKN : RdS W G (.slice (some ⟨0, 0, none⟩) 6 6) kindsL) (hS0 : Sep G W Rs w) : Ret Tryd.prog 5 [.agg (d.cells dd0 dd1).toArray, .int .i64 (n), vl] w (fun r w' => r = (.bool true : Value) ∧ Sep G W Rs w') := by
 have hdd0s : d.types.length * 24 ≤ 140737488355328 := hdd0.small
 have hdd1s : d.projs.length * 40 ≤ 140737488355328 := hdd1.small
 have hls : l.length * 96 ≤ 140737488355328 := hl.small
 have hKNs : kindsL.length * 8 ≤ 140737488355328 := hKN.small
 refine Calls_of_WP (args := [.agg (d.cells dd0 dd1).toArray, .int .i64 (n), vl]) Tryd.func5 rfl rfl ?_
 refine WP_seq ?_
 refine WP_region0 (by kernel_rfl) (fun _ => ?_)
 refine st (ov_box (v := .agg (d.cells dd0 dd1).toArray) rfl ?_)
 intro w3 b2 hn1
 have hS4 := hS0.new hn1
 refine st (ov_assign (v := .bool false) rfl ?_)
 refine st_nil ?_
 refine WP_seq ?_
 refine WP_seq ?_
 refine WP_region0 (by kernel_rfl) (fun _ => ?_)
 refine st (ov_loadk (k := 2) Tryd.isAgg25 Tryd.sizeOf25 rfl rfl (CellsAt.all (hS4.blk (i := 0) rfl)) ?_)
 refine st (ov_call (f := 20) (vals := [.agg (d.cells dd0 dd1).toArray]) (cap := []) (show _ = (.func (.func 20) #[] #[] : Value) from rfl) rfl Tryd.call20 (D_may13 (d := d) hdd0 hdd1 od hS4) ?_)
 rintro _ w7 ⟨b5, rfl, hb6, hS8⟩
 refine st (ov_not (a := b5) rfl ?_)
 refine st_nil ?_
 cases hc9 : !b5
 ·skip
  try simp only [bools] at hc9
  have hdo := hb6 hc9
  refine WP_cond_f rfl ?_
  refine WP_skip ?_
  refine WP_seq ?_
  refine WP_region0 (by kernel_rfl) (fun _ => ?_)
  refine st (ov_move (v := .int .i64 (n)) rfl ?_)
  refine st (ov_call (f := 13) (vals := [.int .i64 (n), .int .i64 (64)]) (cap := []) (show _ = (.func (.func 13) #[] #[] : Value) from rfl) rfl Tryd.call13 (D_Pick (x := n) (n := 64) hn (by first | omega | (refine ⟨?_, ?_⟩ <;> omega)) hS8) ?_)
  rintro _ w12 ⟨q10, rfl, hq11, hS13⟩
  have hr14 : InR ((1 + q10 : Nat) : Int) := by first | omega | (simp only [lens]; omega)
  refine st (ov_add (r := ((1 + q10 : Nat) : Int)) (k := .i64) (a := 1) (b := ((q10 : Nat) : Int)) rfl rfl (by rw [show (1 + ((q10 : Nat) : Int) : Int) = ((1 + q10 : Nat) : Int) by first | omega | (simp only [lens]; omega)]; exact wrap_in hr14) ?_)
  refine st (ov_move (v := vl) rfl ?_)
  refine st (ov_call (f := 22) (vals := [.int .i64 ((1 + q10 : Nat) : Int), vl]) (cap := []) (show _ = (.func (.func 22) #[] #[] : Value) from rfl) rfl Tryd.call22 (D_events (n := ((1 + q10 : Nat) : Int)) (l := l) (vl := vl) hr14 hl hS13) ?_)
  rintro v15 w19 ⟨_, l216, rfl, h6017, hft18, hS20⟩
  have hr21 := hS20.row (i := 0) rfl
  have hr21s : l216.length * 96 ≤ 140737488355328 := hr21.2
  refine st (ov_assign (v := v15) rfl ?_)
  refine st_nil ?_
  refine WP_seq ?_
  have h60 := h6017
  obtain ⟨G22, hA24, hB25, hS26, hk27⟩ := hS20.lend
  have hrd28 := RowE.rdB hA24 hB25
  have hrd28s : l216.length * 96 ≤ 140737488355328 := hrd28.small
  refine WP_region0 (by kernel_rfl) (fun _ => ?_)
  refine st (ov_loadk (k := 2) Tryd.isAgg25 Tryd.sizeOf25 rfl rfl (CellsAt.all (hS26.blk (i := 0) rfl)) ?_)
  refine st (ov_move (v := v15) rfl ?_)
  refine st (ov_call (f := 38) (vals := [.agg (d.cells dd0 dd1).toArray, v15]) (cap := []) (show _ = (.func (.func 38) #[] #[] : Value) from rfl) rfl Tryd.call38 (D_All (d := d) (l := l216) (vl := v15) (RdS.base hdd0 hB25) (RdS.base hdd1 hB25) od hrd28 (RdS.base hKN hB25) hS26 (hdo) ((by omega))) ?_)
  rintro _ w30 ⟨b29, rfl, hS31⟩
  refine st (ov_assign (v := .pointer (some ⟨b29, 0, none⟩)) rfl ?_)
  refine st_nil ?_
  refine WP_seq ?_
  refine WP_seq ?_
  refine WP_region0 (by kernel_rfl) (fun _ => ?_)
  refine st (ov_move (v := .pointer (some ⟨b29, 0, none⟩)) rfl ?_)
  refine st (ov_eqlPtr (b := b29) (o := 0) Tryd.underlying51 rfl ?_)
  refine st_nil ?_
  refine WP_cond_f rfl ?_
  refine WP_skip ?_
  refine WP_seq ?_
  refine WP_region0 (by kernel_rfl) (fun _ => ?_)
  refine st (ov_move (v := .pointer (some ⟨b29, 0, none⟩)) rfl ?_)
  refine st (ov_call (f := 36) (vals := [.pointer (some ⟨b29, 0, none⟩)]) (cap := []) (show _ = (.func (.func 36) #[] #[] : Value) from rfl) rfl Tryd.call36 (D_Entries  hS31) ?_)
  rintro v32 w33 ⟨_, rfl, hS34⟩
  have hr35 := hS34.row (i := 1) rfl
  have hr35s : (runL d l216).length * 120 ≤ 140737488355328 := hr35.2
  refine st (ov_assign (v := v32) rfl ?_)
  refine st_nil ?_
  refine WP_seq ?_
  refine WP_seq ?_
  have hS36 : Sep G22 w19 ((RwN v32 (runL d l216)) :: (Blk b2 (d.cells dd0 dd1).toArray 25) :: Rs) w33 := hS34.sel 3 [1, 2] (Nat.le_add_left _ _) rfl rfl
  have hXl : ((runL d l216)).length = l216.length := runL_len _ _
  obtain ⟨X, hX⟩ : ∃ z, z = (runL d l216) := ⟨_, rfl⟩
  rw [← hX] at hS36 hXl
  have hr37 := hS36.row (i := 0) rfl
  have hr37s : X.length * 120 ≤ 140737488355328 := hr37.2
  obtain ⟨G38, hA40, hB41, hS42, hk43⟩ := hS36.lend
  have hrd44 := RowE.rd hA40
  have hrd44s : X.length * 120 ≤ 140737488355328 := hrd44.small
  refine WP_region0 (by kernel_rfl) (fun _ => ?_)
  refine st (ov_move (v := v32) rfl ?_)
  refine st (ov_len (n := X.length) Tryd.underlying66 rfl hrd44.sl ?_)
  refine st (ov_move (v := v15) rfl ?_)
  refine st (ov_len (n := l216.length) Tryd.underlying47 rfl (RdS.base hrd28 hB41).sl ?_)
  refine st (ov_neq (k := .i64) (a := ((X.length : Nat) : Int)) (b := ((l216.length : Nat) : Int)) rfl rfl ?_)
  have hkn45 : (!decide (((X.length : Nat) : Int) = ((l216.length : Nat) : Int))) = false := (by rw [hXl]; simp)
  rw [hkn45]
  refine st_nil ?_
  refine WP_cond_f rfl ?_
  refine WP_skip ?_
  refine WP_seq ?_
  refine WP_seq ?_
  refine WP_region0 (by kernel_rfl) (fun _ => ?_)
  refine st (ov_assign (v := .int .i64 (0)) rfl ?_)
  refine st_nil ?_
  refine WP_block ?_
  refine WP_loop (fun mq σ wq => ∃ (k : Nat) (ρ : Env), mq = X.length - k ∧ σ = setAll ρ [(2, v15), (3, .pointer (some ⟨b2, 0, none⟩)), (8, v32), (9, .int .i64 ((k : Nat) : Int))] ∧ (k ≤ X.length) ∧ Sep G38 w33 ((Blk b2 (d.cells dd0 dd1).toArray 25) :: Rs) wq) ⟨0, _, rfl, setAll_self ⟨rfl, rfl, rfl, rfl, trivial⟩, Nat.zero_le _, hS42⟩ ?_
  rintro m47 σ48 w46 ⟨k, ρl1, rfl, rfl, hkk, hS49⟩
  refine WP_seq ?_
  refine WP_seq ?_
  refine WP_region0 (by kernel_rfl) (fun _ => ?_)
  refine st (ov_move (v := .int .i64 ((k : Nat) : Int)) rfl ?_)
  refine st (ov_move (v := v32) rfl ?_)
  refine st (ov_len (n := X.length) Tryd.underlying66 rfl hrd44.sl ?_)
  refine st (ov_lss (k := .i64) (a := ((k : Nat) : Int)) (b := ((X.length : Nat) : Int)) rfl rfl ?_)
  refine st_nil ?_
  cases hc50 : decide (((k : Nat) : Int) < ((X.length : Nat) : Int))
  ·skip
   have hc50 := of_decide_eq_false hc50
   refine WP_cond_f rfl ?_
   refine WP_exit ?_
   refine blk_exit ?_
   refine WP_seq ?_
   refine WP_region0 (by kernel_rfl) (fun _ => ?_)
   refine st (ov_call (f := 21) (vals := []) (cap := []) (show _ = (.func (.func 21) #[] #[] : Value) from rfl) rfl Tryd.call21 (D_known13  (RdS.base (RdS.base hKN hB25) hB41) hS49) ?_)
   rintro _ w51 ⟨rfl, hS52⟩
   refine st (ov_assign (v := .bool true) rfl ?_)
   refine st_nil ?_
   refine WP_ret ?_
   refine fin1 Tryd.results5 (show _ = (.bool true : Value) from rfl) ?_
   have hS53 := hk43 _ _ hS52
   have hS54 := hk27 _ _ hS53
   have hS55 : Sep G W Rs w51 := hS54.sel 3 [] (Nat.le_add_left _ _) rfl rfl
   refine ⟨rfl, hS55⟩
  ·skip
   have hc50 := of_decide_eq_true hc50
   refine WP_cond_t rfl ?_
   refine WP_skip ?_
   refine WP_seq ?_
   refine WP_block ?_
   refine WP_seq ?_
   refine WP_region0 (by kernel_rfl) (fun _ => ?_)
   refine st (ov_move (v := v32) rfl ?_)
   refine st (ov_move (v := .int .i64 ((k : Nat) : Int)) rfl ?_)
   have hi56 : k < X.length := (by first | omega | (simp only [lens]; omega))
   refine st (ov_indexAddrN (k := 13) (i := k) Tryd.underlying66 Tryd.sizeOf62 rfl hrd44.sl rfl hi56 ?_)
   refine st (fd62_0 rfl ?_)
   have hi58 : k < X.length := (by first | omega | (simp only [lens]; omega))
   obtain ⟨hce57, hde57_0, hoke57⟩ := hrd44.ent hi58
   rw [← getD_at default hi58] at hce57 hde57_0 hoke57
   have hsm59 : ((X.getD k default).ev.deps).length * 8 ≤ 140737488355328 := hde57_0.small
   have hcw60 := hS49.cells hce57 (hrd44.foot (ne_of_lt hi58))
   refine st (ov_loadk (k := 10) (cs := [.int .i64 ((X.getD k default).ev.origin), .int .i64 ((X.getD k default).ev.seq), .int .i64 ((X.getD k default).ev.lam), (cellV w33 (sb v32) (so v32 + k * 13 + 3)), .int .i64 ((X.getD k default).ev.typ), .int .i64 ((X.getD k default).ev.agg), .int .i64 ((X.getD k default).ev.field), .int .i64 ((X.getD k default).ev.op), .int .i64 ((X.getD k default).ev.arg), .int .i64 ((X.getD k default).ev.key)]) Tryd.isAgg59 Tryd.sizeOf59 rfl rfl (CellsAt.sub hcw60 0 (cs2 := [.int .i64 ((X.getD k default).ev.origin), .int .i64 ((X.getD k default).ev.seq), .int .i64 ((X.getD k default).ev.lam), (cellV w33 (sb v32) (so v32 + k * 13 + 3)), .int .i64 ((X.getD k default).ev.typ), .int .i64 ((X.getD k default).ev.agg), .int .i64 ((X.getD k default).ev.field), .int .i64 ((X.getD k default).ev.op), .int .i64 ((X.getD k default).ev.arg), .int .i64 ((X.getD k default).ev.key)]) rfl) ?_)
   refine st (ov_alloc Tryd.zeroValue59 ?_)
   intro w63 b62 hn61
   have hS64 := hS49.new hn61
   refine stn (ov_store (v := .agg (((X.getD k default).ev).cells (cellV w33 (sb v32) (so v32 + k * 13 + 3))).toArray) (c' := (((X.getD k default).ev).cells (cellV w33 (sb v32) (so v32 + k * 13 + 3))).toArray) Tryd.sizeOf59 rfl rfl (hS64.blk (i := 0) rfl) (all1 ⟨rfl, rfl, rfl, hde57_0.sl.one, rfl, rfl, rfl, rfl, rfl, rfl, trivial⟩) (Nat.le_of_ble_eq_true rfl) rfl ?_)
   intro w65 hp66
   have hS67 : Sep G38 w33 ((Blk b62 (((X.getD k default).ev).cells (cellV w33 (sb v32) (so v32 + k * 13 + 3))).toArray 59) :: (Blk b2 (d.cells dd0 dd1).toArray 25) :: Rs) w65 := hS64.put (i := 0) rfl hp66
   refine st_nil ?_
   refine WP_seq ?_
   refine WP_seq ?_
   refine WP_draw4 (WF [fun vals wq => Sep G38 w33 ((Blk b62 (((X.getD k default).ev).cells (cellV w33 (sb v32) (so v32 + k * 13 + 3))).toArray 59) :: (Blk b2 (d.cells dd0 dd1).toArray 25) :: Rs) wq, fun vals wq => (vals 5 = (.bool (decide (((X.getD k default).ev) = (l216.getD k default))) : Value)) ∧ Sep G38 w33 ((Blk b62 (((X.getD k default).ev).cells (cellV w33 (sb v32) (so v32 + k * 13 + 3))).toArray 59) :: (Blk b2 (d.cells dd0 dd1).toArray 25) :: Rs) wq]) (AF [Vl 0 (.agg (((X.getD k default).ev).cells (cellV w33 (sb v32) (so v32 + k * 13 + 3))).toArray), Vl 1 (v15), Vl 2 (.int .i64 ((k : Nat) : Int)), Vl 3 (.pointer (some ⟨sb v15, so v15 + k * 10, none⟩)), Vl 4 (.agg ((l216.getD k default).cells (cellV w33 (sb v15) (so v15 + k * 10 + 3))).toArray), fun _ => True, Vl 6 (.bool (!(decide (((X.getD k default).ev) = (l216.getD k default)))))]) [[], [], [], [1, 2], [1, 2, 3], [0, 1, 2, 3, 4], [0, 1, 2, 3, 4, 5]] [5] [(0, 0), (0, 0), (0, 0), (0, 0), (0, 0), (0, 0), (1, 1)] (by kernel_rfl) (by kernel_rfl) (by kernel_rfl) rfl (by kernel_rfl) (by kernel_rfl) (fun _ h1 h2 h3 h4 _ => hS67.same h1 h2 h3 h4) ?_ (AF_loc ⟨dA, dA, dA, dA, dA, dT, dA, trivial⟩) ⟨?_, ?_, ?_, ?_, ?_, ?_, ?_, trivial⟩ ?_
   ·intro k vals vals' w hv h
    have e : ∀ j ∈ ([5] : List Nat), vals' j = vals j := hv
    match k, h with
    | 0, h => exact h
    | 1, h => exact (by simpa only [WF, List.getElem?_cons_zero, List.getElem?_cons_succ, e 5 (by decide)] using h)
    | _ + 2, _ => trivial
   ·intro k132 vals w133 h136 h137 hW135 hA134
    obtain rfl : k132 = 0 := Nat.le_antisymm h137 h136
    have hS138 : Sep _ _ _ _ := hW135
    refine obl rfl ?_
    exact ov_loadk (k := 10) Tryd.isAgg59 Tryd.sizeOf59 rfl rfl (CellsAt.all (hS138.blk (i := 0) rfl)) (fun vals' hv _ => ⟨rfl, hv⟩)
   ·intro k139 vals w140 h143 h144 hW142 hA141
    refine obl rfl ?_
    exact ov_move (v := v15) rfl (fun vals' hv _ => ⟨rfl, hv⟩)
   ·intro k145 vals w146 h149 h150 hW148 hA147
    refine obl rfl ?_
    exact ov_move (v := .int .i64 ((k : Nat) : Int)) rfl (fun vals' hv _ => ⟨rfl, hv⟩)
   ·intro k151 vals w152 h155 h156 hW154 hA153
    obtain rfl : k151 = 0 := Nat.le_antisymm h156 h155
    have hS157 : Sep _ _ _ _ := hW154
    have e158 := hA153 1 (by decide)
    have e159 := hA153 2 (by decide)
    refine obl rfl ?_
    have hi160 : k < l216.length := (by first | omega | (simp only [lens]; omega))
    exact ov_indexAddrN (k := 10) (i := k) Tryd.underlying47 Tryd.sizeOf59 e158 (RdS.base hrd28 hB41).sl e159 hi160 (fun vals' hv _ => ⟨rfl, hv⟩)
   ·intro k161 vals w162 h165 h166 hW164 hA163
    obtain rfl : k161 = 0 := Nat.le_antisymm h166 h165
    have hS167 : Sep _ _ _ _ := hW164
    have e168 := hA163 3 (by decide)
    refine obl rfl ?_
    have hi170 : k < l216.length := (by first | omega | (simp only [lens]; omega))
    obtain ⟨hce169, hde169_0, hoke169⟩ := (RdS.base hrd28 hB41).ev hi170
    rw [← getD_at default hi170] at hce169 hde169_0 hoke169
    have hsm171 : ((l216.getD k default).deps).length * 8 ≤ 140737488355328 := hde169_0.small
    have hcw172 := hS167.cells hce169 ((RdS.base hrd28 hB41).foot (ne_of_lt hi170))
    exact ov_loadk (k := 10) Tryd.isAgg59 Tryd.sizeOf59 rfl e168 hcw172 (fun vals' hv _ => ⟨rfl, hv⟩)
   ·intro k109 vals w110 h113 h114 hW112 hA111
    obtain rfl : k109 = 0 := Nat.le_antisymm h114 h113
    have hS115 : Sep _ _ _ _ := hW112
    have e116 := hA111 0 (by decide)
    have e117 := hA111 4 (by decide)
    refine obl rfl ?_
    have hi119 : k < l216.length := (by first | omega | (simp only [lens]; omega))
    obtain ⟨hce118, hde118_0, hoke118⟩ := (RdS.base hrd28 hB41).ev hi119
    rw [← getD_at default hi119] at hce118 hde118_0 hoke118
    have hsm120 : ((l216.getD k default).deps).length * 8 ≤ 140737488355328 := hde118_0.small
    have hcw121 := hS115.cells hce118 ((RdS.base hrd28 hB41).foot (ne_of_lt hi119))
    refine (ov_call (f := 39) (vals := [.agg (((X.getD k default).ev).cells (cellV w33 (sb v32) (so v32 + k * 13 + 3))).toArray, .agg ((l216.getD k default).cells (cellV w33 (sb v15) (so v15 + k * 10 + 3))).toArray]) (cap := []) (show _ = (.func (.func 39) #[] #[] : Value) from rfl) (mapL ⟨e116, e117, trivial⟩) Tryd.call39 (D_sameEvent (a := ((X.getD k default).ev)) (b := (l216.getD k default)) hde57_0 hoke57.ev hde118_0 hoke118 hS115) ?_)
    rintro _ w122 ⟨rfl, hS123⟩
    intro vals' hv hv'
    refine ⟨?_, trivial⟩
    show (vals' 5 = (.bool (decide (((X.getD k default).ev) = (l216.getD k default))) : Value)) ∧ Sep G38 w33 ((Blk b62 (((X.getD k default).ev).cells (cellV w33 (sb v32) (so v32 + k * 13 + 3))).toArray 59) :: (Blk b2 (d.cells dd0 dd1).toArray 25) :: Rs) w122
    exact ⟨hv, hS123⟩
   ·intro k173 vals w174 h177 h178 hW176 hA175
    obtain rfl : k173 = 1 := Nat.le_antisymm h178 h177
    obtain ⟨he124, hS179⟩ := hW176
    refine obl rfl ?_
    exact ov_not (a := decide (((X.getD k default).ev) = (l216.getD k default))) he124 (fun vals' hv _ => ⟨rfl, hv⟩)
   intro vals w180 hW181 hA182
   obtain ⟨he124, hS183⟩ := hW181
   have e184 := hA182 6 (by decide)
   refine st_env (kv := [(2, v15), (3, .pointer (some ⟨b2, 0, none⟩)), (8, v32), (9, .int .i64 ((k : Nat) : Int)), (37, .int .i64 ((k : Nat) : Int)), (38, v32), (39, .int .i64 ((X.length : Nat) : Int)), (40, .bool true), (43, v32), (44, .int .i64 ((k : Nat) : Int)), (45, .pointer (some ⟨sb v32, so v32 + k * 13, none⟩)), (46, .pointer (some ⟨sb v32, so v32 + k * 13, none⟩)), (47, .agg (((X.getD k default).ev).cells (cellV w33 (sb v32) (so v32 + k * 13 + 3))).toArray), (10, .pointer (some ⟨b62, 0, none⟩)), (54, .bool (!(decide (((X.getD k default).ev) = (l216.getD k default)))))]) ⟨rfl, rfl, rfl, rfl, rfl, rfl, rfl, rfl, rfl, rfl, rfl, rfl, rfl, rfl, (by exact e184), trivial⟩ (fun ρw180 => ?_)
   refine st_nil ?_
   cases hc185 : !(decide (((X.getD k default).ev) = (l216.getD k default)))
   ·skip
    have hc185 := ndec_false hc185
    refine WP_cond_f rfl ?_
    refine WP_skip ?_
    refine WP_seq ?_
    refine WP_region0 (by kernel_rfl) (fun _ => ?_)
    refine st (ov_assign (v := .int .i64 (-1)) rfl ?_)
    refine st_nil ?_
    refine WP_seq ?_
    refine WP_seq ?_
    refine WP_region0 (by kernel_rfl) (fun _ => ?_)
    refine st (ov_loadk (k := 2) Tryd.isAgg25 Tryd.sizeOf25 rfl rfl (CellsAt.all (hS183.blk (i := 1) rfl)) ?_)
    refine st (fd59_3 rfl ?_)
    refine st (ov_load1 (v := .int .i64 (((X.getD k default).ev).typ)) Tryd.isAgg3 rfl (blk_cellL (hS183.blk (i := 0) rfl) rfl) ?_)
    refine st (fd59_5 rfl ?_)
    refine st (ov_load1 (v := .int .i64 (((X.getD k default).ev).field)) Tryd.isAgg3 rfl (blk_cellL (hS183.blk (i := 0) rfl) rfl) ?_)
    refine st (fd59_6 rfl ?_)
    refine st (ov_load1 (v := .int .i64 (((X.getD k default).ev).op)) Tryd.isAgg3 rfl (blk_cellL (hS183.blk (i := 0) rfl) rfl) ?_)
    refine st (fd59_7 rfl ?_)
    refine st (ov_load1 (v := .int .i64 (((X.getD k default).ev).arg)) Tryd.isAgg3 rfl (blk_cellL (hS183.blk (i := 0) rfl) rfl) ?_)
    refine st (ov_call (f := 15) (vals := [.agg (d.cells dd0 dd1).toArray, .int .i64 (((X.getD k default).ev).typ), .int .i64 (((X.getD k default).ev).field), .int .i64 (((X.getD k default).ev).op), .int .i64 (((X.getD k default).ev).arg)]) (cap := []) (show _ = (.func (.func 15) #[] #[] : Value) from rfl) rfl Tryd.call15 (D_Fits (d := d) (ty := ((X.getD k default).ev).typ) (f := ((X.getD k default).ev).field) (op := ((X.getD k default).ev).op) (arg := ((X.getD k default).ev).arg) (RdS.base (RdS.base hdd0 hB25) hB41) (RdS.base (RdS.base hdd1 hB25) hB41) od hoke57.ev.typ hoke57.ev.field hoke57.ev.op hoke57.ev.arg (RdS.base (RdS.base hKN hB25) hB41) hS183) ?_)
    rintro _ w186 ⟨rfl, hS187⟩
    refine st (ov_eql (k := .i64) (a := fitsL d (((X.getD k default).ev).typ) (((X.getD k default).ev).field) (((X.getD k default).ev).op) (((X.getD k default).ev).arg)) (b := 0) rfl rfl ?_)
    refine st_nil ?_
    refine WP_join (fun σ wq => ∃ (b : Int) (ρ : Env), σ = setAll ρ [(2, v15), (3, .pointer (some ⟨b2, 0, none⟩)), (8, v32), (9, .int .i64 ((k : Nat) : Int)), (10, .pointer (some ⟨b62, 0, none⟩)), (11, .int .i64 (b))] ∧ (JR d X k b) ∧ Sep G38 w33 ((Blk b62 (((X.getD k default).ev).cells (cellV w33 (sb v32) (so v32 + k * 13 + 3))).toArray 59) :: (Blk b2 (d.cells dd0 dd1).toArray 25) :: Rs) wq) ?_ ?_
    ·skip
     cases hc188 : decide ((fitsL d (((X.getD k default).ev).typ) (((X.getD k default).ev).field) (((X.getD k default).ev).op) (((X.getD k default).ev).arg)) = 0)
     ·skip
      have hc188 := of_decide_eq_false hc188
      refine WP_cond_f rfl ?_
      refine WP_seq ?_
      refine WP_region0 (by kernel_rfl) (fun _ => ?_)
      refine st (ov_move (v := v32) rfl ?_)
      refine st (ov_move (v := .int .i64 ((k : Nat) : Int)) rfl ?_)
      have hi189 : k < X.length := (by first | omega | (simp only [lens]; omega))
      refine st (ov_indexAddrN (k := 13) (i := k) Tryd.underlying66 Tryd.sizeOf62 rfl hrd44.sl rfl hi189 ?_)
      refine st (fd62_1 rfl ?_)
      have hcw191 := hS187.cells hce57 (hrd44.foot (ne_of_lt hi58))
      refine st (ov_load1 (v := .bool ((X.getD k default).void)) Tryd.isAgg4 rfl (hcw191.get (j := 10) rfl) ?_)
      refine st (ov_not (a := (X.getD k default).void) rfl ?_)
      refine st_nil ?_
      cases hc192 : !((X.getD k default).void)
      ·skip
       try simp only [bools] at hc192
       refine WP_cond_f rfl ?_
       refine WP_skip ?_
       exact ⟨rfl, -1, _, setAll_self ⟨(show _ = (v15 : Value) from rfl), (show _ = (.pointer (some ⟨b2, 0, none⟩) : Value) from rfl), (show _ = (v32 : Value) from rfl), (show _ = (.int .i64 ((k : Nat) : Int) : Value) from rfl), (show _ = (.pointer (some ⟨b62, 0, none⟩) : Value) from rfl), (show _ = (.int .i64 (-1) : Value) from rfl), trivial⟩, (.inl ⟨hc188, rfl⟩), hS187⟩
      ·skip
       try simp only [bools] at hc192
       exfalso
       have h9 := misfit_void (d := d) (l := l216) (i := k) (by omega) (by rw [← hX]; exact hc188)
       rw [← hX, hc192] at h9
       cases h9.1
     ·skip
      have hc188 := of_decide_eq_true hc188
      refine WP_cond_t rfl ?_
      refine WP_seq ?_
      refine WP_region0 (by kernel_rfl) (fun _ => ?_)
      refine st (ov_loadk (k := 2) Tryd.isAgg25 Tryd.sizeOf25 rfl rfl (CellsAt.all (hS187.blk (i := 1) rfl)) ?_)
      refine st (fd59_3 rfl ?_)
      refine st (ov_load1 (v := .int .i64 (((X.getD k default).ev).typ)) Tryd.isAgg3 rfl (blk_cellL (hS187.blk (i := 0) rfl) rfl) ?_)
      refine st (fd59_5 rfl ?_)
      refine st (ov_load1 (v := .int .i64 (((X.getD k default).ev).field)) Tryd.isAgg3 rfl (blk_cellL (hS187.blk (i := 0) rfl) rfl) ?_)
      refine st (ov_call (f := 40) (vals := [.agg (d.cells dd0 dd1).toArray, .int .i64 (((X.getD k default).ev).typ), .int .i64 (((X.getD k default).ev).field)]) (cap := []) (show _ = (.func (.func 40) #[] #[] : Value) from rfl) rfl Tryd.call40 (D_Field (d := d) (ty := ((X.getD k default).ev).typ) (f := ((X.getD k default).ev).field) (RdS.base (RdS.base hdd0 hB25) hB41) (RdS.base (RdS.base hdd1 hB25) hB41) od hoke57.ev.typ hoke57.ev.field hS187) ?_)
      rintro _ w195 ⟨v193, rfl, hfok194, hS196⟩
      have hr197 := hS196.row (i := 0) rfl
      have hr197s : ((fieldL d (((X.getD k default).ev).typ) (((X.getD k default).ev).field)).moves).length * 32 ≤ 140737488355328 := hr197.2
      refine st (ov_move (v := .tuple #[.agg ((fieldL d (((X.getD k default).ev).typ) (((X.getD k default).ev).field)).cells v193).toArray, .bool ((fieldB d (((X.getD k default).ev).typ) (((X.getD k default).ev).field)))]) rfl ?_)
      refine st (ov_extract (vs := [.agg ((fieldL d (((X.getD k default).ev).typ) (((X.getD k default).ev).field)).cells v193).toArray, .bool ((fieldB d (((X.getD k default).ev).typ) (((X.getD k default).ev).field)))]) (i := 0) (v := .agg ((fieldL d (((X.getD k default).ev).typ) (((X.getD k default).ev).field)).cells v193).toArray) rfl rfl ?_)
      refine st (ov_extract (vs := [.agg ((fieldL d (((X.getD k default).ev).typ) (((X.getD k default).ev).field)).cells v193).toArray, .bool ((fieldB d (((X.getD k default).ev).typ) (((X.getD k default).ev).field)))]) (i := 1) (v := .bool ((fieldB d (((X.getD k default).ev).typ) (((X.getD k default).ev).field)))) rfl rfl ?_)
      refine st (ov_alloc Tryd.zeroValue79 ?_)
      intro w200 b199 hn198
      have hS201 := hS196.new hn198
      refine stn (ov_store (v := .agg ((fieldL d (((X.getD k default).ev).typ) (((X.getD k default).ev).field)).cells v193).toArray) (c' := ((fieldL d (((X.getD k default).ev).typ) (((X.getD k default).ev).field)).cells v193).toArray) Tryd.sizeOf79 rfl rfl (hS201.blk (i := 0) rfl) (all1 ⟨rfl, rfl, rfl, hr197.1.one, trivial⟩) (Nat.le_of_ble_eq_true rfl) rfl ?_)
      intro w202 hp203
      have hS204 : Sep G38 w33 ((Blk b199 ((fieldL d (((X.getD k default).ev).typ) (((X.getD k default).ev).field)).cells v193).toArray 79) :: (RowE (α := Mv) own 115 v193 ((fieldL d (((X.getD k default).ev).typ) (((X.getD k default).ev).field)).moves)) :: (Blk b62 (((X.getD k default).ev).cells (cellV w33 (sb v32) (so v32 + k * 13 + 3))).toArray 59) :: (Blk b2 (d.cells dd0 dd1).toArray 25) :: Rs) w202 := hS201.put (i := 0) rfl hp203
      refine st (ov_assign (v := .bool ((fieldB d (((X.getD k default).ev).typ) (((X.getD k default).ev).field)))) rfl ?_)
      refine st_nil ?_
      refine WP_seq ?_
      have hfl9 := fieldL_fits hc188
      refine WP_region0 (by kernel_rfl) (fun _ => ?_)
      refine st (ov_move (v := .int .i64 ((k : Nat) : Int)) rfl ?_)
      have hr205 : InR (((k : Nat) : Int) - 1) := by omega
      refine st (ov_sub (r := ((k : Nat) : Int) - 1) (k := .i64) (a := ((k : Nat) : Int)) (b := 1) rfl rfl (wrap_in hr205) ?_)
      refine st (ov_assign (v := .int .i64 (((k : Nat) : Int) - 1)) rfl ?_)
      refine st_nil ?_
      refine WP_block ?_
      refine WP_loop (fun mq σ wq => ∃ (q : Nat) (b : Int) (ρ : Env), mq = q + 1 ∧ σ = setAll ρ [(2, v15), (3, .pointer (some ⟨b2, 0, none⟩)), (8, v32), (9, .int .i64 ((k : Nat) : Int)), (10, .pointer (some ⟨b62, 0, none⟩)), (12, .pointer (some ⟨b199, 0, none⟩)), (11, .int .i64 (b)), (14, .int .i64 (((q : Nat) : Int) - 1))] ∧ (q ≤ k) ∧ (-1 ≤ b ∧ b < 1000) ∧ (JB d X k q b) ∧ Sep G38 w33 ((Blk b199 ((fieldL d (((X.getD k default).ev).typ) (((X.getD k default).ev).field)).cells v193).toArray 79) :: (RowE (α := Mv) own 115 v193 ((fieldL d (((X.getD k default).ev).typ) (((X.getD k default).ev).field)).moves)) :: (Blk b62 (((X.getD k default).ev).cells (cellV w33 (sb v32) (so v32 + k * 13 + 3))).toArray 59) :: (Blk b2 (d.cells dd0 dd1).toArray 25) :: Rs) wq) ⟨k, -1, _, rfl, setAll_self ⟨rfl, rfl, rfl, rfl, rfl, rfl, rfl, rfl, trivial⟩, Nat.le_refl _, ⟨by omega, by omega⟩, JB.start, hS204⟩ ?_
      rintro m207 σ208 w206 ⟨q, b, ρl2, rfl, rfl, hqk, hb9, hJ, hS209⟩
      refine WP_seq ?_
      refine WP_seq ?_
      refine WP_region0 (by kernel_rfl) (fun _ => ?_)
      refine st (ov_move (v := .int .i64 (((q : Nat) : Int) - 1)) rfl ?_)
      refine st (ov_geq (k := .i64) (a := ((q : Nat) : Int) - 1) (b := 0) rfl rfl ?_)
      refine st_nil ?_
      cases hc210 : decide (0 ≤ (((q : Nat) : Int) - 1))
      ·skip
       have hc210 := of_decide_eq_false hc210
       refine WP_cond_f rfl ?_
       refine WP_exit ?_
       try simp only [thenQ]
       refine blk_exit ?_
       have hq0 : q = 0 := by omega
       rw [hq0] at hJ
       have hS211 : Sep G38 w33 ((Blk b62 (((X.getD k default).ev).cells (cellV w33 (sb v32) (so v32 + k * 13 + 3))).toArray 59) :: (Blk b2 (d.cells dd0 dd1).toArray 25) :: Rs) w206 := hS209.sel 4 [2, 3] (Nat.le_add_left _ _) rfl rfl
       exact ⟨rfl, b, _, setAll_self ⟨(show _ = (v15 : Value) from rfl), (show _ = (.pointer (some ⟨b2, 0, none⟩) : Value) from rfl), (show _ = (v32 : Value) from rfl), (show _ = (.int .i64 ((k : Nat) : Int) : Value) from rfl), (show _ = (.pointer (some ⟨b62, 0, none⟩) : Value) from rfl), (show _ = (.int .i64 (b) : Value) from rfl), trivial⟩, (.inr ⟨hc188, hJ⟩), hS211⟩
      ·skip
       have hc210 := of_decide_eq_true hc210
       refine WP_cond_t rfl ?_
       refine WP_skip ?_
       refine WP_seq ?_
       refine WP_block ?_
       refine WP_seq ?_
       refine WP_region0 (by kernel_rfl) (fun _ => ?_)
       refine st (ov_move (v := v32) rfl ?_)
       refine st (ov_move (v := .int .i64 (((q : Nat) : Int) - 1)) rfl ?_)
       have hi212 : (((q : Nat) : Int) - 1).toNat < X.length := (by first | omega | (simp only [lens]; omega))
       refine st (ov_indexAddr (k := 13) (i := ((q : Nat) : Int) - 1) Tryd.underlying66 Tryd.sizeOf62 rfl hrd44.sl rfl ⟨by omega, by omega⟩ ?_)
       refine st (fd62_0 rfl ?_)
       have hi214 : (((q : Nat) : Int) - 1).toNat < X.length := (by first | omega | (simp only [lens]; omega))
       obtain ⟨hce213, hde213_0, hoke213⟩ := hrd44.ent hi214
       rw [← getD_at default hi214] at hce213 hde213_0 hoke213
       have hsm215 : ((X.getD ((((q : Nat) : Int) - 1).toNat) default).ev.deps).length * 8 ≤ 140737488355328 := hde213_0.small
       have hcw216 := hS209.cells hce213 (hrd44.foot (ne_of_lt hi214))
       refine st (ov_loadk (k := 10) (cs := [.int .i64 ((X.getD ((((q : Nat) : Int) - 1).toNat) default).ev.origin), .int .i64 ((X.getD ((((q : Nat) : Int) - 1).toNat) default).ev.seq), .int .i64 ((X.getD ((((q : Nat) : Int) - 1).toNat) default).ev.lam), (cellV w33 (sb v32) (so v32 + ((((q : Nat) : Int) - 1).toNat) * 13 + 3)), .int .i64 ((X.getD ((((q : Nat) : Int) - 1).toNat) default).ev.typ), .int .i64 ((X.getD ((((q : Nat) : Int) - 1).toNat) default).ev.agg), .int .i64 ((X.getD ((((q : Nat) : Int) - 1).toNat) default).ev.field), .int .i64 ((X.getD ((((q : Nat) : Int) - 1).toNat) default).ev.op), .int .i64 ((X.getD ((((q : Nat) : Int) - 1).toNat) default).ev.arg), .int .i64 ((X.getD ((((q : Nat) : Int) - 1).toNat) default).ev.key)]) Tryd.isAgg59 Tryd.sizeOf59 rfl rfl (CellsAt.sub hcw216 0 (cs2 := [.int .i64 ((X.getD ((((q : Nat) : Int) - 1).toNat) default).ev.origin), .int .i64 ((X.getD ((((q : Nat) : Int) - 1).toNat) default).ev.seq), .int .i64 ((X.getD ((((q : Nat) : Int) - 1).toNat) default).ev.lam), (cellV w33 (sb v32) (so v32 + ((((q : Nat) : Int) - 1).toNat) * 13 + 3)), .int .i64 ((X.getD ((((q : Nat) : Int) - 1).toNat) default).ev.typ), .int .i64 ((X.getD ((((q : Nat) : Int) - 1).toNat) default).ev.agg), .int .i64 ((X.getD ((((q : Nat) : Int) - 1).toNat) default).ev.field), .int .i64 ((X.getD ((((q : Nat) : Int) - 1).toNat) default).ev.op), .int .i64 ((X.getD ((((q : Nat) : Int) - 1).toNat) default).ev.arg), .int .i64 ((X.getD ((((q : Nat) : Int) - 1).toNat) default).ev.key)]) rfl) ?_)
       refine st (ov_alloc Tryd.zeroValue59 ?_)
       intro w219 b218 hn217
       have hS220 := hS209.new hn217
       refine stn (ov_store (v := .agg (((X.getD ((((q : Nat) : Int) - 1).toNat) default).ev).cells (cellV w33 (sb v32) (so v32 + ((((q : Nat) : Int) - 1).toNat) * 13 + 3))).toArray) (c' := (((X.getD ((((q : Nat) : Int) - 1).toNat) default).ev).cells (cellV w33 (sb v32) (so v32 + ((((q : Nat) : Int) - 1).toNat) * 13 + 3))).toArray) Tryd.sizeOf59 rfl rfl (hS220.blk (i := 0) rfl) (all1 ⟨rfl, rfl, rfl, hde213_0.sl.one, rfl, rfl, rfl, rfl, rfl, rfl, trivial⟩) (Nat.le_of_ble_eq_true rfl) rfl ?_)
       intro w221 hp222
       have hS223 : Sep G38 w33 ((Blk b218 (((X.getD ((((q : Nat) : Int) - 1).toNat) default).ev).cells (cellV w33 (sb v32) (so v32 + ((((q : Nat) : Int) - 1).toNat) * 13 + 3))).toArray 59) :: (Blk b199 ((fieldL d (((X.getD k default).ev).typ) (((X.getD k default).ev).field)).cells v193).toArray 79) :: (RowE (α := Mv) own 115 v193 ((fieldL d (((X.getD k default).ev).typ) (((X.getD k default).ev).field)).moves)) :: (Blk b62 (((X.getD k default).ev).cells (cellV w33 (sb v32) (so v32 + k * 13 + 3))).toArray 59) :: (Blk b2 (d.cells dd0 dd1).toArray 25) :: Rs) w221 := hS220.put (i := 0) rfl hp222
       refine st_nil ?_
       refine WP_seq ?_
       refine WP_region (by kernel_rfl) ?_
       refine st (ov_move (v := v32) rfl ?_)
       refine st (ov_move (v := .int .i64 (((q : Nat) : Int) - 1)) rfl ?_)
       have hi224 : (((q : Nat) : Int) - 1).toNat < X.length := (by first | omega | (simp only [lens]; omega))
       refine st (ov_indexAddr (k := 13) (i := ((q : Nat) : Int) - 1) Tryd.underlying66 Tryd.sizeOf62 rfl hrd44.sl rfl ⟨by omega, by omega⟩ ?_)
       refine st (fd62_1 rfl ?_)
       have hcw226 := hS223.cells hce213 (hrd44.foot (ne_of_lt hi214))
       refine st (ov_load1 (v := .bool ((X.getD ((((q : Nat) : Int) - 1).toNat) default).void)) Tryd.isAgg4 rfl (hcw226.get (j := 10) rfl) ?_)
       refine st (ov_not (a := (X.getD ((((q : Nat) : Int) - 1).toNat) default).void) rfl ?_)
       refine st (ov_move (v := .bool (!((X.getD ((((q : Nat) : Int) - 1).toNat) default).void))) rfl ?_)
       refine stc (V := .pointer (some ⟨b218, 4, none⟩)) rfl rfl (fun hb227 => ?_) ?_
       ·have hl228 := hb227
        try simp only [bools] at hl228
        exact fd59_3 rfl ⟨rfl, rfl⟩
       refine stc (V := .int .i64 (((X.getD ((((q : Nat) : Int) - 1).toNat) default).ev).typ)) rfl rfl (fun hb229 => ?_) ?_
       ·have hl230 := hb229
        try simp only [bools] at hl230
        exact ov_load1 (v := .int .i64 (((X.getD ((((q : Nat) : Int) - 1).toNat) default).ev).typ)) Tryd.isAgg3 (show _ = (.pointer (some ⟨b218, 4, none⟩) : Value) from (if_pos hb229)) (blk_cellL (hS223.blk (i := 0) rfl) rfl) ⟨rfl, rfl⟩
       refine stc (V := .pointer (some ⟨b62, 4, none⟩)) rfl rfl (fun hb231 => ?_) ?_
       ·have hl232 := hb231
        try simp only [bools] at hl232
        exact fd59_3 rfl ⟨rfl, rfl⟩
       refine stc (V := .int .i64 (((X.getD k default).ev).typ)) rfl rfl (fun hb233 => ?_) ?_
       ·have hl234 := hb233
        try simp only [bools] at hl234
        exact ov_load1 (v := .int .i64 (((X.getD k default).ev).typ)) Tryd.isAgg3 (show _ = (.pointer (some ⟨b62, 4, none⟩) : Value) from (if_pos hb233)) (blk_cellL (hS223.blk (i := 3) rfl) rfl) ⟨rfl, rfl⟩
       refine stc (V := .bool (decide ((((X.getD ((((q : Nat) : Int) - 1).toNat) default).ev).typ) = (((X.getD k default).ev).typ)))) rfl rfl (fun hb235 => ?_) ?_
       ·have hl236 := hb235
        try simp only [bools] at hl236
        exact ov_eql (k := .i64) (a := ((X.getD ((((q : Nat) : Int) - 1).toNat) default).ev).typ) (b := ((X.getD k default).ev).typ) (show _ = (.int .i64 (((X.getD ((((q : Nat) : Int) - 1).toNat) default).ev).typ) : Value) from (if_pos hb235)) (show _ = (.int .i64 (((X.getD k default).ev).typ) : Value) from (if_pos hb235)) ⟨rfl, rfl⟩
       refine st (ov_pick_and (b := !((X.getD ((((q : Nat) : Int) - 1).toNat) default).void)) (b' := decide ((((X.getD ((((q : Nat) : Int) - 1).toNat) default).ev).typ) = (((X.getD k default).ev).typ))) rfl (fun hbp => (show _ = (.bool (decide ((((X.getD ((((q : Nat) : Int) - 1).toNat) default).ev).typ) = (((X.getD k default).ev).typ))) : Value) from (if_pos hbp))) ?_)
       refine st (ov_move (v := .bool ((!((X.getD ((((q : Nat) : Int) - 1).toNat) default).void)) && (decide ((((X.getD ((((q : Nat) : Int) - 1).toNat) default).ev).typ) = (((X.getD k default).ev).typ))))) rfl ?_)
       refine stc (V := .pointer (some ⟨b218, 5, none⟩)) rfl rfl (fun hb237 => ?_) ?_
       ·have hl238 := hb237
        try simp only [bools] at hl238
        exact fd59_4 rfl ⟨rfl, rfl⟩
       refine stc (V := .int .i64 (((X.getD ((((q : Nat) : Int) - 1).toNat) default).ev).agg)) rfl rfl (fun hb239 => ?_) ?_
       ·have hl240 := hb239
        try simp only [bools] at hl240
        exact ov_load1 (v := .int .i64 (((X.getD ((((q : Nat) : Int) - 1).toNat) default).ev).agg)) Tryd.isAgg3 (show _ = (.pointer (some ⟨b218, 5, none⟩) : Value) from (if_pos hb239)) (blk_cellL (hS223.blk (i := 0) rfl) rfl) ⟨rfl, rfl⟩
       refine stc (V := .pointer (some ⟨b62, 5, none⟩)) rfl rfl (fun hb241 => ?_) ?_
       ·have hl242 := hb241
        try simp only [bools] at hl242
        exact fd59_4 rfl ⟨rfl, rfl⟩
       refine stc (V := .int .i64 (((X.getD k default).ev).agg)) rfl rfl (fun hb243 => ?_) ?_
       ·have hl244 := hb243
        try simp only [bools] at hl244
        exact ov_load1 (v := .int .i64 (((X.getD k default).ev).agg)) Tryd.isAgg3 (show _ = (.pointer (some ⟨b62, 5, none⟩) : Value) from (if_pos hb243)) (blk_cellL (hS223.blk (i := 3) rfl) rfl) ⟨rfl, rfl⟩
       refine stc (V := .bool (decide ((((X.getD ((((q : Nat) : Int) - 1).toNat) default).ev).agg) = (((X.getD k default).ev).agg)))) rfl rfl (fun hb245 => ?_) ?_
       ·have hl246 := hb245
        try simp only [bools] at hl246
        exact ov_eql (k := .i64) (a := ((X.getD ((((q : Nat) : Int) - 1).toNat) default).ev).agg) (b := ((X.getD k default).ev).agg) (show _ = (.int .i64 (((X.getD ((((q : Nat) : Int) - 1).toNat) default).ev).agg) : Value) from (if_pos hb245)) (show _ = (.int .i64 (((X.getD k default).ev).agg) : Value) from (if_pos hb245)) ⟨rfl, rfl⟩
       refine st (ov_pick_and (b := (!((X.getD ((((q : Nat) : Int) - 1).toNat) default).void)) && (decide ((((X.getD ((((q : Nat) : Int) - 1).toNat) default).ev).typ) = (((X.getD k default).ev).typ)))) (b' := decide ((((X.getD ((((q : Nat) : Int) - 1).toNat) default).ev).agg) = (((X.getD k default).ev).agg))) rfl (fun hbp => (show _ = (.bool (decide ((((X.getD ((((q : Nat) : Int) - 1).toNat) default).ev).agg) = (((X.getD k default).ev).agg))) : Value) from (if_pos hbp))) ?_)
       refine st (ov_move (v := .bool (((!((X.getD ((((q : Nat) : Int) - 1).toNat) default).void)) && (decide ((((X.getD ((((q : Nat) : Int) - 1).toNat) default).ev).typ) = (((X.getD k default).ev).typ)))) && (decide ((((X.getD ((((q : Nat) : Int) - 1).toNat) default).ev).agg) = (((X.getD k default).ev).agg))))) rfl ?_)
       refine stc (V := .pointer (some ⟨b218, 6, none⟩)) rfl rfl (fun hb247 => ?_) ?_
       ·have hl248 := hb247
        try simp only [bools] at hl248
        exact fd59_5 rfl ⟨rfl, rfl⟩
       refine stc (V := .int .i64 (((X.getD ((((q : Nat) : Int) - 1).toNat) default).ev).field)) rfl rfl (fun hb249 => ?_) ?_
       ·have hl250 := hb249
        try simp only [bools] at hl250
        exact ov_load1 (v := .int .i64 (((X.getD ((((q : Nat) : Int) - 1).toNat) default).ev).field)) Tryd.isAgg3 (show _ = (.pointer (some ⟨b218, 6, none⟩) : Value) from (if_pos hb249)) (blk_cellL (hS223.blk (i := 0) rfl) rfl) ⟨rfl, rfl⟩
       refine stc (V := .pointer (some ⟨b62, 6, none⟩)) rfl rfl (fun hb251 => ?_) ?_
       ·have hl252 := hb251
        try simp only [bools] at hl252
        exact fd59_5 rfl ⟨rfl, rfl⟩
       refine stc (V := .int .i64 (((X.getD k default).ev).field)) rfl rfl (fun hb253 => ?_) ?_
       ·have hl254 := hb253
        try simp only [bools] at hl254
        exact ov_load1 (v := .int .i64 (((X.getD k default).ev).field)) Tryd.isAgg3 (show _ = (.pointer (some ⟨b62, 6, none⟩) : Value) from (if_pos hb253)) (blk_cellL (hS223.blk (i := 3) rfl) rfl) ⟨rfl, rfl⟩
       refine stc (V := .bool (decide ((((X.getD ((((q : Nat) : Int) - 1).toNat) default).ev).field) = (((X.getD k default).ev).field)))) rfl rfl (fun hb255 => ?_) ?_
       ·have hl256 := hb255
        try simp only [bools] at hl256
        exact ov_eql (k := .i64) (a := ((X.getD ((((q : Nat) : Int) - 1).toNat) default).ev).field) (b := ((X.getD k default).ev).field) (show _ = (.int .i64 (((X.getD ((((q : Nat) : Int) - 1).toNat) default).ev).field) : Value) from (if_pos hb255)) (show _ = (.int .i64 (((X.getD k default).ev).field) : Value) from (if_pos hb255)) ⟨rfl, rfl⟩
       refine st (ov_pick_and (b := ((!((X.getD ((((q : Nat) : Int) - 1).toNat) default).void)) && (decide ((((X.getD ((((q : Nat) : Int) - 1).toNat) default).ev).typ) = (((X.getD k default).ev).typ)))) && (decide ((((X.getD ((((q : Nat) : Int) - 1).toNat) default).ev).agg) = (((X.getD k default).ev).agg)))) (b' := decide ((((X.getD ((((q : Nat) : Int) - 1).toNat) default).ev).field) = (((X.getD k default).ev).field))) rfl (fun hbp => (show _ = (.bool (decide ((((X.getD ((((q : Nat) : Int) - 1).toNat) default).ev).field) = (((X.getD k default).ev).field))) : Value) from (if_pos hbp))) ?_)
       refine st (ov_move (v := .bool ((((!((X.getD ((((q : Nat) : Int) - 1).toNat) default).void)) && (decide ((((X.getD ((((q : Nat) : Int) - 1).toNat) default).ev).typ) = (((X.getD k default).ev).typ)))) && (decide ((((X.getD ((((q : Nat) : Int) - 1).toNat) default).ev).agg) = (((X.getD k default).ev).agg)))) && (decide ((((X.getD ((((q : Nat) : Int) - 1).toNat) default).ev).field) = (((X.getD k default).ev).field))))) rfl ?_)
       refine stc (V := .agg ((fieldL d (((X.getD k default).ev).typ) (((X.getD k default).ev).field)).cells v193).toArray) rfl rfl (fun hb257 => ?_) ?_
       ·have hl258 := hb257
        try simp only [bools] at hl258
        exact ov_loadk (k := 4) Tryd.isAgg79 Tryd.sizeOf79 rfl rfl (CellsAt.all (hS223.blk (i := 1) rfl)) ⟨rfl, rfl⟩
       refine stc (V := .agg (((X.getD ((((q : Nat) : Int) - 1).toNat) default).ev).cells (cellV w33 (sb v32) (so v32 + ((((q : Nat) : Int) - 1).toNat) * 13 + 3))).toArray) rfl rfl (fun hb259 => ?_) ?_
       ·have hl260 := hb259
        try simp only [bools] at hl260
        exact ov_loadk (k := 10) Tryd.isAgg59 Tryd.sizeOf59 rfl rfl (CellsAt.all (hS223.blk (i := 0) rfl)) ⟨rfl, rfl⟩
       refine stc (V := .agg (((X.getD k default).ev).cells (cellV w33 (sb v32) (so v32 + k * 13 + 3))).toArray) rfl rfl (fun hb261 => ?_) ?_
       ·have hl262 := hb261
        try simp only [bools] at hl262
        exact ov_loadk (k := 10) Tryd.isAgg59 Tryd.sizeOf59 rfl rfl (CellsAt.all (hS223.blk (i := 3) rfl)) ⟨rfl, rfl⟩
       cases hg263 : (((!((X.getD ((((q : Nat) : Int) - 1).toNat) default).void)) && (decide ((((X.getD ((((q : Nat) : Int) - 1).toNat) default).ev).typ) = (((X.getD k default).ev).typ)))) && (decide ((((X.getD ((((q : Nat) : Int) - 1).toNat) default).ev).agg) = (((X.getD k default).ev).agg)))) && (decide ((((X.getD ((((q : Nat) : Int) - 1).toNat) default).ev).field) = (((X.getD k default).ev).field)))
       ·skip
        have hg263r := hg263
        try simp only [bools] at hg263
        have hJn := JB.miss (by omega) hqk hJ (rj_no4 (d := d) hfl9 hg263r)
        refine stx rfl rfl ?_
        refine st (ov_pick_f (v := .bool false) rfl rfl ?_)
        refine st_nil ?_
        refine WP_cond_f rfl ?_
        refine WP_skip ?_
        refine WP_region0 (by kernel_rfl) (fun _ => ?_)
        refine st (ov_move (v := .int .i64 (((q : Nat) : Int) - 1)) rfl ?_)
        have hr264 : InR (((q - 1 : Nat) : Int) - 1) := (by omega)
        refine st (ov_sub (r := ((q - 1 : Nat) : Int) - 1) (k := .i64) (a := ((q : Nat) : Int) - 1) (b := 1) rfl rfl (by rw [show ((((q : Nat) : Int) - 1) - 1 : Int) = ((q - 1 : Nat) : Int) - 1 from (by omega)]; exact wrap_in hr264) ?_)
        refine st (ov_assign (v := .int .i64 (((q - 1 : Nat) : Int) - 1)) rfl ?_)
        refine st_nil ?_
        have hS265 : Sep G38 w33 ((Blk b199 ((fieldL d (((X.getD k default).ev).typ) (((X.getD k default).ev).field)).cells v193).toArray 79) :: (RowE (α := Mv) own 115 v193 ((fieldL d (((X.getD k default).ev).typ) (((X.getD k default).ev).field)).moves)) :: (Blk b62 (((X.getD k default).ev).cells (cellV w33 (sb v32) (so v32 + k * 13 + 3))).toArray 59) :: (Blk b2 (d.cells dd0 dd1).toArray 25) :: Rs) w221 := hS223.sel 5 [1, 2, 3, 4] (Nat.le_add_left _ _) rfl rfl
        exact ⟨_, by omega, q - 1, b, _, rfl, setAll_self ⟨rfl, rfl, rfl, rfl, rfl, rfl, rfl, rfl, trivial⟩, by omega, ⟨by omega, by omega⟩, hJn, hS265⟩
       ·skip
        have hg263r := hg263
        try simp only [bools] at hg263
        have hS266 : Sep G38 w33 ((RowE (α := Mv) own 115 v193 ((fieldL d (((X.getD k default).ev).typ) (((X.getD k default).ev).field)).moves)) :: (Blk b218 (((X.getD ((((q : Nat) : Int) - 1).toNat) default).ev).cells (cellV w33 (sb v32) (so v32 + ((((q : Nat) : Int) - 1).toNat) * 13 + 3))).toArray 59) :: (Blk b199 ((fieldL d (((X.getD k default).ev).typ) (((X.getD k default).ev).field)).cells v193).toArray 79) :: (Blk b62 (((X.getD k default).ev).cells (cellV w33 (sb v32) (so v32 + k * 13 + 3))).toArray 59) :: (Blk b2 (d.cells dd0 dd1).toArray 25) :: Rs) w221 := hS223.sel 5 [2, 0, 1, 3, 4] (Nat.le_add_left _ _) rfl rfl
        obtain ⟨G267, hA269, hB270, hS271, hk272⟩ := hS266.lend
        have hrd273 := RowE.rd hA269
        have hrd273s : ((fieldL d (((X.getD k default).ev).typ) (((X.getD k default).ev).field)).moves).length * 32 ≤ 140737488355328 := hrd273.small
        refine sty rfl rfl (ov_call (f := 41) (vals := [.agg ((fieldL d (((X.getD k default).ev).typ) (((X.getD k default).ev).field)).cells v193).toArray, .agg (((X.getD ((((q : Nat) : Int) - 1).toNat) default).ev).cells (cellV w33 (sb v32) (so v32 + ((((q : Nat) : Int) - 1).toNat) * 13 + 3))).toArray, .agg (((X.getD k default).ev).cells (cellV w33 (sb v32) (so v32 + k * 13 + 3))).toArray]) (cap := []) (show _ = (.func (.func 41) #[] #[] : Value) from rfl) rfl Tryd.call41 (D_voids (f := (fieldL d (((X.getD k default).ev).typ) (((X.getD k default).ev).field))) (x := ((X.getD ((((q : Nat) : Int) - 1).toNat) default).ev)) (e := ((X.getD k default).ev)) hrd273 hfok194 (RdS.base hde213_0 hB270) hoke213.ev (RdS.base hde57_0 hB270) hoke57.ev hS271) ?_)
        rintro _ w274 ⟨rfl, hS275⟩
        have hS276 := hk272 _ _ hS275
        refine st (ov_pick_t (v := .bool ((voidsL (fieldL d (((X.getD k default).ev).typ) (((X.getD k default).ev).field)) ((X.getD ((((q : Nat) : Int) - 1).toNat) default).ev) ((X.getD k default).ev)))) rfl rfl ?_)
        refine st_nil ?_
        cases hc277 : (voidsL (fieldL d (((X.getD k default).ev).typ) (((X.getD k default).ev).field)) ((X.getD ((((q : Nat) : Int) - 1).toNat) default).ev) ((X.getD k default).ev))
        ·skip
         have hJn := JB.miss (by omega) hqk hJ (rj_no (d := d) hfl9 (fun h9 => by rw [h9.2] at hc277; cases hc277))
         refine WP_cond_f rfl ?_
         refine WP_skip ?_
         refine WP_region0 (by kernel_rfl) (fun _ => ?_)
         refine st (ov_move (v := .int .i64 (((q : Nat) : Int) - 1)) rfl ?_)
         have hr278 : InR (((q - 1 : Nat) : Int) - 1) := (by omega)
         refine st (ov_sub (r := ((q - 1 : Nat) : Int) - 1) (k := .i64) (a := ((q : Nat) : Int) - 1) (b := 1) rfl rfl (by rw [show ((((q : Nat) : Int) - 1) - 1 : Int) = ((q - 1 : Nat) : Int) - 1 from (by omega)]; exact wrap_in hr278) ?_)
         refine st (ov_assign (v := .int .i64 (((q - 1 : Nat) : Int) - 1)) rfl ?_)
         refine st_nil ?_
         have hS279 : Sep G38 w33 ((Blk b199 ((fieldL d (((X.getD k default).ev).typ) (((X.getD k default).ev).field)).cells v193).toArray 79) :: (RowE (α := Mv) own 115 v193 ((fieldL d (((X.getD k default).ev).typ) (((X.getD k default).ev).field)).moves)) :: (Blk b62 (((X.getD k default).ev).cells (cellV w33 (sb v32) (so v32 + k * 13 + 3))).toArray 59) :: (Blk b2 (d.cells dd0 dd1).toArray 25) :: Rs) w274 := hS276.sel 5 [2, 0, 3, 4] (Nat.le_add_left _ _) rfl rfl
         exact ⟨_, by omega, q - 1, b, _, rfl, setAll_self ⟨rfl, rfl, rfl, rfl, rfl, rfl, rfl, rfl, trivial⟩, by omega, ⟨by omega, by omega⟩, hJn, hS279⟩
        ·skip
         have hJn := JB.hit (c := ((q : Nat) : Int) - 1) (d := d) (by omega) hqk (rj_of (d := d) hfl9 ⟨hg263, hc277⟩) rfl
         refine WP_cond_t rfl ?_
         refine WP_region0 (by kernel_rfl) (fun _ => ?_)
         refine st (ov_move (v := .int .i64 (((q : Nat) : Int) - 1)) rfl ?_)
         refine st (ov_assign (v := .int .i64 (((q : Nat) : Int) - 1)) rfl ?_)
         refine st_nil ?_
         refine WP_region0 (by kernel_rfl) (fun _ => ?_)
         refine st (ov_move (v := .int .i64 (((q : Nat) : Int) - 1)) rfl ?_)
         have hr280 : InR (((q - 1 : Nat) : Int) - 1) := (by omega)
         refine st (ov_sub (r := ((q - 1 : Nat) : Int) - 1) (k := .i64) (a := ((q : Nat) : Int) - 1) (b := 1) rfl rfl (by rw [show ((((q : Nat) : Int) - 1) - 1 : Int) = ((q - 1 : Nat) : Int) - 1 from (by omega)]; exact wrap_in hr280) ?_)
         refine st (ov_assign (v := .int .i64 (((q - 1 : Nat) : Int) - 1)) rfl ?_)
         refine st_nil ?_
         have hS281 : Sep G38 w33 ((Blk b199 ((fieldL d (((X.getD k default).ev).typ) (((X.getD k default).ev).field)).cells v193).toArray 79) :: (RowE (α := Mv) own 115 v193 ((fieldL d (((X.getD k default).ev).typ) (((X.getD k default).ev).field)).moves)) :: (Blk b62 (((X.getD k default).ev).cells (cellV w33 (sb v32) (so v32 + k * 13 + 3))).toArray 59) :: (Blk b2 (d.cells dd0 dd1).toArray 25) :: Rs) w274 := hS276.sel 5 [2, 0, 3, 4] (Nat.le_add_left _ _) rfl rfl
         exact ⟨_, by omega, q - 1, ((q : Nat) : Int) - 1, _, rfl, setAll_self ⟨rfl, rfl, rfl, rfl, rfl, rfl, rfl, rfl, trivial⟩, by omega, ⟨by omega, by omega⟩, hJn, hS281⟩
    rintro _ w282 ⟨b, ρj1, rfl, hJR, hS283⟩
    have hbl := hJR.lt
    refine WP_seq ?_
    refine WP_draw4 (WF [fun vals wq => Sep G38 w33 ((Blk b62 (((X.getD k default).ev).cells (cellV w33 (sb v32) (so v32 + k * 13 + 3))).toArray 59) :: (Blk b2 (d.cells dd0 dd1).toArray 25) :: Rs) wq]) (AF [Vl 0 (.int .i64 (b)), Vl 1 (.bool (decide (0 ≤ b))), Vl 2 (.bool (decide (0 ≤ b))), Vl 3 (if (decide (0 ≤ b)) = true then v32 else undef), Vl 4 (if (decide (0 ≤ b)) = true then .int .i64 ((k : Nat) : Int) else undef), Vl 5 (if (decide (0 ≤ b)) = true then .pointer (some ⟨sb v32, so v32 + k * 13, none⟩) else undef), Vl 6 (if (decide (0 ≤ b)) = true then .pointer (some ⟨sb v32, so v32 + k * 13 + 10, none⟩) else undef), Vl 7 (if (decide (0 ≤ b)) = true then .bool ((X.getD k default).void) else undef), Vl 8 (if (decide (0 ≤ b)) = true then .bool (!((X.getD k default).void)) else undef), Vl 9 (if (decide (0 ≤ b)) = true then .bool (!((X.getD k default).void)) else undef), Vl 10 (if ((decide (0 ≤ b)) = true) ∧ (!((X.getD k default).void)) = false then v32 else undef), Vl 11 (if ((decide (0 ≤ b)) = true) ∧ (!((X.getD k default).void)) = false then .int .i64 ((k : Nat) : Int) else undef), Vl 12 (if ((decide (0 ≤ b)) = true) ∧ (!((X.getD k default).void)) = false then .pointer (some ⟨sb v32, so v32 + k * 13, none⟩) else undef), Vl 13 (if ((decide (0 ≤ b)) = true) ∧ (!((X.getD k default).void)) = false then .pointer (some ⟨sb v32, so v32 + k * 13 + 11, none⟩) else undef), Vl 14 (if ((decide (0 ≤ b)) = true) ∧ (!((X.getD k default).void)) = false then .agg #[.int .i64 ((X.getD k default).byO), .int .i64 ((X.getD k default).byS)] else undef), Vl 15 (if ((decide (0 ≤ b)) = true) ∧ (!((X.getD k default).void)) = false then v32 else undef), Vl 16 (if ((decide (0 ≤ b)) = true) ∧ (!((X.getD k default).void)) = false then .int .i64 (b) else undef), Vl 17 (if ((decide (0 ≤ b)) = true) ∧ (!((X.getD k default).void)) = false then .pointer (some ⟨sb v32, so v32 + b.toNat * 13, none⟩) else undef), Vl 18 (if ((decide (0 ≤ b)) = true) ∧ (!((X.getD k default).void)) = false then .pointer (some ⟨sb v32, so v32 + b.toNat * 13, none⟩) else undef), Vl 19 (if ((decide (0 ≤ b)) = true) ∧ (!((X.getD k default).void)) = false then .pointer (some ⟨sb v32, so v32 + b.toNat * 13, none⟩) else undef), Vl 20 (if ((decide (0 ≤ b)) = true) ∧ (!((X.getD k default).void)) = false then .agg #[.int .i64 ((X.getD b.toNat default).ev.origin), .int .i64 ((X.getD b.toNat default).ev.seq)] else undef), Vl 21 (if ((decide (0 ≤ b)) = true) ∧ (!((X.getD k default).void)) = false then .bool (!decide ((X.getD k default).byO = (X.getD b.toNat default).ev.origin ∧ (X.getD k default).byS = (X.getD b.toNat default).ev.seq)) else undef), Vl 22 (if (decide (0 ≤ b)) = true then .bool ((!((X.getD k default).void)) || (!decide ((X.getD k default).byO = (X.getD b.toNat default).ev.origin ∧ (X.getD k default).byS = (X.getD b.toNat default).ev.seq))) else undef), Vl 23 (.bool ((decide (0 ≤ b)) && ((!((X.getD k default).void)) || (!decide ((X.getD k default).byO = (X.getD b.toNat default).ev.origin ∧ (X.getD k default).byS = (X.getD b.toNat default).ev.seq))))), Vl 24 (.bool ((decide (0 ≤ b)) && ((!((X.getD k default).void)) || (!decide ((X.getD k default).byO = (X.getD b.toNat default).ev.origin ∧ (X.getD k default).byS = (X.getD b.toNat default).ev.seq))))), Vl 25 (if ((decide (0 ≤ b)) && ((!((X.getD k default).void)) || (!decide ((X.getD k default).byO = (X.getD b.toNat default).ev.origin ∧ (X.getD k default).byS = (X.getD b.toNat default).ev.seq)))) = false then .int .i64 (b) else undef), Vl 26 (if ((decide (0 ≤ b)) && ((!((X.getD k default).void)) || (!decide ((X.getD k default).byO = (X.getD b.toNat default).ev.origin ∧ (X.getD k default).byS = (X.getD b.toNat default).ev.seq)))) = false then .bool (decide (b < 0)) else undef), Vl 27 (if ((decide (0 ≤ b)) && ((!((X.getD k default).void)) || (!decide ((X.getD k default).byO = (X.getD b.toNat default).ev.origin ∧ (X.getD k default).byS = (X.getD b.toNat default).ev.seq)))) = false then .bool (decide (b < 0)) else undef), Vl 28 (if (((decide (0 ≤ b)) && ((!((X.getD k default).void)) || (!decide ((X.getD k default).byO = (X.getD b.toNat default).ev.origin ∧ (X.getD k default).byS = (X.getD b.toNat default).ev.seq)))) = false) ∧ (decide (b < 0)) = true then v32 else undef), Vl 29 (if (((decide (0 ≤ b)) && ((!((X.getD k default).void)) || (!decide ((X.getD k default).byO = (X.getD b.toNat default).ev.origin ∧ (X.getD k default).byS = (X.getD b.toNat default).ev.seq)))) = false) ∧ (decide (b < 0)) = true then .int .i64 ((k : Nat) : Int) else undef), Vl 30 (if (((decide (0 ≤ b)) && ((!((X.getD k default).void)) || (!decide ((X.getD k default).byO = (X.getD b.toNat default).ev.origin ∧ (X.getD k default).byS = (X.getD b.toNat default).ev.seq)))) = false) ∧ (decide (b < 0)) = true then .pointer (some ⟨sb v32, so v32 + k * 13, none⟩) else undef), Vl 31 (if (((decide (0 ≤ b)) && ((!((X.getD k default).void)) || (!decide ((X.getD k default).byO = (X.getD b.toNat default).ev.origin ∧ (X.getD k default).byS = (X.getD b.toNat default).ev.seq)))) = false) ∧ (decide (b < 0)) = true then .pointer (some ⟨sb v32, so v32 + k * 13 + 11, none⟩) else undef), Vl 32 (if (((decide (0 ≤ b)) && ((!((X.getD k default).void)) || (!decide ((X.getD k default).byO = (X.getD b.toNat default).ev.origin ∧ (X.getD k default).byS = (X.getD b.toNat default).ev.seq)))) = false) ∧ (decide (b < 0)) = true then .agg #[.int .i64 ((X.getD k default).byO), .int .i64 ((X.getD k default).byS)] else undef), Vl 33 (if (((decide (0 ≤ b)) && ((!((X.getD k default).void)) || (!decide ((X.getD k default).byO = (X.getD b.toNat default).ev.origin ∧ (X.getD k default).byS = (X.getD b.toNat default).ev.seq)))) = false) ∧ (decide (b < 0)) = true then .agg #[.int .i64 (0), .int .i64 (0)] else undef), Vl 34 (if (((decide (0 ≤ b)) && ((!((X.getD k default).void)) || (!decide ((X.getD k default).byO = (X.getD b.toNat default).ev.origin ∧ (X.getD k default).byS = (X.getD b.toNat default).ev.seq)))) = false) ∧ (decide (b < 0)) = true then .bool (!decide ((X.getD k default).byO = 0 ∧ (X.getD k default).byS = 0)) else undef), Vl 35 (if ((decide (0 ≤ b)) && ((!((X.getD k default).void)) || (!decide ((X.getD k default).byO = (X.getD b.toNat default).ev.origin ∧ (X.getD k default).byS = (X.getD b.toNat default).ev.seq)))) = false then .bool ((decide (b < 0)) && (!decide ((X.getD k default).byO = 0 ∧ (X.getD k default).byS = 0))) else undef), Vl 36 (.bool (((decide (0 ≤ b)) && ((!((X.getD k default).void)) || (!decide ((X.getD k default).byO = (X.getD b.toNat default).ev.origin ∧ (X.getD k default).byS = (X.getD b.toNat default).ev.seq)))) || ((decide (b < 0)) && (!decide ((X.getD k default).byO = 0 ∧ (X.getD k default).byS = 0)))))]) [[], [0], [0, 1], [0, 1, 2], [0, 1, 2], [0, 1, 2, 3, 4], [0, 1, 2, 3, 4, 5], [0, 1, 2, 3, 4, 5, 6], [0, 1, 2, 3, 4, 5, 6, 7], [0, 1, 2, 3, 4, 5, 6, 7, 8], [0, 1, 2, 3, 4, 5, 6, 7, 8, 9], [0, 1, 2, 3, 4, 5, 6, 7, 8, 9], [0, 1, 2, 3, 4, 5, 6, 7, 8, 9, 10, 11], [0, 1, 2, 3, 4, 5, 6, 7, 8, 9, 10, 11, 12], [0, 1, 2, 3, 4, 5, 6, 7, 8, 9, 10, 11, 12, 13], [0, 1, 2, 3, 4, 5, 6, 7, 8, 9], [0, 1, 2, 3, 4, 5, 6, 7, 8, 9], [0, 1, 2, 3, 4, 5, 6, 7, 8, 9, 15, 16], [0, 1, 2, 3, 4, 5, 6, 7, 8, 9, 15, 16, 17], [0, 1, 2, 3, 4, 5, 6, 7, 8, 9, 15, 16, 17, 18], [0, 1, 2, 3, 4, 5, 6, 7, 8, 9, 15, 16, 17, 18, 19], [0, 1, 2, 3, 4, 5, 6, 7, 8, 9, 10, 11, 12, 13, 14, 15, 16, 17, 18, 19, 20], [0, 1, 2, 3, 4, 5, 6, 7, 8, 9, 10, 11, 12, 13, 14, 15, 16, 17, 18, 19, 20, 21], [0, 1, 2, 3, 4, 5, 6, 7, 8, 9, 10, 11, 12, 13, 14, 15, 16, 17, 18, 19, 20, 21, 22], [0, 1, 2, 3, 4, 5, 6, 7, 8, 9, 10, 11, 12, 13, 14, 15, 16, 17, 18, 19, 20, 21, 22, 23], [0, 1, 2, 3, 4, 5, 6, 7, 8, 9, 10, 11, 12, 13, 14, 15, 16, 17, 18, 19, 20, 21, 22, 23, 24], [0, 1, 2, 3, 4, 5, 6, 7, 8, 9, 10, 11, 12, 13, 14, 15, 16, 17, 18, 19, 20, 21, 22, 23, 24, 25], [0, 1, 2, 3, 4, 5, 6, 7, 8, 9, 10, 11, 12, 13, 14, 15, 16, 17, 18, 19, 20, 21, 22, 23, 24, 25, 26], [0, 1, 2, 3, 4, 5, 6, 7, 8, 9, 10, 11, 12, 13, 14, 15, 16, 17, 18, 19, 20, 21, 22, 23, 24, 25, 26, 27], [0, 1, 2, 3, 4, 5, 6, 7, 8, 9, 10, 11, 12, 13, 14, 15, 16, 17, 18, 19, 20, 21, 22, 23, 24, 25, 26, 27], [0, 1, 2, 3, 4, 5, 6, 7, 8, 9, 10, 11, 12, 13, 14, 15, 16, 17, 18, 19, 20, 21, 22, 23, 24, 25, 26, 27, 28, 29], [0, 1, 2, 3, 4, 5, 6, 7, 8, 9, 10, 11, 12, 13, 14, 15, 16, 17, 18, 19, 20, 21, 22, 23, 24, 25, 26, 27, 28, 29, 30], [0, 1, 2, 3, 4, 5, 6, 7, 8, 9, 10, 11, 12, 13, 14, 15, 16, 17, 18, 19, 20, 21, 22, 23, 24, 25, 26, 27, 28, 29, 30, 31], [0, 1, 2, 3, 4, 5, 6, 7, 8, 9, 10, 11, 12, 13, 14, 15, 16, 17, 18, 19, 20, 21, 22, 23, 24, 25, 26, 27], [0, 1, 2, 3, 4, 5, 6, 7, 8, 9, 10, 11, 12, 13, 14, 15, 16, 17, 18, 19, 20, 21, 22, 23, 24, 25, 26, 27, 28, 29, 30, 31, 32, 33], [0, 1, 2, 3, 4, 5, 6, 7, 8, 9, 10, 11, 12, 13, 14, 15, 16, 17, 18, 19, 20, 21, 22, 23, 24, 25, 26, 27, 28, 29, 30, 31, 32, 33, 34], [0, 1, 2, 3, 4, 5, 6, 7, 8, 9, 10, 11, 12, 13, 14, 15, 16, 17, 18, 19, 20, 21, 22, 23, 24, 25, 26, 27, 28, 29, 30, 31, 32, 33, 34, 35]] [] [(0, 0), (0, 0), (0, 0), (0, 0), (0, 0), (0, 0), (0, 0), (0, 0), (0, 0), (0, 0), (0, 0), (0, 0), (0, 0), (0, 0), (0, 0), (0, 0), (0, 0), (0, 0), (0, 0), (0, 0), (0, 0), (0, 0), (0, 0), (0, 0), (0, 0), (0, 0), (0, 0), (0, 0), (0, 0), (0, 0), (0, 0), (0, 0), (0, 0), (0, 0), (0, 0), (0, 0), (0, 0)] (by kernel_rfl) (by kernel_rfl) (by kernel_rfl) rfl (by kernel_rfl) (by kernel_rfl) (fun _ h1 h2 h3 h4 _ => hS283.same h1 h2 h3 h4) ?_ (AF_loc ⟨dA, dA, dA, dA, dA, dA, dA, dA, dA, dA, dA, dA, dA, dA, dA, dA, dA, dA, dA, dA, dA, dA, dA, dA, dA, dA, dA, dA, dA, dA, dA, dA, dA, dA, dA, dA, dA, trivial⟩) ⟨?_, ?_, ?_, ?_, ?_, ?_, ?_, ?_, ?_, ?_, ?_, ?_, ?_, ?_, ?_, ?_, ?_, ?_, ?_, ?_, ?_, ?_, ?_, ?_, ?_, ?_, ?_, ?_, ?_, ?_, ?_, ?_, ?_, ?_, ?_, ?_, ?_, trivial⟩ ?_
    ·intro k vals vals' w hv h
     match k, h with
     | 0, h => exact h
     | _ + 1, _ => trivial
    ·intro k680 vals w681 h684 h685 hW683 hA682
     refine obl rfl ?_
     exact ov_move (v := .int .i64 (b)) rfl (fun vals' hv _ => ⟨rfl, hv⟩)
    ·intro k686 vals w687 h690 h691 hW689 hA688
     obtain rfl : k686 = 0 := Nat.le_antisymm h691 h690
     have hS692 : Sep _ _ _ _ := hW689
     have e693 := hA688 0 (by decide)
     refine obl rfl ?_
     exact ov_geq (k := .i64) (a := b) (b := 0) e693 rfl (fun vals' hv _ => ⟨rfl, hv⟩)
    ·intro k694 vals w695 h698 h699 hW697 hA696
     have e700 := hA696 1 (by decide)
     refine obl rfl ?_
     exact ov_move (v := .bool (decide (0 ≤ b))) e700 (fun vals' hv _ => ⟨rfl, hv⟩)
    ·intro k701 vals w702 h705 h706 hW704 hA703
     have e707 := hA703 2 (by decide)
     refine oblc rfl rfl e707 (fun hb708 => ?_) (fun hb708 => fun vals' hv _ => ⟨trivial, hv.trans (if_neg hb708).symm⟩)
     have hl709 := hb708
     have hl709 := of_decide_eq_true hl709
     exact ov_move (v := v32) rfl (fun vals' hv _ => ⟨rfl, hv.trans (if_pos hb708).symm⟩)
    ·intro k710 vals w711 h714 h715 hW713 hA712
     have e716 := hA712 2 (by decide)
     refine oblc rfl rfl e716 (fun hb717 => ?_) (fun hb717 => fun vals' hv _ => ⟨trivial, hv.trans (if_neg hb717).symm⟩)
     have hl718 := hb717
     have hl718 := of_decide_eq_true hl718
     exact ov_move (v := .int .i64 ((k : Nat) : Int)) rfl (fun vals' hv _ => ⟨rfl, hv.trans (if_pos hb717).symm⟩)
    ·intro k719 vals w720 h723 h724 hW722 hA721
     obtain rfl : k719 = 0 := Nat.le_antisymm h724 h723
     have hS725 : Sep _ _ _ _ := hW722
     have e726 := hA721 2 (by decide)
     have e727 : vals 3 = (if (decide (0 ≤ b)) = true then (v32 : Value) else undef) := hA721 3 (by decide)
     have e728 : vals 4 = (if (decide (0 ≤ b)) = true then (.int .i64 ((k : Nat) : Int) : Value) else undef) := hA721 4 (by decide)
     refine oblc rfl rfl e726 (fun hb729 => ?_) (fun hb729 => fun vals' hv _ => ⟨trivial, hv.trans (if_neg hb729).symm⟩)
     have hl730 := hb729
     have hl730 := of_decide_eq_true hl730
     have hi731 : k < X.length := (by first | omega | (simp only [lens]; omega))
     exact ov_indexAddrN (k := 13) (i := k) Tryd.underlying66 Tryd.sizeOf62 (show _ = (v32 : Value) from (Eq.trans e727 (if_pos hb729))) hrd44.sl (show _ = (.int .i64 ((k : Nat) : Int) : Value) from (Eq.trans e728 (if_pos hb729))) hi731 (fun vals' hv _ => ⟨rfl, hv.trans (if_pos hb729).symm⟩)
    ·intro k732 vals w733 h736 h737 hW735 hA734
     have e738 := hA734 2 (by decide)
     have e739 : vals 5 = (if (decide (0 ≤ b)) = true then (.pointer (some ⟨sb v32, so v32 + k * 13, none⟩) : Value) else undef) := hA734 5 (by decide)
     refine oblc rfl rfl e738 (fun hb740 => ?_) (fun hb740 => fun vals' hv _ => ⟨trivial, hv.trans (if_neg hb740).symm⟩)
     have hl741 := hb740
     have hl741 := of_decide_eq_true hl741
     exact fd62_1 (show _ = (.pointer (some ⟨sb v32, so v32 + k * 13, none⟩) : Value) from (Eq.trans e739 (if_pos hb740))) (fun vals' hv _ => ⟨rfl, hv.trans (if_pos hb740).symm⟩)
    ·intro k742 vals w743 h746 h747 hW745 hA744
     obtain rfl : k742 = 0 := Nat.le_antisymm h747 h746
     have hS748 : Sep _ _ _ _ := hW745
     have e749 := hA744 2 (by decide)
     have e750 : vals 6 = (if (decide (0 ≤ b)) = true then (.pointer (some ⟨sb v32, so v32 + k * 13 + 10, none⟩) : Value) else undef) := hA744 6 (by decide)
     refine oblc rfl rfl e749 (fun hb751 => ?_) (fun hb751 => fun vals' hv _ => ⟨trivial, hv.trans (if_neg hb751).symm⟩)
     have hl752 := hb751
     have hl752 := of_decide_eq_true hl752
     have hcw754 := hS748.cells hce57 (hrd44.foot (ne_of_lt hi58))
     exact ov_load1 (v := .bool ((X.getD k default).void)) Tryd.isAgg4 (show _ = (.pointer (some ⟨sb v32, so v32 + k * 13 + 10, none⟩) : Value) from (Eq.trans e750 (if_pos hb751))) (hcw754.get (j := 10) rfl) (fun vals' hv _ => ⟨rfl, hv.trans (if_pos hb751).symm⟩)
    ·intro k755 vals w756 h759 h760 hW758 hA757
     have e761 := hA757 2 (by decide)
     have e762 : vals 7 = (if (decide (0 ≤ b)) = true then (.bool ((X.getD k default).void) : Value) else undef) := hA757 7 (by decide)
     refine oblc rfl rfl e761 (fun hb763 => ?_) (fun hb763 => fun vals' hv _ => ⟨trivial, hv.trans (if_neg hb763).symm⟩)
     have hl764 := hb763
     have hl764 := of_decide_eq_true hl764
     exact ov_not (a := (X.getD k default).void) (show _ = (.bool ((X.getD k default).void) : Value) from (Eq.trans e762 (if_pos hb763))) (fun vals' hv _ => ⟨rfl, hv.trans (if_pos hb763).symm⟩)
    ·intro k765 vals w766 h769 h770 hW768 hA767
     have e771 := hA767 2 (by decide)
     have e772 : vals 8 = (if (decide (0 ≤ b)) = true then (.bool (!((X.getD k default).void)) : Value) else undef) := hA767 8 (by decide)
     refine oblc rfl rfl e771 (fun hb773 => ?_) (fun hb773 => fun vals' hv _ => ⟨trivial, hv.trans (if_neg hb773).symm⟩)
     have hl774 := hb773
     have hl774 := of_decide_eq_true hl774
     exact ov_move (v := .bool (!((X.getD k default).void))) (show _ = (.bool (!((X.getD k default).void)) : Value) from (Eq.trans e772 (if_pos hb773))) (fun vals' hv _ => ⟨rfl, hv.trans (if_pos hb773).symm⟩)
    ·intro k775 vals w776 h779 h780 hW778 hA777
     have e781 : vals 9 = (if (decide (0 ≤ b)) = true then (.bool (!((X.getD k default).void)) : Value) else undef) := hA777 9 (by decide)
     refine oblcP rfl rfl e781 (fun hb782 => ?_) (fun hb782 => fun vals' hv _ => ⟨trivial, hv.trans (if_neg hb782).symm⟩)
     have hl783 := hb782.1
     have hl783 := of_decide_eq_true hl783
     have hl784 := hb782.2
     try simp only [bools] at hl784
     exact ov_move (v := v32) rfl (fun vals' hv _ => ⟨rfl, hv.trans (if_pos hb782).symm⟩)
    ·intro k785 vals w786 h789 h790 hW788 hA787
     have e791 : vals 9 = (if (decide (0 ≤ b)) = true then (.bool (!((X.getD k default).void)) : Value) else undef) := hA787 9 (by decide)
     refine oblcP rfl rfl e791 (fun hb792 => ?_) (fun hb792 => fun vals' hv _ => ⟨trivial, hv.trans (if_neg hb792).symm⟩)
     have hl793 := hb792.1
     have hl793 := of_decide_eq_true hl793
     have hl794 := hb792.2
     try simp only [bools] at hl794
     exact ov_move (v := .int .i64 ((k : Nat) : Int)) rfl (fun vals' hv _ => ⟨rfl, hv.trans (if_pos hb792).symm⟩)
    ·intro k795 vals w796 h799 h800 hW798 hA797
     obtain rfl : k795 = 0 := Nat.le_antisymm h800 h799
     have hS801 : Sep _ _ _ _ := hW798
     have e802 : vals 9 = (if (decide (0 ≤ b)) = true then (.bool (!((X.getD k default).void)) : Value) else undef) := hA797 9 (by decide)
     have e803 : vals 10 = (if ((decide (0 ≤ b)) = true) ∧ (!((X.getD k default).void)) = false then (v32 : Value) else undef) := hA797 10 (by decide)
     have e804 : vals 11 = (if ((decide (0 ≤ b)) = true) ∧ (!((X.getD k default).void)) = false then (.int .i64 ((k : Nat) : Int) : Value) else undef) := hA797 11 (by decide)
     refine oblcP rfl rfl e802 (fun hb805 => ?_) (fun hb805 => fun vals' hv _ => ⟨trivial, hv.trans (if_neg hb805).symm⟩)
     have hl806 := hb805.1
     have hl806 := of_decide_eq_true hl806
     have hl807 := hb805.2
     try simp only [bools] at hl807
     have hi808 : k < X.length := (by first | omega | (simp only [lens]; omega))
     exact ov_indexAddrN (k := 13) (i := k) Tryd.underlying66 Tryd.sizeOf62 (show _ = (v32 : Value) from (Eq.trans e803 (if_pos ⟨hb805.1, hb805.2⟩))) hrd44.sl (show _ = (.int .i64 ((k : Nat) : Int) : Value) from (Eq.trans e804 (if_pos ⟨hb805.1, hb805.2⟩))) hi808 (fun vals' hv _ => ⟨rfl, hv.trans (if_pos hb805).symm⟩)
    ·intro k809 vals w810 h813 h814 hW812 hA811
     have e815 : vals 9 = (if (decide (0 ≤ b)) = true then (.bool (!((X.getD k default).void)) : Value) else undef) := hA811 9 (by decide)
     have e816 : vals 12 = (if ((decide (0 ≤ b)) = true) ∧ (!((X.getD k default).void)) = false then (.pointer (some ⟨sb v32, so v32 + k * 13, none⟩) : Value) else undef) := hA811 12 (by decide)
     refine oblcP rfl rfl e815 (fun hb817 => ?_) (fun hb817 => fun vals' hv _ => ⟨trivial, hv.trans (if_neg hb817).symm⟩)
     have hl818 := hb817.1
     have hl818 := of_decide_eq_true hl818
     have hl819 := hb817.2
     try simp only [bools] at hl819
     exact fd62_2 (show _ = (.pointer (some ⟨sb v32, so v32 + k * 13, none⟩) : Value) from (Eq.trans e816 (if_pos ⟨hb817.1, hb817.2⟩))) (fun vals' hv _ => ⟨rfl, hv.trans (if_pos hb817).symm⟩)
    ·intro k820 vals w821 h824 h825 hW823 hA822
     obtain rfl : k820 = 0 := Nat.le_antisymm h825 h824
     have hS826 : Sep _ _ _ _ := hW823
     have e827 : vals 9 = (if (decide (0 ≤ b)) = true then (.bool (!((X.getD k default).void)) : Value) else undef) := hA822 9 (by decide)
     have e828 : vals 13 = (if ((decide (0 ≤ b)) = true) ∧ (!((X.getD k default).void)) = false then (.pointer (some ⟨sb v32, so v32 + k * 13 + 11, none⟩) : Value) else undef) := hA822 13 (by decide)
     refine oblcP rfl rfl e827 (fun hb829 => ?_) (fun hb829 => fun vals' hv _ => ⟨trivial, hv.trans (if_neg hb829).symm⟩)
     have hl830 := hb829.1
     have hl830 := of_decide_eq_true hl830
     have hl831 := hb829.2
     try simp only [bools] at hl831
     have hcw833 := hS826.cells hce57 (hrd44.foot (ne_of_lt hi58))
     exact ov_loadk (k := 2) (cs := [.int .i64 ((X.getD k default).byO), .int .i64 ((X.getD k default).byS)]) Tryd.isAgg57 Tryd.sizeOf57 rfl (show _ = (.pointer (some ⟨sb v32, so v32 + k * 13 + 11, none⟩) : Value) from (Eq.trans e828 (if_pos ⟨hb829.1, hb829.2⟩))) (CellsAt.sub hcw833 11 (cs2 := [.int .i64 ((X.getD k default).byO), .int .i64 ((X.getD k default).byS)]) rfl) (fun vals' hv _ => ⟨rfl, hv.trans (if_pos hb829).symm⟩)
    ·intro k834 vals w835 h838 h839 hW837 hA836
     have e840 : vals 9 = (if (decide (0 ≤ b)) = true then (.bool (!((X.getD k default).void)) : Value) else undef) := hA836 9 (by decide)
     refine oblcP rfl rfl e840 (fun hb841 => ?_) (fun hb841 => fun vals' hv _ => ⟨trivial, hv.trans (if_neg hb841).symm⟩)
     have hl842 := hb841.1
     have hl842 := of_decide_eq_true hl842
     have hl843 := hb841.2
     try simp only [bools] at hl843
     exact ov_move (v := v32) rfl (fun vals' hv _ => ⟨rfl, hv.trans (if_pos hb841).symm⟩)
    ·intro k844 vals w845 h848 h849 hW847 hA846
     have e850 : vals 9 = (if (decide (0 ≤ b)) = true then (.bool (!((X.getD k default).void)) : Value) else undef) := hA846 9 (by decide)
     refine oblcP rfl rfl e850 (fun hb851 => ?_) (fun hb851 => fun vals' hv _ => ⟨trivial, hv.trans (if_neg hb851).symm⟩)
     have hl852 := hb851.1
     have hl852 := of_decide_eq_true hl852
     have hl853 := hb851.2
     try simp only [bools] at hl853
     exact ov_move (v := .int .i64 (b)) rfl (fun vals' hv _ => ⟨rfl, hv.trans (if_pos hb851).symm⟩)
    ·intro k854 vals w855 h858 h859 hW857 hA856
     obtain rfl : k854 = 0 := Nat.le_antisymm h859 h858
     have hS860 : Sep _ _ _ _ := hW857
     have e861 : vals 9 = (if (decide (0 ≤ b)) = true then (.bool (!((X.getD k default).void)) : Value) else undef) := hA856 9 (by decide)
     have e862 : vals 15 = (if ((decide (0 ≤ b)) = true) ∧ (!((X.getD k default).void)) = false then (v32 : Value) else undef) := hA856 15 (by decide)
     have e863 : vals 16 = (if ((decide (0 ≤ b)) = true) ∧ (!((X.getD k default).void)) = false then (.int .i64 (b) : Value) else undef) := hA856 16 (by decide)
     refine oblcP rfl rfl e861 (fun hb864 => ?_) (fun hb864 => fun vals' hv _ => ⟨trivial, hv.trans (if_neg hb864).symm⟩)
     have hl865 := hb864.1
     have hl865 := of_decide_eq_true hl865
     have hl866 := hb864.2
     try simp only [bools] at hl866
     have hi867 : b.toNat < X.length := (by first | omega | (simp only [lens]; omega))
     exact ov_indexAddr (k := 13) (i := b) Tryd.underlying66 Tryd.sizeOf62 (show _ = (v32 : Value) from (Eq.trans e862 (if_pos ⟨hb864.1, hb864.2⟩))) hrd44.sl (show _ = (.int .i64 (b) : Value) from (Eq.trans e863 (if_pos ⟨hb864.1, hb864.2⟩))) ⟨by omega, by omega⟩ (fun vals' hv _ => ⟨rfl, hv.trans (if_pos hb864).symm⟩)
    ·intro k868 vals w869 h872 h873 hW871 hA870
     have e874 : vals 9 = (if (decide (0 ≤ b)) = true then (.bool (!((X.getD k default).void)) : Value) else undef) := hA870 9 (by decide)
     have e875 : vals 17 = (if ((decide (0 ≤ b)) = true) ∧ (!((X.getD k default).void)) = false then (.pointer (some ⟨sb v32, so v32 + b.toNat * 13, none⟩) : Value) else undef) := hA870 17 (by decide)
     refine oblcP rfl rfl e874 (fun hb876 => ?_) (fun hb876 => fun vals' hv _ => ⟨trivial, hv.trans (if_neg hb876).symm⟩)
     have hl877 := hb876.1
     have hl877 := of_decide_eq_true hl877
     have hl878 := hb876.2
     try simp only [bools] at hl878
     exact fd62_0 (show _ = (.pointer (some ⟨sb v32, so v32 + b.toNat * 13, none⟩) : Value) from (Eq.trans e875 (if_pos ⟨hb876.1, hb876.2⟩))) (fun vals' hv _ => ⟨rfl, hv.trans (if_pos hb876).symm⟩)
    ·intro k879 vals w880 h883 h884 hW882 hA881
     have e885 : vals 9 = (if (decide (0 ≤ b)) = true then (.bool (!((X.getD k default).void)) : Value) else undef) := hA881 9 (by decide)
     have e886 : vals 18 = (if ((decide (0 ≤ b)) = true) ∧ (!((X.getD k default).void)) = false then (.pointer (some ⟨sb v32, so v32 + b.toNat * 13, none⟩) : Value) else undef) := hA881 18 (by decide)
     refine oblcP rfl rfl e885 (fun hb887 => ?_) (fun hb887 => fun vals' hv _ => ⟨trivial, hv.trans (if_neg hb887).symm⟩)
     have hl888 := hb887.1
     have hl888 := of_decide_eq_true hl888
     have hl889 := hb887.2
     try simp only [bools] at hl889
     exact fd59_0 (show _ = (.pointer (some ⟨sb v32, so v32 + b.toNat * 13, none⟩) : Value) from (Eq.trans e886 (if_pos ⟨hb887.1, hb887.2⟩))) (fun vals' hv _ => ⟨rfl, hv.trans (if_pos hb887).symm⟩)
    ·intro k890 vals w891 h894 h895 hW893 hA892
     obtain rfl : k890 = 0 := Nat.le_antisymm h895 h894
     have hS896 : Sep _ _ _ _ := hW893
     have e897 : vals 9 = (if (decide (0 ≤ b)) = true then (.bool (!((X.getD k default).void)) : Value) else undef) := hA892 9 (by decide)
     have e898 : vals 19 = (if ((decide (0 ≤ b)) = true) ∧ (!((X.getD k default).void)) = false then (.pointer (some ⟨sb v32, so v32 + b.toNat * 13, none⟩) : Value) else undef) := hA892 19 (by decide)
     refine oblcP rfl rfl e897 (fun hb899 => ?_) (fun hb899 => fun vals' hv _ => ⟨trivial, hv.trans (if_neg hb899).symm⟩)
     have hl900 := hb899.1
     have hl900 := of_decide_eq_true hl900
     have hl901 := hb899.2
     try simp only [bools] at hl901
     have hi903 : b.toNat < X.length := (by first | omega | (simp only [lens]; omega))
     obtain ⟨hce902, hde902_0, hoke902⟩ := hrd44.ent hi903
     rw [← getD_at default hi903] at hce902 hde902_0 hoke902
     have hsm904 : ((X.getD b.toNat default).ev.deps).length * 8 ≤ 140737488355328 := hde902_0.small
     have hcw905 := hS896.cells hce902 (hrd44.foot (ne_of_lt hi903))
     exact ov_loadk (k := 2) (cs := [.int .i64 ((X.getD b.toNat default).ev.origin), .int .i64 ((X.getD b.toNat default).ev.seq)]) Tryd.isAgg57 Tryd.sizeOf57 rfl (show _ = (.pointer (some ⟨sb v32, so v32 + b.toNat * 13, none⟩) : Value) from (Eq.trans e898 (if_pos ⟨hb899.1, hb899.2⟩))) (CellsAt.sub hcw905 0 (cs2 := [.int .i64 ((X.getD b.toNat default).ev.origin), .int .i64 ((X.getD b.toNat default).ev.seq)]) rfl) (fun vals' hv _ => ⟨rfl, hv.trans (if_pos hb899).symm⟩)
    ·intro k906 vals w907 h910 h911 hW909 hA908
     obtain rfl : k906 = 0 := Nat.le_antisymm h911 h910
     have hS912 : Sep _ _ _ _ := hW909
     have e913 : vals 9 = (if (decide (0 ≤ b)) = true then (.bool (!((X.getD k default).void)) : Value) else undef) := hA908 9 (by decide)
     have e914 : vals 14 = (if ((decide (0 ≤ b)) = true) ∧ (!((X.getD k default).void)) = false then (.agg #[.int .i64 ((X.getD k default).byO), .int .i64 ((X.getD k default).byS)] : Value) else undef) := hA908 14 (by decide)
     have e915 : vals 20 = (if ((decide (0 ≤ b)) = true) ∧ (!((X.getD k default).void)) = false then (.agg #[.int .i64 ((X.getD b.toNat default).ev.origin), .int .i64 ((X.getD b.toNat default).ev.seq)] : Value) else undef) := hA908 20 (by decide)
     refine oblcP rfl rfl e913 (fun hb916 => ?_) (fun hb916 => fun vals' hv _ => ⟨trivial, hv.trans (if_neg hb916).symm⟩)
     have hl917 := hb916.1
     have hl917 := of_decide_eq_true hl917
     have hl918 := hb916.2
     try simp only [bools] at hl918
     exact ov_neqS (e := decide ((X.getD k default).byO = (X.getD b.toNat default).ev.origin ∧ (X.getD k default).byS = (X.getD b.toNat default).ev.seq)) (xs := #[.int .i64 ((X.getD k default).byO), .int .i64 ((X.getD k default).byS)]) (ys := #[.int .i64 ((X.getD b.toNat default).ev.origin), .int .i64 ((X.getD b.toNat default).ev.seq)]) eqS57n (show _ = (.agg #[.int .i64 ((X.getD k default).byO), .int .i64 ((X.getD k default).byS)] : Value) from (Eq.trans e914 (if_pos ⟨hb916.1, hb916.2⟩))) (show _ = (.agg #[.int .i64 ((X.getD b.toNat default).ev.origin), .int .i64 ((X.getD b.toNat default).ev.seq)] : Value) from (Eq.trans e915 (if_pos ⟨hb916.1, hb916.2⟩))) (fun vals' hv _ => ⟨rfl, hv.trans (if_pos hb916).symm⟩)
    ·intro k919 vals w920 h923 h924 hW922 hA921
     have e925 := hA921 2 (by decide)
     have e926 : vals 9 = (if (decide (0 ≤ b)) = true then (.bool (!((X.getD k default).void)) : Value) else undef) := hA921 9 (by decide)
     have e927 : vals 21 = (if ((decide (0 ≤ b)) = true) ∧ (!((X.getD k default).void)) = false then (.bool (!decide ((X.getD k default).byO = (X.getD b.toNat default).ev.origin ∧ (X.getD k default).byS = (X.getD b.toNat default).ev.seq)) : Value) else undef) := hA921 21 (by decide)
     refine oblc rfl rfl e925 (fun hb928 => ?_) (fun hb928 => fun vals' hv _ => ⟨trivial, hv.trans (if_neg hb928).symm⟩)
     have hl929 := hb928
     have hl929 := of_decide_eq_true hl929
     exact ov_pick_or (b := !((X.getD k default).void)) (b' := !decide ((X.getD k default).byO = (X.getD b.toNat default).ev.origin ∧ (X.getD k default).byS = (X.getD b.toNat default).ev.seq)) (show _ = (.bool (!((X.getD k default).void)) : Value) from (Eq.trans e926 (if_pos hb928))) (fun hbp => (show _ = (.bool (!decide ((X.getD k default).byO = (X.getD b.toNat default).ev.origin ∧ (X.getD k default).byS = (X.getD b.toNat default).ev.seq)) : Value) from (Eq.trans e927 (if_pos ⟨hb928, hbp⟩)))) (fun vals' hv _ => ⟨rfl, hv.trans (if_pos hb928).symm⟩)
    ·intro k930 vals w931 h934 h935 hW933 hA932
     have e936 := hA932 2 (by decide)
     have e937 : vals 22 = (if (decide (0 ≤ b)) = true then (.bool ((!((X.getD k default).void)) || (!decide ((X.getD k default).byO = (X.getD b.toNat default).ev.origin ∧ (X.getD k default).byS = (X.getD b.toNat default).ev.seq))) : Value) else undef) := hA932 22 (by decide)
     refine obl rfl ?_
     exact ov_pick_and (b := decide (0 ≤ b)) (b' := (!((X.getD k default).void)) || (!decide ((X.getD k default).byO = (X.getD b.toNat default).ev.origin ∧ (X.getD k default).byS = (X.getD b.toNat default).ev.seq))) e936 (fun hbp => (show _ = (.bool ((!((X.getD k default).void)) || (!decide ((X.getD k default).byO = (X.getD b.toNat default).ev.origin ∧ (X.getD k default).byS = (X.getD b.toNat default).ev.seq))) : Value) from (Eq.trans e937 (if_pos hbp)))) (fun vals' hv _ => ⟨rfl, hv⟩)
    ·intro k938 vals w939 h942 h943 hW941 hA940
     have e944 := hA940 23 (by decide)
     refine obl rfl ?_
     exact ov_move (v := .bool ((decide (0 ≤ b)) && ((!((X.getD k default).void)) || (!decide ((X.getD k default).byO = (X.getD b.toNat default).ev.origin ∧ (X.getD k default).byS = (X.getD b.toNat default).ev.seq))))) e944 (fun vals' hv _ => ⟨rfl, hv⟩)
    ·intro k945 vals w946 h949 h950 hW948 hA947
     have e951 := hA947 24 (by decide)
     refine oblc rfl rfl e951 (fun hb952 => ?_) (fun hb952 => fun vals' hv _ => ⟨trivial, hv.trans (if_neg hb952).symm⟩)
     have hl953 := hb952
     try simp only [bools] at hl953
     exact ov_move (v := .int .i64 (b)) rfl (fun vals' hv _ => ⟨rfl, hv.trans (if_pos hb952).symm⟩)
    ·intro k954 vals w955 h958 h959 hW957 hA956
     obtain rfl : k954 = 0 := Nat.le_antisymm h959 h958
     have hS960 : Sep _ _ _ _ := hW957
     have e961 := hA956 24 (by decide)
     have e962 : vals 25 = (if ((decide (0 ≤ b)) && ((!((X.getD k default).void)) || (!decide ((X.getD k default).byO = (X.getD b.toNat default).ev.origin ∧ (X.getD k default).byS = (X.getD b.toNat default).ev.seq)))) = false then (.int .i64 (b) : Value) else undef) := hA956 25 (by decide)
     refine oblc rfl rfl e961 (fun hb963 => ?_) (fun hb963 => fun vals' hv _ => ⟨trivial, hv.trans (if_neg hb963).symm⟩)
     have hl964 := hb963
     try simp only [bools] at hl964
     exact ov_lss (k := .i64) (a := b) (b := 0) (show _ = (.int .i64 (b) : Value) from (Eq.trans e962 (if_pos hb963))) rfl (fun vals' hv _ => ⟨rfl, hv.trans (if_pos hb963).symm⟩)
    ·intro k965 vals w966 h969 h970 hW968 hA967
     have e971 := hA967 24 (by decide)
     have e972 : vals 26 = (if ((decide (0 ≤ b)) && ((!((X.getD k default).void)) || (!decide ((X.getD k default).byO = (X.getD b.toNat default).ev.origin ∧ (X.getD k default).byS = (X.getD b.toNat default).ev.seq)))) = false then (.bool (decide (b < 0)) : Value) else undef) := hA967 26 (by decide)
     refine oblc rfl rfl e971 (fun hb973 => ?_) (fun hb973 => fun vals' hv _ => ⟨trivial, hv.trans (if_neg hb973).symm⟩)
     have hl974 := hb973
     try simp only [bools] at hl974
     exact ov_move (v := .bool (decide (b < 0))) (show _ = (.bool (decide (b < 0)) : Value) from (Eq.trans e972 (if_pos hb973))) (fun vals' hv _ => ⟨rfl, hv.trans (if_pos hb973).symm⟩)
    ·intro k975 vals w976 h979 h980 hW978 hA977
     have e981 : vals 27 = (if ((decide (0 ≤ b)) && ((!((X.getD k default).void)) || (!decide ((X.getD k default).byO = (X.getD b.toNat default).ev.origin ∧ (X.getD k default).byS = (X.getD b.toNat default).ev.seq)))) = false then (.bool (decide (b < 0)) : Value) else undef) := hA977 27 (by decide)
     refine oblcP rfl rfl e981 (fun hb982 => ?_) (fun hb982 => fun vals' hv _ => ⟨trivial, hv.trans (if_neg hb982).symm⟩)
     have hl983 := hb982.1
     try simp only [bools] at hl983
     have hl984 := hb982.2
     have hl984 := of_decide_eq_true hl984
     exact ov_move (v := v32) rfl (fun vals' hv _ => ⟨rfl, hv.trans (if_pos hb982).symm⟩)
    ·intro k985 vals w986 h989 h990 hW988 hA987
     have e991 : vals 27 = (if ((decide (0 ≤ b)) && ((!((X.getD k default).void)) || (!decide ((X.getD k default).byO = (X.getD b.toNat default).ev.origin ∧ (X.getD k default).byS = (X.getD b.toNat default).ev.seq)))) = false then (.bool (decide (b < 0)) : Value) else undef) := hA987 27 (by decide)
     refine oblcP rfl rfl e991 (fun hb992 => ?_) (fun hb992 => fun vals' hv _ => ⟨trivial, hv.trans (if_neg hb992).symm⟩)
     have hl993 := hb992.1
     try simp only [bools] at hl993
     have hl994 := hb992.2
     have hl994 := of_decide_eq_true hl994
     exact ov_move (v := .int .i64 ((k : Nat) : Int)) rfl (fun vals' hv _ => ⟨rfl, hv.trans (if_pos hb992).symm⟩)
    ·intro k995 vals w996 h999 h1000 hW998 hA997
     obtain rfl : k995 = 0 := Nat.le_antisymm h1000 h999
     have hS1001 : Sep _ _ _ _ := hW998
     have e1002 : vals 27 = (if ((decide (0 ≤ b)) && ((!((X.getD k default).void)) || (!decide ((X.getD k default).byO = (X.getD b.toNat default).ev.origin ∧ (X.getD k default).byS = (X.getD b.toNat default).ev.seq)))) = false then (.bool (decide (b < 0)) : Value) else undef) := hA997 27 (by decide)
     have e1003 : vals 28 = (if (((decide (0 ≤ b)) && ((!((X.getD k default).void)) || (!decide ((X.getD k default).byO = (X.getD b.toNat default).ev.origin ∧ (X.getD k default).byS = (X.getD b.toNat default).ev.seq)))) = false) ∧ (decide (b < 0)) = true then (v32 : Value) else undef) := hA997 28 (by decide)
     have e1004 : vals 29 = (if (((decide (0 ≤ b)) && ((!((X.getD k default).void)) || (!decide ((X.getD k default).byO = (X.getD b.toNat default).ev.origin ∧ (X.getD k default).byS = (X.getD b.toNat default).ev.seq)))) = false) ∧ (decide (b < 0)) = true then (.int .i64 ((k : Nat) : Int) : Value) else undef) := hA997 29 (by decide)
     refine oblcP rfl rfl e1002 (fun hb1005 => ?_) (fun hb1005 => fun vals' hv _ => ⟨trivial, hv.trans (if_neg hb1005).symm⟩)
     have hl1006 := hb1005.1
     try simp only [bools] at hl1006
     have hl1007 := hb1005.2
     have hl1007 := of_decide_eq_true hl1007
     have hi1008 : k < X.length := (by first | omega | (simp only [lens]; omega))
     exact ov_indexAddrN (k := 13) (i := k) Tryd.underlying66 Tryd.sizeOf62 (show _ = (v32 : Value) from (Eq.trans e1003 (if_pos ⟨hb1005.1, hb1005.2⟩))) hrd44.sl (show _ = (.int .i64 ((k : Nat) : Int) : Value) from (Eq.trans e1004 (if_pos ⟨hb1005.1, hb1005.2⟩))) hi1008 (fun vals' hv _ => ⟨rfl, hv.trans (if_pos hb1005).symm⟩)
    ·intro k1009 vals w1010 h1013 h1014 hW1012 hA1011
     have e1015 : vals 27 = (if ((decide (0 ≤ b)) && ((!((X.getD k default).void)) || (!decide ((X.getD k default).byO = (X.getD b.toNat default).ev.origin ∧ (X.getD k default).byS = (X.getD b.toNat default).ev.seq)))) = false then (.bool (decide (b < 0)) : Value) else undef) := hA1011 27 (by decide)
     have e1016 : vals 30 = (if (((decide (0 ≤ b)) && ((!((X.getD k default).void)) || (!decide ((X.getD k default).byO = (X.getD b.toNat default).ev.origin ∧ (X.getD k default).byS = (X.getD b.toNat default).ev.seq)))) = false) ∧ (decide (b < 0)) = true then (.pointer (some ⟨sb v32, so v32 + k * 13, none⟩) : Value) else undef) := hA1011 30 (by decide)
     refine oblcP rfl rfl e1015 (fun hb1017 => ?_) (fun hb1017 => fun vals' hv _ => ⟨trivial, hv.trans (if_neg hb1017).symm⟩)
     have hl1018 := hb1017.1
     try simp only [bools] at hl1018
     have hl1019 := hb1017.2
     have hl1019 := of_decide_eq_true hl1019
     exact fd62_2 (show _ = (.pointer (some ⟨sb v32, so v32 + k * 13, none⟩) : Value) from (Eq.trans e1016 (if_pos ⟨hb1017.1, hb1017.2⟩))) (fun vals' hv _ => ⟨rfl, hv.trans (if_pos hb1017).symm⟩)
    ·intro k1020 vals w1021 h1024 h1025 hW1023 hA1022
     obtain rfl : k1020 = 0 := Nat.le_antisymm h1025 h1024
     have hS1026 : Sep _ _ _ _ := hW1023
     have e1027 : vals 27 = (if ((decide (0 ≤ b)) && ((!((X.getD k default).void)) || (!decide ((X.getD k default).byO = (X.getD b.toNat default).ev.origin ∧ (X.getD k default).byS = (X.getD b.toNat default).ev.seq)))) = false then (.bool (decide (b < 0)) : Value) else undef) := hA1022 27 (by decide)
     have e1028 : vals 31 = (if (((decide (0 ≤ b)) && ((!((X.getD k default).void)) || (!decide ((X.getD k default).byO = (X.getD b.toNat default).ev.origin ∧ (X.getD k default).byS = (X.getD b.toNat default).ev.seq)))) = false) ∧ (decide (b < 0)) = true then (.pointer (some ⟨sb v32, so v32 + k * 13 + 11, none⟩) : Value) else undef) := hA1022 31 (by decide)
     refine oblcP rfl rfl e1027 (fun hb1029 => ?_) (fun hb1029 => fun vals' hv _ => ⟨trivial, hv.trans (if_neg hb1029).symm⟩)
     have hl1030 := hb1029.1
     try simp only [bools] at hl1030
     have hl1031 := hb1029.2
     have hl1031 := of_decide_eq_true hl1031
     have hcw1033 := hS1026.cells hce57 (hrd44.foot (ne_of_lt hi58))
     exact ov_loadk (k := 2) (cs := [.int .i64 ((X.getD k default).byO), .int .i64 ((X.getD k default).byS)]) Tryd.isAgg57 Tryd.sizeOf57 rfl (show _ = (.pointer (some ⟨sb v32, so v32 + k * 13 + 11, none⟩) : Value) from (Eq.trans e1028 (if_pos ⟨hb1029.1, hb1029.2⟩))) (CellsAt.sub hcw1033 11 (cs2 := [.int .i64 ((X.getD k default).byO), .int .i64 ((X.getD k default).byS)]) rfl) (fun vals' hv _ => ⟨rfl, hv.trans (if_pos hb1029).symm⟩)
    ·intro k1034 vals w1035 h1038 h1039 hW1037 hA1036
     have e1040 : vals 27 = (if ((decide (0 ≤ b)) && ((!((X.getD k default).void)) || (!decide ((X.getD k default).byO = (X.getD b.toNat default).ev.origin ∧ (X.getD k default).byS = (X.getD b.toNat default).ev.seq)))) = false then (.bool (decide (b < 0)) : Value) else undef) := hA1036 27 (by decide)
     refine oblcP rfl rfl e1040 (fun hb1041 => ?_) (fun hb1041 => fun vals' hv _ => ⟨trivial, hv.trans (if_neg hb1041).symm⟩)
     have hl1042 := hb1041.1
     try simp only [bools] at hl1042
     have hl1043 := hb1041.2
     have hl1043 := of_decide_eq_true hl1043
     exact ov_build (parts' := []) (v := .agg #[.int .i64 (0), .int .i64 (0)]) rfl (by simp [Instr.build, Instr.fill, Ev.cells, go_sem, Mv.cells, Fld.cells, Typ.cells, Prj.cells, Dcl.cells, Cel.cells, AskR.cells, Ask.cells, CelS.cells, Ev.cells, Ent.cells, Sta.cells]) (fun vals' hv _ => ⟨rfl, hv.trans (if_pos hb1041).symm⟩)
    ·intro k1044 vals w1045 h1048 h1049 hW1047 hA1046
     obtain rfl : k1044 = 0 := Nat.le_antisymm h1049 h1048
     have hS1050 : Sep _ _ _ _ := hW1047
     have e1051 : vals 27 = (if ((decide (0 ≤ b)) && ((!((X.getD k default).void)) || (!decide ((X.getD k default).byO = (X.getD b.toNat default).ev.origin ∧ (X.getD k default).byS = (X.getD b.toNat default).ev.seq)))) = false then (.bool (decide (b < 0)) : Value) else undef) := hA1046 27 (by decide)
     have e1052 : vals 32 = (if (((decide (0 ≤ b)) && ((!((X.getD k default).void)) || (!decide ((X.getD k default).byO = (X.getD b.toNat default).ev.origin ∧ (X.getD k default).byS = (X.getD b.toNat default).ev.seq)))) = false) ∧ (decide (b < 0)) = true then (.agg #[.int .i64 ((X.getD k default).byO), .int .i64 ((X.getD k default).byS)] : Value) else undef) := hA1046 32 (by decide)
     have e1053 : vals 33 = (if (((decide (0 ≤ b)) && ((!((X.getD k default).void)) || (!decide ((X.getD k default).byO = (X.getD b.toNat default).ev.origin ∧ (X.getD k default).byS = (X.getD b.toNat default).ev.seq)))) = false) ∧ (decide (b < 0)) = true then (.agg #[.int .i64 (0), .int .i64 (0)] : Value) else undef) := hA1046 33 (by decide)
     refine oblcP rfl rfl e1051 (fun hb1054 => ?_) (fun hb1054 => fun vals' hv _ => ⟨trivial, hv.trans (if_neg hb1054).symm⟩)
     have hl1055 := hb1054.1
     try simp only [bools] at hl1055
     have hl1056 := hb1054.2
     have hl1056 := of_decide_eq_true hl1056
     exact ov_neqS (e := decide ((X.getD k default).byO = 0 ∧ (X.getD k default).byS = 0)) (xs := #[.int .i64 ((X.getD k default).byO), .int .i64 ((X.getD k default).byS)]) (ys := #[.int .i64 (0), .int .i64 (0)]) eqS57n (show _ = (.agg #[.int .i64 ((X.getD k default).byO), .int .i64 ((X.getD k default).byS)] : Value) from (Eq.trans e1052 (if_pos ⟨hb1054.1, hb1054.2⟩))) (show _ = (.agg #[.int .i64 (0), .int .i64 (0)] : Value) from (Eq.trans e1053 (if_pos ⟨hb1054.1, hb1054.2⟩))) (fun vals' hv _ => ⟨rfl, hv.trans (if_pos hb1054).symm⟩)
    ·intro k1057 vals w1058 h1061 h1062 hW1060 hA1059
     have e1063 := hA1059 24 (by decide)
     have e1064 : vals 27 = (if ((decide (0 ≤ b)) && ((!((X.getD k default).void)) || (!decide ((X.getD k default).byO = (X.getD b.toNat default).ev.origin ∧ (X.getD k default).byS = (X.getD b.toNat default).ev.seq)))) = false then (.bool (decide (b < 0)) : Value) else undef) := hA1059 27 (by decide)
     have e1065 : vals 34 = (if (((decide (0 ≤ b)) && ((!((X.getD k default).void)) || (!decide ((X.getD k default).byO = (X.getD b.toNat default).ev.origin ∧ (X.getD k default).byS = (X.getD b.toNat default).ev.seq)))) = false) ∧ (decide (b < 0)) = true then (.bool (!decide ((X.getD k default).byO = 0 ∧ (X.getD k default).byS = 0)) : Value) else undef) := hA1059 34 (by decide)
     refine oblc rfl rfl e1063 (fun hb1066 => ?_) (fun hb1066 => fun vals' hv _ => ⟨trivial, hv.trans (if_neg hb1066).symm⟩)
     have hl1067 := hb1066
     try simp only [bools] at hl1067
     exact ov_pick_and (b := decide (b < 0)) (b' := !decide ((X.getD k default).byO = 0 ∧ (X.getD k default).byS = 0)) (show _ = (.bool (decide (b < 0)) : Value) from (Eq.trans e1064 (if_pos hb1066))) (fun hbp => (show _ = (.bool (!decide ((X.getD k default).byO = 0 ∧ (X.getD k default).byS = 0)) : Value) from (Eq.trans e1065 (if_pos ⟨hb1066, hbp⟩)))) (fun vals' hv _ => ⟨rfl, hv.trans (if_pos hb1066).symm⟩)
    ·intro k1068 vals w1069 h1072 h1073 hW1071 hA1070
     have e1074 := hA1070 24 (by decide)
     have e1075 : vals 35 = (if ((decide (0 ≤ b)) && ((!((X.getD k default).void)) || (!decide ((X.getD k default).byO = (X.getD b.toNat default).ev.origin ∧ (X.getD k default).byS = (X.getD b.toNat default).ev.seq)))) = false then (.bool ((decide (b < 0)) && (!decide ((X.getD k default).byO = 0 ∧ (X.getD k default).byS = 0))) : Value) else undef) := hA1070 35 (by decide)
     refine obl rfl ?_
     exact ov_pick_or (b := (decide (0 ≤ b)) && ((!((X.getD k default).void)) || (!decide ((X.getD k default).byO = (X.getD b.toNat default).ev.origin ∧ (X.getD k default).byS = (X.getD b.toNat default).ev.seq)))) (b' := (decide (b < 0)) && (!decide ((X.getD k default).byO = 0 ∧ (X.getD k default).byS = 0))) e1074 (fun hbp => (show _ = (.bool ((decide (b < 0)) && (!decide ((X.getD k default).byO = 0 ∧ (X.getD k default).byS = 0))) : Value) from (Eq.trans e1075 (if_pos hbp)))) (fun vals' hv _ => ⟨rfl, hv⟩)
    intro vals w1076 hW1077 hA1078
    have hS1079 : Sep _ _ _ _ := hW1077
    have e1080 := hA1078 36 (by decide)
    refine st_env (kv := [(2, v15), (3, .pointer (some ⟨b2, 0, none⟩)), (8, v32), (9, .int .i64 ((k : Nat) : Int)), (10, .pointer (some ⟨b62, 0, none⟩)), (11, .int .i64 (b)), (162, .bool (((decide (0 ≤ b)) && ((!((X.getD k default).void)) || (!decide ((X.getD k default).byO = (X.getD b.toNat default).ev.origin ∧ (X.getD k default).byS = (X.getD b.toNat default).ev.seq)))) || ((decide (b < 0)) && (!decide ((X.getD k default).byO = 0 ∧ (X.getD k default).byS = 0)))))]) ⟨rfl, rfl, rfl, rfl, rfl, rfl, (by exact e1080), trivial⟩ (fun ρw1076 => ?_)
    refine st_nil ?_
    cases hc1081 : ((decide (0 ≤ b)) && ((!((X.getD k default).void)) || (!decide ((X.getD k default).byO = (X.getD b.toNat default).ev.origin ∧ (X.getD k default).byS = (X.getD b.toNat default).ev.seq)))) || ((decide (b < 0)) && (!decide ((X.getD k default).byO = 0 ∧ (X.getD k default).byS = 0)))
    ·skip
     try simp only [bools] at hc1081
     refine WP_cond_f rfl ?_
     refine WP_skip ?_
     refine WP_region0 (by kernel_rfl) (fun _ => ?_)
     refine st (ov_move (v := .int .i64 ((k : Nat) : Int)) rfl ?_)
     have hr1082 : InR ((k + 1 : Nat) : Int) := by first | omega | (simp only [lens]; omega)
     refine st (ov_add (r := ((k + 1 : Nat) : Int)) (k := .i64) (a := ((k : Nat) : Int)) (b := 1) rfl rfl (by rw [show (((k : Nat) : Int) + 1 : Int) = ((k + 1 : Nat) : Int) by first | omega | (simp only [lens]; omega)]; exact wrap_in hr1082) ?_)
     refine st (ov_assign (v := .int .i64 ((k + 1 : Nat) : Int)) rfl ?_)
     refine st_nil ?_
     have hS1083 : Sep G38 w33 ((Blk b2 (d.cells dd0 dd1).toArray 25) :: Rs) w1076 := hS1079.sel 2 [1] (Nat.le_add_left _ _) rfl rfl
     exact ⟨_, by omega, k + 1, _, rfl, setAll_self ⟨rfl, rfl, rfl, rfl, trivial⟩, by omega, hS1083⟩
    ·skip
     try simp only [bools] at hc1081
     exfalso
     have h9 := just_by (d := d) (l := l216) (i := k) (by omega) (by rw [← hX]; exact hJR)
     rw [← hX] at h9
     rcases hc1081 with ⟨h1, h2⟩ | ⟨h1, h2⟩
     · have h3 := h9.1 h1; rcases h2 with h2 | h2; · rw [h3.1] at h2; cases h2
       · exact h2 ⟨h3.2.1, h3.2.2⟩
     · exact h2 (h9.2 h1)
   ·skip
    have hc185 := ndec_true hc185
    exfalso
    have h9 := runL_ev (d := d) (l := l216) (i := k) (by omega)
    rw [← hX] at h9
    rw [h9] at hc185
    simp at hc185
 ·skip
  try simp only [bools] at hc9
  refine WP_cond_t rfl ?_
  refine WP_seq ?_
  refine WP_region0 (by kernel_rfl) (fun _ => ?_)
  refine st (ov_call (f := 21) (vals := []) (cap := []) (show _ = (.func (.func 21) #[] #[] : Value) from rfl) rfl Tryd.call21 (D_known13  hKN hS8) ?_)
  rintro _ w1084 ⟨rfl, hS1085⟩
  refine st (ov_assign (v := .bool true) rfl ?_)
  refine st_nil ?_
  refine WP_ret ?_
  refine fin1 Tryd.results5 (show _ = (.bool true : Value) from rfl) ?_
  have hS1086 : Sep G W Rs w1084 := hS1085.sel 1 [] (Nat.le_add_left _ _) rfl rfl
  refine ⟨rfl, hS1086⟩

end Go.Proofs.YtlblilbmpdejgaaDoor
/- Steps of the proofs of this seat: part F10. -/
set_option maxRecDepth 8000
set_option maxHeartbeats 4000000
namespace Go.Proofs.YtlblilbmpdejgaaDoor
open Go.Proofs Go.RowKit

theorem C_FoldJust {w : World} {d : Dcl} {dd0 dd1 : Value} (h0 : RdS w (inHeap w) dd0 d.types) (h1 : RdS w (inHeap w) dd1 d.projs) (od : d.Ok) {n : Int} (hn : InR n) {vl : Value} {l : List Ev} (hl : RdS w (inHeap w) vl l) (hK : RdS w (inHeap w) (.slice (some ⟨0, 0, none⟩) 6 6) kindsL) : Ret Tryd.prog 5 [.agg (d.cells dd0 dd1).toArray, .int .i64 n, vl] w (fun r w' => r = .bool true ∧ Ext w w') :=
  Ret.mono (D_FoldJust h0 h1 od hn hl hK (Sep.start w)) (fun r w' h => ⟨h.1, h.2.fin⟩)
end Go.Proofs.YtlblilbmpdejgaaDoor
