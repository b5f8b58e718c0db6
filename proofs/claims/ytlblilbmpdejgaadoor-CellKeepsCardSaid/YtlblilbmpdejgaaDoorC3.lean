/- Steps of the proofs of this seat: part C3. -/
import Derived.Test.YtlblilbmpdejgaaDoorC2
set_option linter.unusedSimpArgs false
set_option linter.unusedVariables false
set_option maxRecDepth 8000
namespace Go.Proofs.YtlblilbmpdejgaaDoor
open Go.Proofs Go.RowKit

/-- What an operation does: two functions. -/
structure Rul where
  may : Nat
  does : Nat
instance : Rep Rul where
  k := 2
  rd _ _ cs x := cs = [.func (.func x.may) #[] #[], .func (.func x.does) #[] #[]]
  bytes := 16
  bpos := by decide
  kpos := by decide
  len h := by rw [h]; rfl
  one h := by rw [h]; exact all1 ⟨rfl, rfl, trivial⟩
  mono h _ := h
instance : Flat Rul := ⟨fun h => h⟩
def ruleL : List (Int × Rul) := [(1, ⟨77, 78⟩), (2, ⟨80, 81⟩), (3, ⟨82, 83⟩), (4, ⟨80, 84⟩), (5, ⟨85, 86⟩)]
theorem ruleL_none {op : Int} (h : op ≠ 1 ∧ op ≠ 2 ∧ op ≠ 3 ∧ op ≠ 4 ∧ op ≠ 5) : lookM ruleL op = none := by
  unfold lookM
  rw [Option.map_eq_none_iff, List.find?_eq_none]
  intro p hp
  simp only [ruleL, List.mem_cons, List.not_mem_nil, or_false] at hp
  rcases hp with rfl | rfl | rfl | rfl | rfl <;> simp <;> omega
theorem mayL_range (t : Typ) (c : List Cel) (f op arg : Int) : InR (mayL t c f op arg) := by unfold mayL; split <;> decide
theorem D_rules {G : Nat → Prop} {W w : World} {Rs : List HP}  (hS0 : Sep G W Rs w) : Ret Tryd.prog 52 [] w (fun r w' => ∃ (m : Nat), r = (.map (some m) : Value) ∧ Sep G W ((MapH (α := Rul) m ruleL) :: Rs) w') := by
 refine Calls_of_WP (args := []) Tryd.func52 rfl rfl ?_
 refine WP_seq ?_
 refine WP_region0 (by kernel_rfl) (fun _ => ?_)
 refine st (ov_assign (v := .map none) rfl ?_)
 refine st_nil ?_
 refine WP_seq ?_
 refine WP_region0 (by kernel_rfl) (fun _ => ?_)
 refine st (ov_makeMap ?_)
 intro w2 hn1
 obtain ⟨m3, m3e⟩ : ∃ z, z = w.heap.size := ⟨_, rfl⟩; rw [← m3e]
 have hS4 : Sep G W ((MapH (α := Rul) m3 []) :: Rs) w2 := (by rw [m3e]; exact hS0.mapNew hn1)
 refine st (ov_build (parts' := [(0, .func (.func 77) #[] #[]), (1, .func (.func 78) #[] #[])]) (v := .agg #[.func (.func 77) #[] #[], .func (.func 78) #[] #[]]) rfl (by simp [Instr.build, Instr.fill, Ev.cells, go_sem, Mv.cells, Fld.cells, Typ.cells, Prj.cells, Dcl.cells, Cel.cells, AskR.cells, Ask.cells]) ?_)
 refine stn (ov_insert (α := Rul) (F := fun _ => False) (x1 := (⟨77, 78⟩ : Rul)) (cs := [.func (.func 77) #[] #[], .func (.func 78) #[] #[]]) Tryd.underlying98 Tryd.underlying3 rfl rfl rfl (by decide) (hS4.map_ (i := 0) rfl) rfl (fun h => h) ?_)
 intro w5 hm6 hch7
 have hS8 : Sep G W ((MapH (α := Rul) m3 (updM ([] : List (Int × Rul)) 1 (⟨77, 78⟩ : Rul))) :: Rs) w5 := hS4.mapPut (i := 0) rfl hm6 hch7
 refine st (ov_build (parts' := [(0, .func (.func 80) #[] #[]), (1, .func (.func 81) #[] #[])]) (v := .agg #[.func (.func 80) #[] #[], .func (.func 81) #[] #[]]) rfl (by simp [Instr.build, Instr.fill, Ev.cells, go_sem, Mv.cells, Fld.cells, Typ.cells, Prj.cells, Dcl.cells, Cel.cells, AskR.cells, Ask.cells]) ?_)
 refine stn (ov_insert (α := Rul) (F := fun _ => False) (x1 := (⟨80, 81⟩ : Rul)) (cs := [.func (.func 80) #[] #[], .func (.func 81) #[] #[]]) Tryd.underlying98 Tryd.underlying3 rfl rfl rfl (by decide) (hS8.map_ (i := 0) rfl) rfl (fun h => h) ?_)
 intro w9 hm10 hch11
 have hS12 : Sep G W ((MapH (α := Rul) m3 (updM (updM ([] : List (Int × Rul)) 1 (⟨77, 78⟩ : Rul)) 2 (⟨80, 81⟩ : Rul))) :: Rs) w9 := hS8.mapPut (i := 0) rfl hm10 hch11
 refine st (ov_build (parts' := [(0, .func (.func 82) #[] #[]), (1, .func (.func 83) #[] #[])]) (v := .agg #[.func (.func 82) #[] #[], .func (.func 83) #[] #[]]) rfl (by simp [Instr.build, Instr.fill, Ev.cells, go_sem, Mv.cells, Fld.cells, Typ.cells, Prj.cells, Dcl.cells, Cel.cells, AskR.cells, Ask.cells]) ?_)
 refine stn (ov_insert (α := Rul) (F := fun _ => False) (x1 := (⟨82, 83⟩ : Rul)) (cs := [.func (.func 82) #[] #[], .func (.func 83) #[] #[]]) Tryd.underlying98 Tryd.underlying3 rfl rfl rfl (by decide) (hS12.map_ (i := 0) rfl) rfl (fun h => h) ?_)
 intro w13 hm14 hch15
 have hS16 : Sep G W ((MapH (α := Rul) m3 (updM (updM (updM ([] : List (Int × Rul)) 1 (⟨77, 78⟩ : Rul)) 2 (⟨80, 81⟩ : Rul)) 3 (⟨82, 83⟩ : Rul))) :: Rs) w13 := hS12.mapPut (i := 0) rfl hm14 hch15
 refine st (ov_build (parts' := [(0, .func (.func 80) #[] #[]), (1, .func (.func 84) #[] #[])]) (v := .agg #[.func (.func 80) #[] #[], .func (.func 84) #[] #[]]) rfl (by simp [Instr.build, Instr.fill, Ev.cells, go_sem, Mv.cells, Fld.cells, Typ.cells, Prj.cells, Dcl.cells, Cel.cells, AskR.cells, Ask.cells]) ?_)
 refine stn (ov_insert (α := Rul) (F := fun _ => False) (x1 := (⟨80, 84⟩ : Rul)) (cs := [.func (.func 80) #[] #[], .func (.func 84) #[] #[]]) Tryd.underlying98 Tryd.underlying3 rfl rfl rfl (by decide) (hS16.map_ (i := 0) rfl) rfl (fun h => h) ?_)
 intro w17 hm18 hch19
 have hS20 : Sep G W ((MapH (α := Rul) m3 (updM (updM (updM (updM ([] : List (Int × Rul)) 1 (⟨77, 78⟩ : Rul)) 2 (⟨80, 81⟩ : Rul)) 3 (⟨82, 83⟩ : Rul)) 4 (⟨80, 84⟩ : Rul))) :: Rs) w17 := hS16.mapPut (i := 0) rfl hm18 hch19
 refine st (ov_build (parts' := [(0, .func (.func 85) #[] #[]), (1, .func (.func 86) #[] #[])]) (v := .agg #[.func (.func 85) #[] #[], .func (.func 86) #[] #[]]) rfl (by simp [Instr.build, Instr.fill, Ev.cells, go_sem, Mv.cells, Fld.cells, Typ.cells, Prj.cells, Dcl.cells, Cel.cells, AskR.cells, Ask.cells]) ?_)
 refine stn (ov_insert (α := Rul) (F := fun _ => False) (x1 := (⟨85, 86⟩ : Rul)) (cs := [.func (.func 85) #[] #[], .func (.func 86) #[] #[]]) Tryd.underlying98 Tryd.underlying3 rfl rfl rfl (by decide) (hS20.map_ (i := 0) rfl) rfl (fun h => h) ?_)
 intro w21 hm22 hch23
 have hS24 : Sep G W ((MapH (α := Rul) m3 (updM (updM (updM (updM (updM ([] : List (Int × Rul)) 1 (⟨77, 78⟩ : Rul)) 2 (⟨80, 81⟩ : Rul)) 3 (⟨82, 83⟩ : Rul)) 4 (⟨80, 84⟩ : Rul)) 5 (⟨85, 86⟩ : Rul))) :: Rs) w21 := hS20.mapPut (i := 0) rfl hm22 hch23
 refine st (ov_move (v := .map (some m3)) rfl ?_)
 refine st (ov_assign (v := .map (some m3)) rfl ?_)
 refine st_nil ?_
 refine WP_ret ?_
 refine fin1 Tryd.results52 (show _ = (.map (some m3) : Value) from rfl) ?_
 have hz : updM (updM (updM (updM (updM ([] : List (Int × Rul)) 1 (⟨77, 78⟩ : Rul)) 2 (⟨80, 81⟩ : Rul)) 3 (⟨82, 83⟩ : Rul)) 4 (⟨80, 84⟩ : Rul)) 5 (⟨85, 86⟩ : Rul) = ruleL := rfl
 rw [hz] at hS24
 refine ⟨m3, rfl, hS24⟩

theorem rule_some {op : Int} (h : op = 1 ∨ op = 2 ∨ op = 3 ∨ op = 4 ∨ op = 5) : ∃ x, lookM ruleL op = some x := by rcases h with rfl | rfl | rfl | rfl | rfl <;> exact ⟨_, rfl⟩
theorem rule_call {op : Int} {x : Rul} (h : op = 1 ∨ op = 2 ∨ op = 3 ∨ op = 4 ∨ op = 5) (hx : lookM ruleL op = some x) : (∀ args w, (callFunc x.may args).run Tryd.prog w = .ok (.enter x.may args) w) ∧ (∀ args w, (callFunc x.does args).run Tryd.prog w = .ok (.enter x.does args) w) := by
  rcases h with rfl | rfl | rfl | rfl | rfl <;> cases hx
  · exact ⟨Tryd.call77, Tryd.call78⟩
  · exact ⟨Tryd.call80, Tryd.call81⟩
  · exact ⟨Tryd.call82, Tryd.call83⟩
  · exact ⟨Tryd.call80, Tryd.call84⟩
  · exact ⟨Tryd.call85, Tryd.call86⟩
theorem D_rmay {G : Nat → Prop} {W w : World} {Rs : List HP} {op : Int} {x : Rul} {a : AskR} {da0 : Value} (hda0 : RdS W G da0 a.fld.moves) {da1 : Value} (hda1 : RdS W G da1 a.cls) (oa : a.Ok) (hS0 : Sep G W Rs w) (hx : lookM ruleL op = some x) (hop : op = 1 ∨ op = 2 ∨ op = 3 ∨ op = 4 ∨ op = 5) (hak : 0 ≤ a.no ∧ a.no < a.cls.length ∧ ((op = 3 ∨ op = 4) → Asc (celAt a.cls a.no).set) ∧ (op = 5 → 0 ≤ a.arg ∧ a.arg < a.fld.moves.length ∧ ((mvAt a.fld a.arg).need < 0 ∨ (mvAt a.fld a.arg).need < a.cls.length))) : Ret Tryd.prog x.may [.agg (a.cells da0 da1).toArray] w (fun r w' => r = (.bool (mayB a.fld a.cls (celAt a.cls a.no) op a.arg) : Value) ∧ Sep G W Rs w') := by
  rcases hop with rfl | rfl | rfl | rfl | rfl <;> cases hx
  · exact D_mayInc hda0 hda1 oa hS0 ⟨hak.1, hak.2.1⟩
  · exact D_always hda0 hda1 oa hS0
  · exact D_mayAdd hda0 hda1 oa hS0 ⟨hak.1, hak.2.1⟩ (hak.2.2.1 (.inl rfl))
  · exact D_always hda0 hda1 oa hS0
  · exact D_mayMove hda0 hda1 oa hS0 ⟨hak.1, hak.2.1⟩ ⟨(hak.2.2.2 rfl).1, (hak.2.2.2 rfl).2.1⟩ (hak.2.2.2 rfl).2.2
theorem fd96_0 {d : Option Tmp} {ty : TypeId} {pos : String} {af : Array Edge} {g : Option (Nat × Bool)} {σ : Env} {w : World} {K : Value → World → Prop} {x : Operand} {b o : Nat} (hx : ev σ x = .pointer (some ⟨b, o, none⟩)) (h : K (.pointer (some ⟨b, o + 0, none⟩)) w) : opV Tryd.prog ⟨d, .fieldAddr 96 x 0, ty, pos, af, g⟩ σ w K := ov_fieldAddr Tryd.underlying96 rfl rfl (fun w => ⟨0, Tryd.sizeOf93 w⟩) hx h
theorem fd33_0 {d : Option Tmp} {ty : TypeId} {pos : String} {af : Array Edge} {g : Option (Nat × Bool)} {σ : Env} {w : World} {K : Value → World → Prop} {x : Operand} {b o : Nat} (hx : ev σ x = .pointer (some ⟨b, o, none⟩)) (h : K (.pointer (some ⟨b, o + 0, none⟩)) w) : opV Tryd.prog ⟨d, .fieldAddr 33 x 0, ty, pos, af, g⟩ σ w K := ov_fieldAddr Tryd.underlying33 rfl rfl (fun w => ⟨0, Tryd.sizeOf31 w⟩) hx h
set_option maxHeartbeats 4000000 in
theorem D_May {G : Nat → Prop} {W w : World} {Rs : List HP} {t : Typ} {dt0 : Value} (hdt0 : RdS W G dt0 t.fields) (ot : t.Ok) {vc : Value} {c : List Cel} (hc : RdS W G vc c) {f : Int} (hf : InR f) {op : Int} (hop : InR op) {arg : Int} (harg : InR arg) (hS0 : Sep G W Rs w) (hak : AskOk t c f op arg) : Ret Tryd.prog 16 [.agg (t.cells dt0).toArray, vc, .int .i64 (f), .int .i64 (op), .int .i64 (arg)] w (fun r w' => r = (.int .i64 (mayL t c f op arg) : Value) ∧ Sep G W Rs w') := by
 have hdt0s : t.fields.length * 48 ≤ 140737488355328 := hdt0.small
 have hcs : c.length * 32 ≤ 140737488355328 := hc.small
 have hf0 := hak.1; have hf1 := hak.2.1; have hf2 := hak.2.2.1
 refine Calls_of_WP (args := [.agg (t.cells dt0).toArray, vc, .int .i64 (f), .int .i64 (op), .int .i64 (arg)]) Tryd.func16 rfl rfl ?_
 refine WP_seq ?_
 refine WP_region0 (by kernel_rfl) (fun _ => ?_)
 refine st (ov_box (v := .agg (t.cells dt0).toArray) rfl ?_)
 intro w3 b2 hn1
 have hS4 : Sep G W ((Blk b2 (t.cells dt0).toArray 33) :: Rs) w3 := hS0.new hn1
 refine st (ov_assign (v := .int .i64 (0)) rfl ?_)
 refine st_nil ?_
 refine WP_seq ?_
 refine WP_seq ?_
 refine WP_region0 (by kernel_rfl) (fun _ => ?_)
 refine st (ov_call (f := 52) (vals := []) (cap := []) (show _ = (.func (.func 52) #[] #[] : Value) from rfl) rfl Tryd.call52 (D_rules  hS4) ?_)
 rintro _ w6 ⟨m5, rfl, hS7⟩
 refine st (ov_move (v := .int .i64 (op)) rfl ?_)
 have hops : (op = 1 ∨ op = 2 ∨ op = 3 ∨ op = 4 ∨ op = 5) ∨ (op ≠ 1 ∧ op ≠ 2 ∧ op ≠ 3 ∧ op ≠ 4 ∧ op ≠ 5) := by omega
 rcases hops with hop | hop
 ·skip
  obtain ⟨rx, hrx⟩ := rule_some hop
  refine st (ov_lookupSome (α := Rul) (a := rx) Tryd.underlying98 Tryd.underlying3 rfl rfl (hS7.map_ (i := 0) rfl) hrx ?_)
  rintro _ rfl
  refine st (ov_move (v := .tuple #[.agg #[.func (.func rx.may) #[] #[], .func (.func rx.does) #[] #[]], .bool true]) rfl ?_)
  refine st (ov_extract (vs := [.agg #[.func (.func rx.may) #[] #[], .func (.func rx.does) #[] #[]], .bool true]) (i := 0) (v := .agg #[.func (.func rx.may) #[] #[], .func (.func rx.does) #[] #[]]) rfl rfl ?_)
  refine st (ov_extract (vs := [.agg #[.func (.func rx.may) #[] #[], .func (.func rx.does) #[] #[]], .bool true]) (i := 1) (v := .bool true) rfl rfl ?_)
  refine st (ov_alloc Tryd.zeroValue96 ?_)
  intro w10 b9 hn8
  have hS11 : Sep G W ((Blk b9 #[.nilFunc, .nilFunc] 96) :: (MapH (α := Rul) m5 ruleL) :: (Blk b2 (t.cells dt0).toArray 33) :: Rs) w10 := hS7.new hn8
  refine stn (ov_store (v := .agg #[.func (.func rx.may) #[] #[], .func (.func rx.does) #[] #[]]) (c' := #[.func (.func rx.may) #[] #[], .func (.func rx.does) #[] #[]]) Tryd.sizeOf96 rfl rfl (hS11.blk (i := 0) rfl) (all1 ⟨rfl, rfl, trivial⟩) (Nat.le_of_ble_eq_true rfl) rfl ?_)
  intro w12 hp13
  have hS14 : Sep G W ((Blk b9 #[.func (.func rx.may) #[] #[], .func (.func rx.does) #[] #[]] 96) :: (MapH (α := Rul) m5 ruleL) :: (Blk b2 (t.cells dt0).toArray 33) :: Rs) w12 := hS11.put (i := 0) rfl hp13
  refine st (ov_assign (v := .bool true) rfl ?_)
  refine st_nil ?_
  refine WP_seq ?_
  refine WP_draw4 (WF [fun vals wq => Sep G W ((Blk b9 #[.func (.func rx.may) #[] #[], .func (.func rx.does) #[] #[]] 96) :: (MapH (α := Rul) m5 ruleL) :: (Blk b2 (t.cells dt0).toArray 33) :: Rs) wq, fun vals wq => (vals 13 = (.bool (mayB (⟨((t.fields.getD f.toNat default)), c, f, arg⟩ : AskR).fld (⟨((t.fields.getD f.toNat default)), c, f, arg⟩ : AskR).cls (celAt (⟨((t.fields.getD f.toNat default)), c, f, arg⟩ : AskR).cls (⟨((t.fields.getD f.toNat default)), c, f, arg⟩ : AskR).no) op (⟨((t.fields.getD f.toNat default)), c, f, arg⟩ : AskR).arg) : Value)) ∧ Sep G W ((Blk b9 #[.func (.func rx.may) #[] #[], .func (.func rx.does) #[] #[]] 96) :: (MapH (α := Rul) m5 ruleL) :: (Blk b2 (t.cells dt0).toArray 33) :: Rs) wq]) (AF [Vl 0 (.bool true), Vl 1 (.bool true), Vl 2 (.pointer (some ⟨b9, 0, none⟩)), Vl 3 (.func (.func rx.may) #[] #[]), Vl 4 (.pointer (some ⟨b2, 0, none⟩)), Vl 5 (dt0), Vl 6 (.int .i64 (f)), Vl 7 (.pointer (some ⟨sb dt0, so dt0 + f.toNat * 4, none⟩)), Vl 8 (.agg ((t.fields.getD f.toNat default).cells (cellV W (sb dt0) (so dt0 + f.toNat * 4 + 3))).toArray), Vl 9 (vc), Vl 10 (.int .i64 (f)), Vl 11 (.int .i64 (arg)), Vl 12 (.agg ((⟨((t.fields.getD f.toNat default)), c, f, arg⟩ : AskR).cells (cellV W (sb dt0) (so dt0 + f.toNat * 4 + 3)) vc).toArray), fun _ => True, Vl 14 (.bool (!(mayB (⟨((t.fields.getD f.toNat default)), c, f, arg⟩ : AskR).fld (⟨((t.fields.getD f.toNat default)), c, f, arg⟩ : AskR).cls (celAt (⟨((t.fields.getD f.toNat default)), c, f, arg⟩ : AskR).cls (⟨((t.fields.getD f.toNat default)), c, f, arg⟩ : AskR).no) op (⟨((t.fields.getD f.toNat default)), c, f, arg⟩ : AskR).arg))), Vl 15 (.bool (!(mayB (⟨((t.fields.getD f.toNat default)), c, f, arg⟩ : AskR).fld (⟨((t.fields.getD f.toNat default)), c, f, arg⟩ : AskR).cls (celAt (⟨((t.fields.getD f.toNat default)), c, f, arg⟩ : AskR).cls (⟨((t.fields.getD f.toNat default)), c, f, arg⟩ : AskR).no) op (⟨((t.fields.getD f.toNat default)), c, f, arg⟩ : AskR).arg)))]) [[], [0], [0, 1], [0, 1, 2], [0, 1], [0, 1, 4], [0, 1], [0, 1, 4, 5, 6], [0, 1, 4, 5, 6, 7], [0, 1], [0, 1], [0, 1], [0, 1, 4, 5, 6, 7, 8, 9, 10, 11], [0, 1, 2, 3, 4, 5, 6, 7, 8, 9, 10, 11, 12], [0, 1, 2, 3, 4, 5, 6, 7, 8, 9, 10, 11, 12, 13], [0, 1, 2, 3, 4, 5, 6, 7, 8, 9, 10, 11, 12, 13, 14]] [13] [(0, 0), (0, 0), (0, 0), (0, 0), (0, 0), (0, 0), (0, 0), (0, 0), (0, 0), (0, 0), (0, 0), (0, 0), (0, 0), (0, 0), (1, 1), (1, 1)] (by kernel_rfl) (by kernel_rfl) (by kernel_rfl) rfl (by kernel_rfl) (by kernel_rfl) (fun _ h1 h2 h3 h4 _ => hS14.same h1 h2 h3 h4) ?_ (AF_loc ⟨dA, dA, dA, dA, dA, dA, dA, dA, dA, dA, dA, dA, dA, dT, dA, dA, trivial⟩) ⟨?_, ?_, ?_, ?_, ?_, ?_, ?_, ?_, ?_, ?_, ?_, ?_, ?_, ?_, ?_, ?_, trivial⟩ ?_
  ·intro k vals vals' w hv h
   have e : ∀ j ∈ ([13] : List Nat), vals' j = vals j := hv
   match k, h with
   | 0, h => exact h
   | 1, h => exact (by simpa only [WF, List.getElem?_cons_zero, List.getElem?_cons_succ, e 13 (by decide)] using h)
   | _ + 2, _ => trivial
  ·intro k162 vals w163 h166 h167 hW165 hA164
   refine obl rfl ?_
   exact ov_move (v := .bool true) rfl (fun vals' hv _ => ⟨rfl, hv⟩)
  ·intro k168 vals w169 h172 h173 hW171 hA170
   have e174 : vals 0 = (.bool true : Value) := hA170 0 (by decide)
   refine obl rfl ?_
   exact ov_move (v := .bool true) e174 (fun vals' hv _ => ⟨rfl, hv⟩)
  ·intro k175 vals w176 h179 h180 hW178 hA177
   have e181 : vals 1 = (.bool true : Value) := hA177 1 (by decide)
   refine oblc rfl rfl e181 (fun _ => ?_) (fun hb => absurd rfl hb)
   exact fd96_0 rfl (fun vals' hv _ => ⟨rfl, hv⟩)
  ·intro k182 vals w183 h186 h187 hW185 hA184
   obtain rfl : k182 = 0 := Nat.le_antisymm h187 h186
   have hS188 : Sep G W ((Blk b9 #[.func (.func rx.may) #[] #[], .func (.func rx.does) #[] #[]] 96) :: (MapH (α := Rul) m5 ruleL) :: (Blk b2 (t.cells dt0).toArray 33) :: Rs) w183 := hW185
   have e189 : vals 1 = (.bool true : Value) := hA184 1 (by decide)
   have e190 : vals 2 = (.pointer (some ⟨b9, 0, none⟩) : Value) := hA184 2 (by decide)
   refine oblc rfl rfl e189 (fun _ => ?_) (fun hb => absurd rfl hb)
   exact ov_load1 (v := .func (.func rx.may) #[] #[]) Tryd.isAgg93 e190 (blk_cellL (hS188.blk (i := 0) rfl) rfl) (fun vals' hv _ => ⟨rfl, hv⟩)
  ·intro k191 vals w192 h195 h196 hW194 hA193
   have e197 : vals 1 = (.bool true : Value) := hA193 1 (by decide)
   refine oblc rfl rfl e197 (fun _ => ?_) (fun hb => absurd rfl hb)
   exact fd33_0 rfl (fun vals' hv _ => ⟨rfl, hv⟩)
  ·intro k198 vals w199 h202 h203 hW201 hA200
   obtain rfl : k198 = 0 := Nat.le_antisymm h203 h202
   have hS204 : Sep G W ((Blk b9 #[.func (.func rx.may) #[] #[], .func (.func rx.does) #[] #[]] 96) :: (MapH (α := Rul) m5 ruleL) :: (Blk b2 (t.cells dt0).toArray 33) :: Rs) w199 := hW201
   have e205 : vals 1 = (.bool true : Value) := hA200 1 (by decide)
   have e206 : vals 4 = (.pointer (some ⟨b2, 0, none⟩) : Value) := hA200 4 (by decide)
   refine oblc rfl rfl e205 (fun _ => ?_) (fun hb => absurd rfl hb)
   exact ov_load1 (v := dt0) Tryd.isAgg31 e206 (blk_cellL (hS204.blk (i := 2) rfl) rfl) (fun vals' hv _ => ⟨rfl, hv⟩)
  ·intro k207 vals w208 h211 h212 hW210 hA209
   have e213 : vals 1 = (.bool true : Value) := hA209 1 (by decide)
   refine oblc rfl rfl e213 (fun _ => ?_) (fun hb => absurd rfl hb)
   exact ov_move (v := .int .i64 (f)) rfl (fun vals' hv _ => ⟨rfl, hv⟩)
  ·intro k214 vals w215 h218 h219 hW217 hA216
   obtain rfl : k214 = 0 := Nat.le_antisymm h219 h218
   have hS220 : Sep G W ((Blk b9 #[.func (.func rx.may) #[] #[], .func (.func rx.does) #[] #[]] 96) :: (MapH (α := Rul) m5 ruleL) :: (Blk b2 (t.cells dt0).toArray 33) :: Rs) w215 := hW217
   have e221 : vals 1 = (.bool true : Value) := hA216 1 (by decide)
   have e222 : vals 5 = (dt0 : Value) := hA216 5 (by decide)
   have e223 : vals 6 = (.int .i64 (f) : Value) := hA216 6 (by decide)
   refine oblc rfl rfl e221 (fun _ => ?_) (fun hb => absurd rfl hb)
   have hi224 : f.toNat < t.fields.length := (by have h1 := hak.1; have h2 := hak.2.1; have h3 := hak.2.2.1; omega)
   exact ov_indexAddr (k := 4) (i := f) Tryd.underlying31 Tryd.sizeOf79 e222 hdt0.sl e223 ⟨by omega, by omega⟩ (fun vals' hv _ => ⟨rfl, hv⟩)
  ·intro k225 vals w226 h229 h230 hW228 hA227
   obtain rfl : k225 = 0 := Nat.le_antisymm h230 h229
   have hS231 : Sep G W ((Blk b9 #[.func (.func rx.may) #[] #[], .func (.func rx.does) #[] #[]] 96) :: (MapH (α := Rul) m5 ruleL) :: (Blk b2 (t.cells dt0).toArray 33) :: Rs) w226 := hW228
   have e232 : vals 1 = (.bool true : Value) := hA227 1 (by decide)
   have e233 : vals 7 = (.pointer (some ⟨sb dt0, so dt0 + f.toNat * 4, none⟩) : Value) := hA227 7 (by decide)
   refine oblc rfl rfl e232 (fun _ => ?_) (fun hb => absurd rfl hb)
   have hi235 : f.toNat < t.fields.length := (by have h1 := hak.1; have h2 := hak.2.1; have h3 := hak.2.2.1; omega)
   obtain ⟨hce234, hde234_0, hoke234⟩ := hdt0.fld hi235
   rw [← getD_at default hi235] at hce234 hde234_0 hoke234
   have hsm236 : ((t.fields.getD f.toNat default).moves).length * 32 ≤ 140737488355328 := hde234_0.small
   have hcw237 := hS231.cells hce234 (hdt0.foot (ne_of_lt hi235))
   exact ov_loadk (k := 4) Tryd.isAgg79 Tryd.sizeOf79 rfl e233 hcw237 (fun vals' hv _ => ⟨rfl, hv⟩)
  ·intro k238 vals w239 h242 h243 hW241 hA240
   have e244 : vals 1 = (.bool true : Value) := hA240 1 (by decide)
   refine oblc rfl rfl e244 (fun _ => ?_) (fun hb => absurd rfl hb)
   exact ov_move (v := vc) rfl (fun vals' hv _ => ⟨rfl, hv⟩)
  ·intro k245 vals w246 h249 h250 hW248 hA247
   have e251 : vals 1 = (.bool true : Value) := hA247 1 (by decide)
   refine oblc rfl rfl e251 (fun _ => ?_) (fun hb => absurd rfl hb)
   exact ov_move (v := .int .i64 (f)) rfl (fun vals' hv _ => ⟨rfl, hv⟩)
  ·intro k252 vals w253 h256 h257 hW255 hA254
   have e258 : vals 1 = (.bool true : Value) := hA254 1 (by decide)
   refine oblc rfl rfl e258 (fun _ => ?_) (fun hb => absurd rfl hb)
   exact ov_move (v := .int .i64 (arg)) rfl (fun vals' hv _ => ⟨rfl, hv⟩)
  ·intro k259 vals w260 h263 h264 hW262 hA261
   have e265 : vals 1 = (.bool true : Value) := hA261 1 (by decide)
   have e266 : vals 8 = (.agg ((t.fields.getD f.toNat default).cells (cellV W (sb dt0) (so dt0 + f.toNat * 4 + 3))).toArray : Value) := hA261 8 (by decide)
   have e267 : vals 9 = (vc : Value) := hA261 9 (by decide)
   have e268 : vals 10 = (.int .i64 (f) : Value) := hA261 10 (by decide)
   have e269 : vals 11 = (.int .i64 (arg) : Value) := hA261 11 (by decide)
   refine oblc rfl rfl e265 (fun _ => ?_) (fun hb => absurd rfl hb)
   have hi271 : f.toNat < t.fields.length := (by have h1 := hak.1; have h2 := hak.2.1; have h3 := hak.2.2.1; omega)
   obtain ⟨hce270, hde270_0, hoke270⟩ := hdt0.fld hi271
   rw [← getD_at default hi271] at hce270 hde270_0 hoke270
   have hsm272 : ((t.fields.getD f.toNat default).moves).length * 32 ≤ 140737488355328 := hde270_0.small
   have ok273 : AskR.Ok (⟨((t.fields.getD f.toNat default)), c, f, arg⟩ : AskR) := ⟨⟨(show InR ((t.fields.getD f.toNat default).kind) from hoke270.kind), (show InR ((t.fields.getD f.toNat default).policy) from hoke270.policy)⟩, (show InR (f) from (by omega)), (show InR (arg) from (by omega))⟩
   exact ov_build (parts' := [(0, .agg ((t.fields.getD f.toNat default).cells (cellV W (sb dt0) (so dt0 + f.toNat * 4 + 3))).toArray), (1, vc), (2, .int .i64 (f)), (3, .int .i64 (arg))]) (v := .agg ((⟨((t.fields.getD f.toNat default)), c, f, arg⟩ : AskR).cells (cellV W (sb dt0) (so dt0 + f.toNat * 4 + 3)) vc).toArray) (mapP ⟨rfl, e266, rfl, e267, rfl, e268, rfl, e269, trivial⟩) (by obtain ⟨_, _, hv274, _⟩ := hc.sl; rw [show vc = Value.slice _ _ _ from hv274]; simp [Instr.build, Instr.fill, Ev.cells, go_sem, Mv.cells, Fld.cells, Typ.cells, Prj.cells, Dcl.cells, Cel.cells, AskR.cells, Ask.cells]) (fun vals' hv _ => ⟨rfl, hv⟩)
  ·intro k128 vals w129 h132 h133 hW131 hA130
   obtain rfl : k128 = 0 := Nat.le_antisymm h133 h132
   have hS134 : Sep G W ((Blk b9 #[.func (.func rx.may) #[] #[], .func (.func rx.does) #[] #[]] 96) :: (MapH (α := Rul) m5 ruleL) :: (Blk b2 (t.cells dt0).toArray 33) :: Rs) w129 := hW131
   have e135 : vals 1 = (.bool true : Value) := hA130 1 (by decide)
   have e136 : vals 3 = (.func (.func rx.may) #[] #[] : Value) := hA130 3 (by decide)
   have e137 : vals 12 = (.agg ((⟨((t.fields.getD f.toNat default)), c, f, arg⟩ : AskR).cells (cellV W (sb dt0) (so dt0 + f.toNat * 4 + 3)) vc).toArray : Value) := hA130 12 (by decide)
   refine oblc rfl rfl e135 (fun _ => ?_) (fun hb => absurd rfl hb)
   have hi139 : f.toNat < t.fields.length := (by have h1 := hak.1; have h2 := hak.2.1; have h3 := hak.2.2.1; omega)
   obtain ⟨hce138, hde138_0, hoke138⟩ := hdt0.fld hi139
   rw [← getD_at default hi139] at hce138 hde138_0 hoke138
   have hsm140 : ((t.fields.getD f.toNat default).moves).length * 32 ≤ 140737488355328 := hde138_0.small
   have hcw141 := hS134.cells hce138 (hdt0.foot (ne_of_lt hi139))
   have ok142 : AskR.Ok (⟨((t.fields.getD f.toNat default)), c, f, arg⟩ : AskR) := ⟨⟨(show InR ((t.fields.getD f.toNat default).kind) from hoke138.kind), (show InR ((t.fields.getD f.toNat default).policy) from hoke138.policy)⟩, (show InR (f) from (by omega)), (show InR (arg) from (by omega))⟩
   refine (ov_call (f := rx.may) (vals := [.agg ((⟨((t.fields.getD f.toNat default)), c, f, arg⟩ : AskR).cells (cellV W (sb dt0) (so dt0 + f.toNat * 4 + 3)) vc).toArray]) (cap := []) (show _ = (.func (.func rx.may) #[] #[] : Value) from e136) (mapL ⟨e137, trivial⟩) (rule_call hop hrx).1 (D_rmay (a := (⟨((t.fields.getD f.toNat default)), c, f, arg⟩ : AskR)) hde138_0 hc ok142 hS134 (hrx) (hop) (⟨hak.1, hak.2.2.1, hak.2.2.2.1, hak.2.2.2.2⟩)) ?_)
   rintro _ w143 ⟨rfl, hS144⟩
   intro vals' hv hv'
   refine ⟨?_, trivial⟩
   show (vals' 13 = (.bool (mayB (⟨((t.fields.getD f.toNat default)), c, f, arg⟩ : AskR).fld (⟨((t.fields.getD f.toNat default)), c, f, arg⟩ : AskR).cls (celAt (⟨((t.fields.getD f.toNat default)), c, f, arg⟩ : AskR).cls (⟨((t.fields.getD f.toNat default)), c, f, arg⟩ : AskR).no) op (⟨((t.fields.getD f.toNat default)), c, f, arg⟩ : AskR).arg) : Value)) ∧ Sep G W ((Blk b9 #[.func (.func rx.may) #[] #[], .func (.func rx.does) #[] #[]] 96) :: (MapH (α := Rul) m5 ruleL) :: (Blk b2 (t.cells dt0).toArray 33) :: Rs) w143
   exact ⟨hv, hS144⟩
  ·intro k275 vals w276 h279 h280 hW278 hA277
   obtain rfl : k275 = 1 := Nat.le_antisymm h280 h279
   obtain ⟨he145, hS281⟩ : (vals 13 = (.bool (mayB (⟨((t.fields.getD f.toNat default)), c, f, arg⟩ : AskR).fld (⟨((t.fields.getD f.toNat default)), c, f, arg⟩ : AskR).cls (celAt (⟨((t.fields.getD f.toNat default)), c, f, arg⟩ : AskR).cls (⟨((t.fields.getD f.toNat default)), c, f, arg⟩ : AskR).no) op (⟨((t.fields.getD f.toNat default)), c, f, arg⟩ : AskR).arg) : Value)) ∧ Sep G W ((Blk b9 #[.func (.func rx.may) #[] #[], .func (.func rx.does) #[] #[]] 96) :: (MapH (α := Rul) m5 ruleL) :: (Blk b2 (t.cells dt0).toArray 33) :: Rs) w276 := hW278
   have e282 : vals 1 = (.bool true : Value) := hA277 1 (by decide)
   refine oblc rfl rfl e282 (fun _ => ?_) (fun hb => absurd rfl hb)
   exact ov_not (a := mayB (⟨((t.fields.getD f.toNat default)), c, f, arg⟩ : AskR).fld (⟨((t.fields.getD f.toNat default)), c, f, arg⟩ : AskR).cls (celAt (⟨((t.fields.getD f.toNat default)), c, f, arg⟩ : AskR).cls (⟨((t.fields.getD f.toNat default)), c, f, arg⟩ : AskR).no) op (⟨((t.fields.getD f.toNat default)), c, f, arg⟩ : AskR).arg) he145 (fun vals' hv _ => ⟨rfl, hv⟩)
  ·intro k283 vals w284 h287 h288 hW286 hA285
   have e289 : vals 1 = (.bool true : Value) := hA285 1 (by decide)
   have e290 : vals 14 = (.bool (!(mayB (⟨((t.fields.getD f.toNat default)), c, f, arg⟩ : AskR).fld (⟨((t.fields.getD f.toNat default)), c, f, arg⟩ : AskR).cls (celAt (⟨((t.fields.getD f.toNat default)), c, f, arg⟩ : AskR).cls (⟨((t.fields.getD f.toNat default)), c, f, arg⟩ : AskR).no) op (⟨((t.fields.getD f.toNat default)), c, f, arg⟩ : AskR).arg)) : Value) := hA285 14 (by decide)
   refine obl rfl ?_
   exact ov_pick_t (v := .bool (!(mayB (⟨((t.fields.getD f.toNat default)), c, f, arg⟩ : AskR).fld (⟨((t.fields.getD f.toNat default)), c, f, arg⟩ : AskR).cls (celAt (⟨((t.fields.getD f.toNat default)), c, f, arg⟩ : AskR).cls (⟨((t.fields.getD f.toNat default)), c, f, arg⟩ : AskR).no) op (⟨((t.fields.getD f.toNat default)), c, f, arg⟩ : AskR).arg))) e289 e290 (fun vals' hv _ => ⟨rfl, hv⟩)
  intro vals w291 hW292 hA293
  obtain ⟨he145, hS294⟩ : (vals 13 = (.bool (mayB (⟨((t.fields.getD f.toNat default)), c, f, arg⟩ : AskR).fld (⟨((t.fields.getD f.toNat default)), c, f, arg⟩ : AskR).cls (celAt (⟨((t.fields.getD f.toNat default)), c, f, arg⟩ : AskR).cls (⟨((t.fields.getD f.toNat default)), c, f, arg⟩ : AskR).no) op (⟨((t.fields.getD f.toNat default)), c, f, arg⟩ : AskR).arg) : Value)) ∧ Sep G W ((Blk b9 #[.func (.func rx.may) #[] #[], .func (.func rx.does) #[] #[]] 96) :: (MapH (α := Rul) m5 ruleL) :: (Blk b2 (t.cells dt0).toArray 33) :: Rs) w291 := hW292
  have e295 : vals 15 = (.bool (!(mayB (⟨((t.fields.getD f.toNat default)), c, f, arg⟩ : AskR).fld (⟨((t.fields.getD f.toNat default)), c, f, arg⟩ : AskR).cls (celAt (⟨((t.fields.getD f.toNat default)), c, f, arg⟩ : AskR).cls (⟨((t.fields.getD f.toNat default)), c, f, arg⟩ : AskR).no) op (⟨((t.fields.getD f.toNat default)), c, f, arg⟩ : AskR).arg)) : Value) := hA293 15 (by decide)
  refine st_env (kv := [(0, .agg (t.cells dt0).toArray), (1, vc), (2, .int .i64 (f)), (3, .int .i64 (op)), (4, .int .i64 (arg)), (5, .pointer (some ⟨b2, 0, none⟩)), (10, .int .i64 (0)), (14, .map (some m5)), (15, .int .i64 (op)), (16, .tuple #[.agg #[.func (.func rx.may) #[] #[], .func (.func rx.does) #[] #[]], .bool true]), (13, .tuple #[.agg #[.func (.func rx.may) #[] #[], .func (.func rx.does) #[] #[]], .bool true]), (17, .agg #[.func (.func rx.may) #[] #[], .func (.func rx.does) #[] #[]]), (18, .bool true), (11, .pointer (some ⟨b9, 0, none⟩)), (12, .bool true), (34, .bool (!(mayB (⟨((t.fields.getD f.toNat default)), c, f, arg⟩ : AskR).fld (⟨((t.fields.getD f.toNat default)), c, f, arg⟩ : AskR).cls (celAt (⟨((t.fields.getD f.toNat default)), c, f, arg⟩ : AskR).cls (⟨((t.fields.getD f.toNat default)), c, f, arg⟩ : AskR).no) op (⟨((t.fields.getD f.toNat default)), c, f, arg⟩ : AskR).arg)))]) ⟨rfl, rfl, rfl, rfl, rfl, rfl, rfl, rfl, rfl, rfl, rfl, rfl, rfl, rfl, rfl, (by exact e295), trivial⟩ (fun ρw291 => ?_)
  refine st_nil ?_
  cases hc296 : !(mayB (⟨((t.fields.getD f.toNat default)), c, f, arg⟩ : AskR).fld (⟨((t.fields.getD f.toNat default)), c, f, arg⟩ : AskR).cls (celAt (⟨((t.fields.getD f.toNat default)), c, f, arg⟩ : AskR).cls (⟨((t.fields.getD f.toNat default)), c, f, arg⟩ : AskR).no) op (⟨((t.fields.getD f.toNat default)), c, f, arg⟩ : AskR).arg)
  ·skip
   try simp only [bools] at hc296
   refine WP_cond_f rfl ?_
   refine WP_skip ?_
   refine WP_seq ?_
   refine WP_region0 (by kernel_rfl) (fun _ => ?_)
   refine st (ov_assign (v := .int .i64 (0)) rfl ?_)
   refine st_nil ?_
   refine WP_ret ?_
   refine fin1 Tryd.results16 (show _ = (.int .i64 (0) : Value) from rfl) ?_
   have hS297 : Sep G W Rs w291 := hS294.sel 3 [] (Nat.le_add_left _ _) rfl rfl
   refine ⟨?_, hS297⟩
   have hm : mayB (fldAt t f) c (celAt c f) op arg = true := hc296
   unfold mayL
   rw [hm]
   rfl
  ·skip
   try simp only [bools] at hc296
   refine WP_cond_t rfl ?_
   refine WP_seq ?_
   refine WP_region0 (by kernel_rfl) (fun _ => ?_)
   refine st (ov_assign (v := .int .i64 (10)) rfl ?_)
   refine st_nil ?_
   refine WP_ret ?_
   refine fin1 Tryd.results16 (show _ = (.int .i64 (10) : Value) from rfl) ?_
   have hS298 : Sep G W Rs w291 := hS294.sel 3 [] (Nat.le_add_left _ _) rfl rfl
   refine ⟨?_, hS298⟩
   have hm : mayB (fldAt t f) c (celAt c f) op arg = false := hc296
   unfold mayL
   rw [hm]
   rfl
 ·skip
  refine st (ov_lookupNone (α := Rul) (zc := [.nilFunc, .nilFunc]) Tryd.underlying98 Tryd.underlying3 Tryd.zeroValue96 rfl rfl (hS7.map_ (i := 0) rfl) (ruleL_none hop) ?_)
  refine st (ov_move (v := .tuple #[.agg #[.nilFunc, .nilFunc], .bool false]) rfl ?_)
  refine st (ov_extract (vs := [.agg #[.nilFunc, .nilFunc], .bool false]) (i := 0) (v := .agg #[.nilFunc, .nilFunc]) rfl rfl ?_)
  refine st (ov_extract (vs := [.agg #[.nilFunc, .nilFunc], .bool false]) (i := 1) (v := .bool false) rfl rfl ?_)
  refine st (ov_alloc Tryd.zeroValue96 ?_)
  intro w301 b300 hn299
  have hS302 : Sep G W ((Blk b300 #[.nilFunc, .nilFunc] 96) :: (MapH (α := Rul) m5 ruleL) :: (Blk b2 (t.cells dt0).toArray 33) :: Rs) w301 := hS7.new hn299
  refine stn (ov_store (v := .agg #[.nilFunc, .nilFunc]) (c' := #[.nilFunc, .nilFunc]) Tryd.sizeOf96 rfl rfl (hS302.blk (i := 0) rfl) (all1 ⟨rfl, rfl, trivial⟩) (Nat.le_of_ble_eq_true rfl) rfl ?_)
  intro w303 hp304
  have hS305 : Sep G W ((Blk b300 #[.nilFunc, .nilFunc] 96) :: (MapH (α := Rul) m5 ruleL) :: (Blk b2 (t.cells dt0).toArray 33) :: Rs) w303 := hS302.put (i := 0) rfl hp304
  refine st (ov_assign (v := .bool false) rfl ?_)
  refine st_nil ?_
  refine WP_seq ?_
  refine WP_draw4 (WF [fun vals wq => Sep G W ((Blk b300 #[.nilFunc, .nilFunc] 96) :: (MapH (α := Rul) m5 ruleL) :: (Blk b2 (t.cells dt0).toArray 33) :: Rs) wq, fun vals wq => Sep G W ((Blk b300 #[.nilFunc, .nilFunc] 96) :: (MapH (α := Rul) m5 ruleL) :: (Blk b2 (t.cells dt0).toArray 33) :: Rs) wq]) (AF [Vl 0 (.bool false), Vl 1 (.bool false), Vl 2 (undef), Vl 3 (undef), Vl 4 (undef), Vl 5 (undef), Vl 6 (undef), Vl 7 (undef), Vl 8 (undef), Vl 9 (undef), Vl 10 (undef), Vl 11 (undef), Vl 12 (undef), fun _ => True, Vl 14 (undef), Vl 15 (.bool false)]) [[], [0], [0, 1], [0, 1, 2], [0, 1], [0, 1, 4], [0, 1], [0, 1, 4, 5, 6], [0, 1, 4, 5, 6, 7], [0, 1], [0, 1], [0, 1], [0, 1, 4, 5, 6, 7, 8, 9, 10, 11], [0, 1, 2, 3, 4, 5, 6, 7, 8, 9, 10, 11, 12], [0, 1, 2, 3, 4, 5, 6, 7, 8, 9, 10, 11, 12, 13], [0, 1, 2, 3, 4, 5, 6, 7, 8, 9, 10, 11, 12, 13, 14]] [13] [(0, 0), (0, 0), (0, 0), (0, 0), (0, 0), (0, 0), (0, 0), (0, 0), (0, 0), (0, 0), (0, 0), (0, 0), (0, 0), (0, 0), (1, 1), (1, 1)] (by kernel_rfl) (by kernel_rfl) (by kernel_rfl) rfl (by kernel_rfl) (by kernel_rfl) (fun _ h1 h2 h3 h4 _ => hS305.same h1 h2 h3 h4) ?_ (AF_loc ⟨dA, dA, dA, dA, dA, dA, dA, dA, dA, dA, dA, dA, dA, dT, dA, dA, trivial⟩) ⟨?_, ?_, ?_, ?_, ?_, ?_, ?_, ?_, ?_, ?_, ?_, ?_, ?_, ?_, ?_, ?_, trivial⟩ ?_
  ·intro k vals vals' w hv h
   have e : ∀ j ∈ ([13] : List Nat), vals' j = vals j := hv
   match k, h with
   | 0, h => exact h
   | 1, h => exact h
   | _ + 2, _ => trivial
  ·intro k435 vals w436 h439 h440 hW438 hA437
   refine obl rfl ?_
   exact ov_move (v := .bool false) rfl (fun vals' hv _ => ⟨rfl, hv⟩)
  ·intro k441 vals w442 h445 h446 hW444 hA443
   have e447 : vals 0 = (.bool false : Value) := hA443 0 (by decide)
   refine obl rfl ?_
   exact ov_move (v := .bool false) e447 (fun vals' hv _ => ⟨rfl, hv⟩)
  ·intro k448 vals w449 h452 h453 hW451 hA450
   have e454 : vals 1 = (.bool false : Value) := hA450 1 (by decide)
   exact oblc rfl rfl e454 (fun hb => absurd hb (by decide)) (fun _ vals' hv _ => ⟨trivial, hv⟩)
  ·intro k455 vals w456 h459 h460 hW458 hA457
   obtain rfl : k455 = 0 := Nat.le_antisymm h460 h459
   have hS461 : Sep G W ((Blk b300 #[.nilFunc, .nilFunc] 96) :: (MapH (α := Rul) m5 ruleL) :: (Blk b2 (t.cells dt0).toArray 33) :: Rs) w456 := hW458
   have e462 : vals 1 = (.bool false : Value) := hA457 1 (by decide)
   have e463 : vals 2 = (undef : Value) := hA457 2 (by decide)
   exact oblc rfl rfl e462 (fun hb => absurd hb (by decide)) (fun _ vals' hv _ => ⟨trivial, hv⟩)
  ·intro k464 vals w465 h468 h469 hW467 hA466
   have e470 : vals 1 = (.bool false : Value) := hA466 1 (by decide)
   exact oblc rfl rfl e470 (fun hb => absurd hb (by decide)) (fun _ vals' hv _ => ⟨trivial, hv⟩)
  ·intro k471 vals w472 h475 h476 hW474 hA473
   obtain rfl : k471 = 0 := Nat.le_antisymm h476 h475
   have hS477 : Sep G W ((Blk b300 #[.nilFunc, .nilFunc] 96) :: (MapH (α := Rul) m5 ruleL) :: (Blk b2 (t.cells dt0).toArray 33) :: Rs) w472 := hW474
   have e478 : vals 1 = (.bool false : Value) := hA473 1 (by decide)
   have e479 : vals 4 = (undef : Value) := hA473 4 (by decide)
   exact oblc rfl rfl e478 (fun hb => absurd hb (by decide)) (fun _ vals' hv _ => ⟨trivial, hv⟩)
  ·intro k480 vals w481 h484 h485 hW483 hA482
   have e486 : vals 1 = (.bool false : Value) := hA482 1 (by decide)
   exact oblc rfl rfl e486 (fun hb => absurd hb (by decide)) (fun _ vals' hv _ => ⟨trivial, hv⟩)
  ·intro k487 vals w488 h491 h492 hW490 hA489
   obtain rfl : k487 = 0 := Nat.le_antisymm h492 h491
   have hS493 : Sep G W ((Blk b300 #[.nilFunc, .nilFunc] 96) :: (MapH (α := Rul) m5 ruleL) :: (Blk b2 (t.cells dt0).toArray 33) :: Rs) w488 := hW490
   have e494 : vals 1 = (.bool false : Value) := hA489 1 (by decide)
   have e495 : vals 5 = (undef : Value) := hA489 5 (by decide)
   have e496 : vals 6 = (undef : Value) := hA489 6 (by decide)
   exact oblc rfl rfl e494 (fun hb => absurd hb (by decide)) (fun _ vals' hv _ => ⟨trivial, hv⟩)
  ·intro k497 vals w498 h501 h502 hW500 hA499
   obtain rfl : k497 = 0 := Nat.le_antisymm h502 h501
   have hS503 : Sep G W ((Blk b300 #[.nilFunc, .nilFunc] 96) :: (MapH (α := Rul) m5 ruleL) :: (Blk b2 (t.cells dt0).toArray 33) :: Rs) w498 := hW500
   have e504 : vals 1 = (.bool false : Value) := hA499 1 (by decide)
   have e505 : vals 7 = (undef : Value) := hA499 7 (by decide)
   exact oblc rfl rfl e504 (fun hb => absurd hb (by decide)) (fun _ vals' hv _ => ⟨trivial, hv⟩)
  ·intro k506 vals w507 h510 h511 hW509 hA508
   have e512 : vals 1 = (.bool false : Value) := hA508 1 (by decide)
   exact oblc rfl rfl e512 (fun hb => absurd hb (by decide)) (fun _ vals' hv _ => ⟨trivial, hv⟩)
  ·intro k513 vals w514 h517 h518 hW516 hA515
   have e519 : vals 1 = (.bool false : Value) := hA515 1 (by decide)
   exact oblc rfl rfl e519 (fun hb => absurd hb (by decide)) (fun _ vals' hv _ => ⟨trivial, hv⟩)
  ·intro k520 vals w521 h524 h525 hW523 hA522
   have e526 : vals 1 = (.bool false : Value) := hA522 1 (by decide)
   exact oblc rfl rfl e526 (fun hb => absurd hb (by decide)) (fun _ vals' hv _ => ⟨trivial, hv⟩)
  ·intro k527 vals w528 h531 h532 hW530 hA529
   have e533 : vals 1 = (.bool false : Value) := hA529 1 (by decide)
   have e534 : vals 8 = (undef : Value) := hA529 8 (by decide)
   have e535 : vals 9 = (undef : Value) := hA529 9 (by decide)
   have e536 : vals 10 = (undef : Value) := hA529 10 (by decide)
   have e537 : vals 11 = (undef : Value) := hA529 11 (by decide)
   exact oblc rfl rfl e533 (fun hb => absurd hb (by decide)) (fun _ vals' hv _ => ⟨trivial, hv⟩)
  ·intro k409 vals w410 h413 h414 hW412 hA411
   obtain rfl : k409 = 0 := Nat.le_antisymm h414 h413
   have hS415 : Sep G W ((Blk b300 #[.nilFunc, .nilFunc] 96) :: (MapH (α := Rul) m5 ruleL) :: (Blk b2 (t.cells dt0).toArray 33) :: Rs) w410 := hW412
   have e416 : vals 1 = (.bool false : Value) := hA411 1 (by decide)
   have e417 : vals 3 = (undef : Value) := hA411 3 (by decide)
   have e418 : vals 12 = (undef : Value) := hA411 12 (by decide)
   refine oblc rfl rfl e416 (fun hb => absurd hb (by decide)) (fun _ vals' hv hv' => ?_)
   refine ⟨?_, trivial⟩
   show Sep G W ((Blk b300 #[.nilFunc, .nilFunc] 96) :: (MapH (α := Rul) m5 ruleL) :: (Blk b2 (t.cells dt0).toArray 33) :: Rs) w410
   exact hS415
  ·intro k538 vals w539 h542 h543 hW541 hA540
   obtain rfl : k538 = 1 := Nat.le_antisymm h543 h542
   have hS544 : Sep G W ((Blk b300 #[.nilFunc, .nilFunc] 96) :: (MapH (α := Rul) m5 ruleL) :: (Blk b2 (t.cells dt0).toArray 33) :: Rs) w539 := hW541
   have e545 : vals 1 = (.bool false : Value) := hA540 1 (by decide)
   exact oblc rfl rfl e545 (fun hb => absurd hb (by decide)) (fun _ vals' hv _ => ⟨trivial, hv⟩)
  ·intro k546 vals w547 h550 h551 hW549 hA548
   have e552 : vals 1 = (.bool false : Value) := hA548 1 (by decide)
   have e553 : vals 14 = (undef : Value) := hA548 14 (by decide)
   refine obl rfl ?_
   exact ov_pick_f (v := .bool false) e552 rfl (fun vals' hv _ => ⟨rfl, hv⟩)
  intro vals w554 hW555 hA556
  have hS557 : Sep G W ((Blk b300 #[.nilFunc, .nilFunc] 96) :: (MapH (α := Rul) m5 ruleL) :: (Blk b2 (t.cells dt0).toArray 33) :: Rs) w554 := hW555
  have e558 : vals 15 = (.bool false : Value) := hA556 15 (by decide)
  refine st_env (kv := [(0, .agg (t.cells dt0).toArray), (1, vc), (2, .int .i64 (f)), (3, .int .i64 (op)), (4, .int .i64 (arg)), (5, .pointer (some ⟨b2, 0, none⟩)), (10, .int .i64 (0)), (14, .map (some m5)), (15, .int .i64 (op)), (16, .tuple #[.agg #[.nilFunc, .nilFunc], .bool false]), (13, .tuple #[.agg #[.nilFunc, .nilFunc], .bool false]), (17, .agg #[.nilFunc, .nilFunc]), (18, .bool false), (11, .pointer (some ⟨b300, 0, none⟩)), (12, .bool false), (34, .bool false)]) ⟨rfl, rfl, rfl, rfl, rfl, rfl, rfl, rfl, rfl, rfl, rfl, rfl, rfl, rfl, rfl, (by exact e558), trivial⟩ (fun ρw554 => ?_)
  refine st_nil ?_
  refine WP_cond_f rfl ?_
  refine WP_skip ?_
  refine WP_seq ?_
  refine WP_region0 (by kernel_rfl) (fun _ => ?_)
  refine st (ov_assign (v := .int .i64 (0)) rfl ?_)
  refine st_nil ?_
  refine WP_ret ?_
  refine fin1 Tryd.results16 (show _ = (.int .i64 (0) : Value) from rfl) ?_
  have hS559 : Sep G W Rs w554 := hS557.sel 3 [] (Nat.le_add_left _ _) rfl rfl
  refine ⟨?_, hS559⟩
  have hm : mayB (fldAt t f) c (celAt c f) op arg = true := by unfold mayB; rw [if_neg hop.1, if_neg hop.2.2.1, if_neg hop.2.2.2.2]
  unfold mayL
  rw [hm]
  rfl

end Go.Proofs.YtlblilbmpdejgaaDoor
