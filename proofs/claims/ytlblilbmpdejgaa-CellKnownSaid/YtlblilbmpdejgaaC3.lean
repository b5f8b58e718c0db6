/- Steps of the proofs of this seat: part C3. -/
import Derived.Test.YtlblilbmpdejgaaC2
set_option linter.unusedSimpArgs false
set_option linter.unusedVariables false
namespace Go.Proofs.Ytlblilbmpdejgaa
open Go.Proofs Go.RowKit

/-- What an operation does: two functions. -/
structure Rul where
  may : Nat
  does : Nat
instance : Rep Rul where
  k := 2
  rd _ _ cs x := cs = [.func (.func x.may) #[] #[], .func (.func x.does) #[] #[]]
  bytes := 16
  bpos := by decide
  kpos := by decide
  len h := by rw [h]; rfl
  one h := by rw [h]; exact all1 ⟨rfl, rfl, trivial⟩
  mono h _ := h
instance : Flat Rul := ⟨fun h => h⟩
def ruleL : List (Int × Rul) := [(1, ⟨32, 33⟩), (2, ⟨35, 36⟩), (3, ⟨37, 38⟩), (4, ⟨35, 39⟩), (5, ⟨40, 41⟩)]
theorem ruleL_none {op : Int} (h : op ≠ 1 ∧ op ≠ 2 ∧ op ≠ 3 ∧ op ≠ 4 ∧ op ≠ 5) : lookM ruleL op = none := by
  unfold lookM
  rw [Option.map_eq_none_iff, List.find?_eq_none]
  intro p hp
  simp only [ruleL, List.mem_cons, List.not_mem_nil, or_false] at hp
  rcases hp with rfl | rfl | rfl | rfl | rfl <;> simp <;> omega
theorem mayL_range (t : Typ) (c : List Cel) (f op arg : Int) : InR (mayL t c f op arg) := by unfold mayL; split <;> decide
theorem D_rules {G : Nat → Prop} {W w : World} {Rs : List HP}  (hS0 : Sep G W Rs w) : Ret Try.prog 21 [] w (fun r w' => ∃ (m : Nat), r = (.map (some m) : Value) ∧ Sep G W ((MapH (α := Rul) m ruleL) :: Rs) w') := by
  refine Calls_of_WP (args := []) Try.func21 rfl rfl ?_
  refine WP_seq ?_
  refine WP_region0 (by kernel_rfl) (fun _ => ?_)
  refine st (ov_assign (v := .map none) rfl ?_)
  refine st_nil ?_
  refine WP_seq ?_
  refine WP_region0 (by kernel_rfl) (fun _ => ?_)
  refine st (ov_makeMap ?_)
  intro w2 hn1
  obtain ⟨m3, m3e⟩ : ∃ z, z = w.heap.size := ⟨_, rfl⟩; rw [← m3e]
  have hS4 : Sep G W ((MapH (α := Rul) m3 []) :: Rs) w2 := (by rw [m3e]; exact hS0.mapNew hn1)
  refine st (ov_build (parts' := [(0, .func (.func 32) #[] #[]), (1, .func (.func 33) #[] #[])]) (v := .agg #[.func (.func 32) #[] #[], .func (.func 33) #[] #[]]) rfl (by simp [Instr.build, Instr.fill, Ev.cells, go_sem, Mv.cells, Fld.cells, Typ.cells, Prj.cells, Dcl.cells, Cel.cells, AskR.cells]) ?_)
  refine stn (ov_insert (α := Rul) (F := fun _ => False) (x1 := (⟨32, 33⟩ : Rul)) (cs := [.func (.func 32) #[] #[], .func (.func 33) #[] #[]]) Try.underlying58 Try.underlying3 rfl rfl rfl (by decide) (hS4.map_ (i := 0) rfl) rfl (fun h => h) ?_)
  intro w5 hm6 hch7
  have hS8 : Sep G W ((MapH (α := Rul) m3 (updM ([] : List (Int × Rul)) 1 (⟨32, 33⟩ : Rul))) :: Rs) w5 := hS4.mapPut (i := 0) rfl hm6 hch7
  refine st (ov_build (parts' := [(0, .func (.func 35) #[] #[]), (1, .func (.func 36) #[] #[])]) (v := .agg #[.func (.func 35) #[] #[], .func (.func 36) #[] #[]]) rfl (by simp [Instr.build, Instr.fill, Ev.cells, go_sem, Mv.cells, Fld.cells, Typ.cells, Prj.cells, Dcl.cells, Cel.cells, AskR.cells]) ?_)
  refine stn (ov_insert (α := Rul) (F := fun _ => False) (x1 := (⟨35, 36⟩ : Rul)) (cs := [.func (.func 35) #[] #[], .func (.func 36) #[] #[]]) Try.underlying58 Try.underlying3 rfl rfl rfl (by decide) (hS8.map_ (i := 0) rfl) rfl (fun h => h) ?_)
  intro w9 hm10 hch11
  have hS12 : Sep G W ((MapH (α := Rul) m3 (updM (updM ([] : List (Int × Rul)) 1 (⟨32, 33⟩ : Rul)) 2 (⟨35, 36⟩ : Rul))) :: Rs) w9 := hS8.mapPut (i := 0) rfl hm10 hch11
  refine st (ov_build (parts' := [(0, .func (.func 37) #[] #[]), (1, .func (.func 38) #[] #[])]) (v := .agg #[.func (.func 37) #[] #[], .func (.func 38) #[] #[]]) rfl (by simp [Instr.build, Instr.fill, Ev.cells, go_sem, Mv.cells, Fld.cells, Typ.cells, Prj.cells, Dcl.cells, Cel.cells, AskR.cells]) ?_)
  refine stn (ov_insert (α := Rul) (F := fun _ => False) (x1 := (⟨37, 38⟩ : Rul)) (cs := [.func (.func 37) #[] #[], .func (.func 38) #[] #[]]) Try.underlying58 Try.underlying3 rfl rfl rfl (by decide) (hS12.map_ (i := 0) rfl) rfl (fun h => h) ?_)
  intro w13 hm14 hch15
  have hS16 : Sep G W ((MapH (α := Rul) m3 (updM (updM (updM ([] : List (Int × Rul)) 1 (⟨32, 33⟩ : Rul)) 2 (⟨35, 36⟩ : Rul)) 3 (⟨37, 38⟩ : Rul))) :: Rs) w13 := hS12.mapPut (i := 0) rfl hm14 hch15
  refine st (ov_build (parts' := [(0, .func (.func 35) #[] #[]), (1, .func (.func 39) #[] #[])]) (v := .agg #[.func (.func 35) #[] #[], .func (.func 39) #[] #[]]) rfl (by simp [Instr.build, Instr.fill, Ev.cells, go_sem, Mv.cells, Fld.cells, Typ.cells, Prj.cells, Dcl.cells, Cel.cells, AskR.cells]) ?_)
  refine stn (ov_insert (α := Rul) (F := fun _ => False) (x1 := (⟨35, 39⟩ : Rul)) (cs := [.func (.func 35) #[] #[], .func (.func 39) #[] #[]]) Try.underlying58 Try.underlying3 rfl rfl rfl (by decide) (hS16.map_ (i := 0) rfl) rfl (fun h => h) ?_)
  intro w17 hm18 hch19
  have hS20 : Sep G W ((MapH (α := Rul) m3 (updM (updM (updM (updM ([] : List (Int × Rul)) 1 (⟨32, 33⟩ : Rul)) 2 (⟨35, 36⟩ : Rul)) 3 (⟨37, 38⟩ : Rul)) 4 (⟨35, 39⟩ : Rul))) :: Rs) w17 := hS16.mapPut (i := 0) rfl hm18 hch19
  refine st (ov_build (parts' := [(0, .func (.func 40) #[] #[]), (1, .func (.func 41) #[] #[])]) (v := .agg #[.func (.func 40) #[] #[], .func (.func 41) #[] #[]]) rfl (by simp [Instr.build, Instr.fill, Ev.cells, go_sem, Mv.cells, Fld.cells, Typ.cells, Prj.cells, Dcl.cells, Cel.cells, AskR.cells]) ?_)
  refine stn (ov_insert (α := Rul) (F := fun _ => False) (x1 := (⟨40, 41⟩ : Rul)) (cs := [.func (.func 40) #[] #[], .func (.func 41) #[] #[]]) Try.underlying58 Try.underlying3 rfl rfl rfl (by decide) (hS20.map_ (i := 0) rfl) rfl (fun h => h) ?_)
  intro w21 hm22 hch23
  have hS24 : Sep G W ((MapH (α := Rul) m3 (updM (updM (updM (updM (updM ([] : List (Int × Rul)) 1 (⟨32, 33⟩ : Rul)) 2 (⟨35, 36⟩ : Rul)) 3 (⟨37, 38⟩ : Rul)) 4 (⟨35, 39⟩ : Rul)) 5 (⟨40, 41⟩ : Rul))) :: Rs) w21 := hS20.mapPut (i := 0) rfl hm22 hch23
  refine st (ov_move (v := .map (some m3)) rfl ?_)
  refine st (ov_assign (v := .map (some m3)) rfl ?_)
  refine st_nil ?_
  refine WP_ret ?_
  refine fin1 Try.results21 (show _ = (.map (some m3) : Value) from rfl) ?_
  have hz : updM (updM (updM (updM (updM ([] : List (Int × Rul)) 1 (⟨32, 33⟩ : Rul)) 2 (⟨35, 36⟩ : Rul)) 3 (⟨37, 38⟩ : Rul)) 4 (⟨35, 39⟩ : Rul)) 5 (⟨40, 41⟩ : Rul) = ruleL := rfl
  rw [hz] at hS24
  refine ⟨m3, rfl, hS24⟩

theorem fd56_0 {d : Option Tmp} {ty : TypeId} {pos : String} {af : Array Edge} {g : Option (Nat × Bool)} {σ : Env} {w : World} {K : Value → World → Prop} {x : Operand} {b o : Nat} (hx : ev σ x = .pointer (some ⟨b, o, none⟩)) (h : K (.pointer (some ⟨b, o + 0, none⟩)) w) : opV Try.prog ⟨d, .fieldAddr 56 x 0, ty, pos, af, g⟩ σ w K := ov_fieldAddr Try.underlying56 rfl rfl (fun w => ⟨0, Try.sizeOf53 w⟩) hx h
theorem fd31_0 {d : Option Tmp} {ty : TypeId} {pos : String} {af : Array Edge} {g : Option (Nat × Bool)} {σ : Env} {w : World} {K : Value → World → Prop} {x : Operand} {b o : Nat} (hx : ev σ x = .pointer (some ⟨b, o, none⟩)) (h : K (.pointer (some ⟨b, o + 0, none⟩)) w) : opV Try.prog ⟨d, .fieldAddr 31 x 0, ty, pos, af, g⟩ σ w K := ov_fieldAddr Try.underlying31 rfl rfl (fun w => ⟨0, Try.sizeOf29 w⟩) hx h
set_option maxHeartbeats 4000000 in
theorem D_May {G : Nat → Prop} {W w : World} {Rs : List HP} {t : Typ} {dt0 : Value} (hdt0 : RdS W G dt0 t.fields) (ot : t.Ok) {vc : Value} {c : List Cel} (hc : RdS W G vc c) {f : Int} (hf : InR f) {op : Int} (hop : InR op) {arg : Int} (harg : InR arg) (hS0 : Sep G W Rs w) (hak : AskOk t c f op arg) : Ret Try.prog 10 [.agg (t.cells dt0).toArray, vc, .int .i64 (f), .int .i64 (op), .int .i64 (arg)] w (fun r w' => r = (.int .i64 (mayL t c f op arg) : Value) ∧ Sep G W Rs w') := by
  have hdt0s : t.fields.length * 48 ≤ 140737488355328 := hdt0.small
  have hcs : c.length * 32 ≤ 140737488355328 := hc.small
  have hf0 := hak.1; have hf1 := hak.2.1; have hf2 := hak.2.2.1
  refine Calls_of_WP (args := [.agg (t.cells dt0).toArray, vc, .int .i64 (f), .int .i64 (op), .int .i64 (arg)]) Try.func10 rfl rfl ?_
  refine WP_seq ?_
  refine WP_region0 (by kernel_rfl) (fun _ => ?_)
  refine st (ov_box (v := .agg (t.cells dt0).toArray) rfl ?_)
  intro w3 b2 hn1
  have hS4 : Sep G W ((Blk b2 (t.cells dt0).toArray 31) :: Rs) w3 := hS0.new hn1
  refine st (ov_assign (v := .int .i64 (0)) rfl ?_)
  refine st_nil ?_
  refine WP_seq ?_
  refine WP_seq ?_
  refine WP_region0 (by kernel_rfl) (fun _ => ?_)
  refine st (ov_call (f := 21) (vals := []) (cap := []) (show _ = (.func (.func 21) #[] #[] : Value) from rfl) rfl Try.call21 (D_rules  hS4) ?_)
  rintro _ w6 ⟨m5, rfl, hS7⟩
  refine st (ov_move (v := .int .i64 (op)) rfl ?_)
  have hops : op = 1 ∨ op = 2 ∨ op = 3 ∨ op = 4 ∨ op = 5 ∨ (op ≠ 1 ∧ op ≠ 2 ∧ op ≠ 3 ∧ op ≠ 4 ∧ op ≠ 5) := by omega
  rcases hops with hop | hop | hop | hop | hop | hop
  · skip
    refine st (ov_lookupSome (α := Rul) (a := ⟨32, 33⟩) Try.underlying58 Try.underlying3 rfl rfl (hS7.map_ (i := 0) rfl) (by rw [hop]; rfl) ?_)
    rintro _ rfl
    refine st (ov_move (v := .tuple #[.agg #[.func (.func 32) #[] #[], .func (.func 33) #[] #[]], .bool true]) rfl ?_)
    refine st (ov_extract (vs := [.agg #[.func (.func 32) #[] #[], .func (.func 33) #[] #[]], .bool true]) (i := 0) (v := .agg #[.func (.func 32) #[] #[], .func (.func 33) #[] #[]]) rfl rfl ?_)
    refine st (ov_extract (vs := [.agg #[.func (.func 32) #[] #[], .func (.func 33) #[] #[]], .bool true]) (i := 1) (v := .bool true) rfl rfl ?_)
    refine st (ov_alloc Try.zeroValue56 ?_)
    intro w10 b9 hn8
    have hS11 : Sep G W ((Blk b9 #[.nilFunc, .nilFunc] 56) :: (MapH (α := Rul) m5 ruleL) :: (Blk b2 (t.cells dt0).toArray 31) :: Rs) w10 := hS7.new hn8
    refine stn (ov_store (v := .agg #[.func (.func 32) #[] #[], .func (.func 33) #[] #[]]) (c' := #[.func (.func 32) #[] #[], .func (.func 33) #[] #[]]) Try.sizeOf56 rfl rfl (hS11.blk (i := 0) rfl) (all1 ⟨rfl, rfl, trivial⟩) (Nat.le_of_ble_eq_true rfl) rfl ?_)
    intro w12 hp13
    have hS14 : Sep G W ((Blk b9 #[.func (.func 32) #[] #[], .func (.func 33) #[] #[]] 56) :: (MapH (α := Rul) m5 ruleL) :: (Blk b2 (t.cells dt0).toArray 31) :: Rs) w12 := hS11.put (i := 0) rfl hp13
    refine st (ov_assign (v := .bool true) rfl ?_)
    refine st_nil ?_
    refine WP_seq ?_
    refine WP_draw4 (WF [fun vals wq => Sep G W ((Blk b9 #[.func (.func 32) #[] #[], .func (.func 33) #[] #[]] 56) :: (MapH (α := Rul) m5 ruleL) :: (Blk b2 (t.cells dt0).toArray 31) :: Rs) wq, fun vals wq => (vals 13 = (.bool (mayB (⟨((t.fields.getD f.toNat default)), c, f, arg⟩ : AskR).fld (⟨((t.fields.getD f.toNat default)), c, f, arg⟩ : AskR).cls (celAt (⟨((t.fields.getD f.toNat default)), c, f, arg⟩ : AskR).cls (⟨((t.fields.getD f.toNat default)), c, f, arg⟩ : AskR).no) 1 (⟨((t.fields.getD f.toNat default)), c, f, arg⟩ : AskR).arg) : Value)) ∧ Sep G W ((Blk b9 #[.func (.func 32) #[] #[], .func (.func 33) #[] #[]] 56) :: (MapH (α := Rul) m5 ruleL) :: (Blk b2 (t.cells dt0).toArray 31) :: Rs) wq]) (AF [fun vals => vals 0 = (.bool true : Value), fun vals => vals 1 = (.bool true : Value), fun vals => vals 2 = (.pointer (some ⟨b9, 0, none⟩) : Value), fun vals => vals 3 = (.func (.func 32) #[] #[] : Value), fun vals => vals 4 = (.pointer (some ⟨b2, 0, none⟩) : Value), fun vals => vals 5 = (dt0 : Value), fun vals => vals 6 = (.int .i64 (f) : Value), fun vals => vals 7 = (.pointer (some ⟨sb dt0, so dt0 + f.toNat * 4, none⟩) : Value), fun vals => vals 8 = (.agg ((t.fields.getD f.toNat default).cells (cellV W (sb dt0) (so dt0 + f.toNat * 4 + 3))).toArray : Value), fun vals => vals 9 = (vc : Value), fun vals => vals 10 = (.int .i64 (f) : Value), fun vals => vals 11 = (.int .i64 (arg) : Value), fun vals => vals 12 = (.agg ((⟨((t.fields.getD f.toNat default)), c, f, arg⟩ : AskR).cells (cellV W (sb dt0) (so dt0 + f.toNat * 4 + 3)) vc).toArray : Value), fun _ => True, fun vals => vals 14 = (.bool (!(mayB (⟨((t.fields.getD f.toNat default)), c, f, arg⟩ : AskR).fld (⟨((t.fields.getD f.toNat default)), c, f, arg⟩ : AskR).cls (celAt (⟨((t.fields.getD f.toNat default)), c, f, arg⟩ : AskR).cls (⟨((t.fields.getD f.toNat default)), c, f, arg⟩ : AskR).no) 1 (⟨((t.fields.getD f.toNat default)), c, f, arg⟩ : AskR).arg)) : Value), fun vals => vals 15 = (.bool (!(mayB (⟨((t.fields.getD f.toNat default)), c, f, arg⟩ : AskR).fld (⟨((t.fields.getD f.toNat default)), c, f, arg⟩ : AskR).cls (celAt (⟨((t.fields.getD f.toNat default)), c, f, arg⟩ : AskR).cls (⟨((t.fields.getD f.toNat default)), c, f, arg⟩ : AskR).no) 1 (⟨((t.fields.getD f.toNat default)), c, f, arg⟩ : AskR).arg)) : Value)]) [[], [0], [0, 1], [0, 1, 2], [0, 1], [0, 1, 4], [0, 1], [0, 1, 4, 5, 6], [0, 1, 4, 5, 6, 7], [0, 1], [0, 1], [0, 1], [0, 1, 4, 5, 6, 7, 8, 9, 10, 11], [0, 1, 2, 3, 4, 5, 6, 7, 8, 9, 10, 11, 12], [0, 1, 2, 3, 4, 5, 6, 7, 8, 9, 10, 11, 12, 13], [0, 1, 2, 3, 4, 5, 6, 7, 8, 9, 10, 11, 12, 13, 14]] [13] [(0, 0), (0, 0), (0, 0), (0, 0), (0, 0), (0, 0), (0, 0), (0, 0), (0, 0), (0, 0), (0, 0), (0, 0), (0, 0), (0, 0), (1, 1), (1, 1)] (by kernel_rfl) (by kernel_rfl) (by kernel_rfl) rfl (by kernel_rfl) (by kernel_rfl) (fun _ h1 h2 h3 h4 _ => hS14.same h1 h2 h3 h4) ?_ ?_ ⟨?_, ?_, ?_, ?_, ?_, ?_, ?_, ?_, ?_, ?_, ?_, ?_, ?_, ?_, ?_, ?_, trivial⟩ ?_
    · intro k vals vals' w hv h
      have e : ∀ j ∈ ([13] : List Nat), vals' j = vals j := hv
      match k, h with
      | 0, h => exact h
      | 1, h => exact (by simpa only [WF, List.getElem?_cons_zero, List.getElem?_cons_succ, e 13 (by decide)] using h)
      | _ + 2, _ => trivial
    · intro i vals vals' hv h
      match i, hv, h with
      | 0, hv, h => exact (hv 0 (.inl rfl)).trans h
      | 1, hv, h => exact (hv 1 (.inl rfl)).trans h
      | 2, hv, h => exact (hv 2 (.inl rfl)).trans h
      | 3, hv, h => exact (hv 3 (.inl rfl)).trans h
      | 4, hv, h => exact (hv 4 (.inl rfl)).trans h
      | 5, hv, h => exact (hv 5 (.inl rfl)).trans h
      | 6, hv, h => exact (hv 6 (.inl rfl)).trans h
      | 7, hv, h => exact (hv 7 (.inl rfl)).trans h
      | 8, hv, h => exact (hv 8 (.inl rfl)).trans h
      | 9, hv, h => exact (hv 9 (.inl rfl)).trans h
      | 10, hv, h => exact (hv 10 (.inl rfl)).trans h
      | 11, hv, h => exact (hv 11 (.inl rfl)).trans h
      | 12, hv, h => exact (hv 12 (.inl rfl)).trans h
      | 13, _, _ => trivial
      | 14, hv, h => exact (hv 14 (.inl rfl)).trans h
      | 15, hv, h => exact (hv 15 (.inl rfl)).trans h
      | _ + 16, _, _ => trivial
    · intro k162 vals w163 h166 h167 hW165 hA164
      refine obl rfl ?_
      exact ov_move (v := .bool true) rfl (fun vals' hv _ => ⟨rfl, hv⟩)
    · intro k168 vals w169 h172 h173 hW171 hA170
      have e174 : vals 0 = (.bool true : Value) := hA170 0 (by decide)
      refine obl rfl ?_
      exact ov_move (v := .bool true) (show _ = (.bool true : Value) from e174) (fun vals' hv _ => ⟨rfl, hv⟩)
    · intro k175 vals w176 h179 h180 hW178 hA177
      have e181 : vals 1 = (.bool true : Value) := hA177 1 (by decide)
      refine oblc rfl rfl (show _ = (.bool true : Value) from e181) (fun _ => ?_) (fun hb => absurd rfl hb)
      exact fd56_0 rfl (fun vals' hv _ => ⟨rfl, hv⟩)
    · intro k182 vals w183 h186 h187 hW185 hA184
      obtain rfl : k182 = 0 := Nat.le_antisymm h187 h186
      have hS188 : Sep G W ((Blk b9 #[.func (.func 32) #[] #[], .func (.func 33) #[] #[]] 56) :: (MapH (α := Rul) m5 ruleL) :: (Blk b2 (t.cells dt0).toArray 31) :: Rs) w183 := hW185
      have e189 : vals 1 = (.bool true : Value) := hA184 1 (by decide)
      have e190 : vals 2 = (.pointer (some ⟨b9, 0, none⟩) : Value) := hA184 2 (by decide)
      refine oblc rfl rfl (show _ = (.bool true : Value) from e189) (fun _ => ?_) (fun hb => absurd rfl hb)
      exact ov_load1 (v := .func (.func 32) #[] #[]) Try.isAgg53 (show _ = (.pointer (some ⟨b9, 0, none⟩) : Value) from e190) (blk_cellL (hS188.blk (i := 0) rfl) rfl) (fun vals' hv _ => ⟨rfl, hv⟩)
    · intro k191 vals w192 h195 h196 hW194 hA193
      have e197 : vals 1 = (.bool true : Value) := hA193 1 (by decide)
      refine oblc rfl rfl (show _ = (.bool true : Value) from e197) (fun _ => ?_) (fun hb => absurd rfl hb)
      exact fd31_0 rfl (fun vals' hv _ => ⟨rfl, hv⟩)
    · intro k198 vals w199 h202 h203 hW201 hA200
      obtain rfl : k198 = 0 := Nat.le_antisymm h203 h202
      have hS204 : Sep G W ((Blk b9 #[.func (.func 32) #[] #[], .func (.func 33) #[] #[]] 56) :: (MapH (α := Rul) m5 ruleL) :: (Blk b2 (t.cells dt0).toArray 31) :: Rs) w199 := hW201
      have e205 : vals 1 = (.bool true : Value) := hA200 1 (by decide)
      have e206 : vals 4 = (.pointer (some ⟨b2, 0, none⟩) : Value) := hA200 4 (by decide)
      refine oblc rfl rfl (show _ = (.bool true : Value) from e205) (fun _ => ?_) (fun hb => absurd rfl hb)
      exact ov_load1 (v := dt0) Try.isAgg29 (show _ = (.pointer (some ⟨b2, 0, none⟩) : Value) from e206) (blk_cellL (hS204.blk (i := 2) rfl) rfl) (fun vals' hv _ => ⟨rfl, hv⟩)
    · intro k207 vals w208 h211 h212 hW210 hA209
      have e213 : vals 1 = (.bool true : Value) := hA209 1 (by decide)
      refine oblc rfl rfl (show _ = (.bool true : Value) from e213) (fun _ => ?_) (fun hb => absurd rfl hb)
      exact ov_move (v := .int .i64 (f)) rfl (fun vals' hv _ => ⟨rfl, hv⟩)
    · intro k214 vals w215 h218 h219 hW217 hA216
      obtain rfl : k214 = 0 := Nat.le_antisymm h219 h218
      have hS220 : Sep G W ((Blk b9 #[.func (.func 32) #[] #[], .func (.func 33) #[] #[]] 56) :: (MapH (α := Rul) m5 ruleL) :: (Blk b2 (t.cells dt0).toArray 31) :: Rs) w215 := hW217
      have e221 : vals 1 = (.bool true : Value) := hA216 1 (by decide)
      have e222 : vals 5 = (dt0 : Value) := hA216 5 (by decide)
      have e223 : vals 6 = (.int .i64 (f) : Value) := hA216 6 (by decide)
      refine oblc rfl rfl (show _ = (.bool true : Value) from e221) (fun _ => ?_) (fun hb => absurd rfl hb)
      have hi224 : f.toNat < t.fields.length := (by have h1 := hak.1; have h2 := hak.2.1; have h3 := hak.2.2.1; omega)
      exact ov_indexAddr (k := 4) (i := f) Try.underlying29 Try.sizeOf36 (show _ = (dt0 : Value) from e222) hdt0.sl (show _ = (.int .i64 (f) : Value) from e223) ⟨by omega, by omega⟩ (fun vals' hv _ => ⟨rfl, hv⟩)
    · intro k225 vals w226 h229 h230 hW228 hA227
      obtain rfl : k225 = 0 := Nat.le_antisymm h230 h229
      have hS231 : Sep G W ((Blk b9 #[.func (.func 32) #[] #[], .func (.func 33) #[] #[]] 56) :: (MapH (α := Rul) m5 ruleL) :: (Blk b2 (t.cells dt0).toArray 31) :: Rs) w226 := hW228
      have e232 : vals 1 = (.bool true : Value) := hA227 1 (by decide)
      have e233 : vals 7 = (.pointer (some ⟨sb dt0, so dt0 + f.toNat * 4, none⟩) : Value) := hA227 7 (by decide)
      refine oblc rfl rfl (show _ = (.bool true : Value) from e232) (fun _ => ?_) (fun hb => absurd rfl hb)
      have hi235 : f.toNat < t.fields.length := (by have h1 := hak.1; have h2 := hak.2.1; have h3 := hak.2.2.1; omega)
      obtain ⟨hce234, hde234_0, hoke234⟩ := hdt0.fld hi235
      rw [← getD_at default hi235] at hce234 hde234_0 hoke234
      have hsm236 : ((t.fields.getD f.toNat default).moves).length * 32 ≤ 140737488355328 := hde234_0.small
      have hcw237 := hS231.cells hce234 (hdt0.foot (ne_of_lt hi235))
      exact ov_loadk (k := 4) Try.isAgg36 Try.sizeOf36 rfl (show _ = (.pointer (some ⟨sb dt0, so dt0 + f.toNat * 4, none⟩) : Value) from e233) hcw237 (fun vals' hv _ => ⟨rfl, hv⟩)
    · intro k238 vals w239 h242 h243 hW241 hA240
      have e244 : vals 1 = (.bool true : Value) := hA240 1 (by decide)
      refine oblc rfl rfl (show _ = (.bool true : Value) from e244) (fun _ => ?_) (fun hb => absurd rfl hb)
      exact ov_move (v := vc) rfl (fun vals' hv _ => ⟨rfl, hv⟩)
    · intro k245 vals w246 h249 h250 hW248 hA247
      have e251 : vals 1 = (.bool true : Value) := hA247 1 (by decide)
      refine oblc rfl rfl (show _ = (.bool true : Value) from e251) (fun _ => ?_) (fun hb => absurd rfl hb)
      exact ov_move (v := .int .i64 (f)) rfl (fun vals' hv _ => ⟨rfl, hv⟩)
    · intro k252 vals w253 h256 h257 hW255 hA254
      have e258 : vals 1 = (.bool true : Value) := hA254 1 (by decide)
      refine oblc rfl rfl (show _ = (.bool true : Value) from e258) (fun _ => ?_) (fun hb => absurd rfl hb)
      exact ov_move (v := .int .i64 (arg)) rfl (fun vals' hv _ => ⟨rfl, hv⟩)
    · intro k259 vals w260 h263 h264 hW262 hA261
      have e265 : vals 1 = (.bool true : Value) := hA261 1 (by decide)
      have e266 : vals 8 = (.agg ((t.fields.getD f.toNat default).cells (cellV W (sb dt0) (so dt0 + f.toNat * 4 + 3))).toArray : Value) := hA261 8 (by decide)
      have e267 : vals 9 = (vc : Value) := hA261 9 (by decide)
      have e268 : vals 10 = (.int .i64 (f) : Value) := hA261 10 (by decide)
      have e269 : vals 11 = (.int .i64 (arg) : Value) := hA261 11 (by decide)
      refine oblc rfl rfl (show _ = (.bool true : Value) from e265) (fun _ => ?_) (fun hb => absurd rfl hb)
      have hi271 : f.toNat < t.fields.length := (by have h1 := hak.1; have h2 := hak.2.1; have h3 := hak.2.2.1; omega)
      obtain ⟨hce270, hde270_0, hoke270⟩ := hdt0.fld hi271
      rw [← getD_at default hi271] at hce270 hde270_0 hoke270
      have hsm272 : ((t.fields.getD f.toNat default).moves).length * 32 ≤ 140737488355328 := hde270_0.small
      have ok273 : AskR.Ok (⟨((t.fields.getD f.toNat default)), c, f, arg⟩ : AskR) := ⟨⟨(show InR ((t.fields.getD f.toNat default).kind) from hoke270.kind), (show InR ((t.fields.getD f.toNat default).policy) from hoke270.policy)⟩, (show InR (f) from (by omega)), (show InR (arg) from (by omega))⟩
      exact ov_build (parts' := [(0, .agg ((t.fields.getD f.toNat default).cells (cellV W (sb dt0) (so dt0 + f.toNat * 4 + 3))).toArray), (1, vc), (2, .int .i64 (f)), (3, .int .i64 (arg))]) (v := .agg ((⟨((t.fields.getD f.toNat default)), c, f, arg⟩ : AskR).cells (cellV W (sb dt0) (so dt0 + f.toNat * 4 + 3)) vc).toArray) (mapP ⟨rfl, (show _ = (.agg ((t.fields.getD f.toNat default).cells (cellV W (sb dt0) (so dt0 + f.toNat * 4 + 3))).toArray : Value) from e266), rfl, (show _ = (vc : Value) from e267), rfl, (show _ = (.int .i64 (f) : Value) from e268), rfl, (show _ = (.int .i64 (arg) : Value) from e269), trivial⟩) (by obtain ⟨_, _, hv274, _⟩ := hc.sl; rw [show vc = Value.slice _ _ _ from hv274]; simp [Instr.build, Instr.fill, Ev.cells, go_sem, Mv.cells, Fld.cells, Typ.cells, Prj.cells, Dcl.cells, Cel.cells, AskR.cells]) (fun vals' hv _ => ⟨rfl, hv⟩)
    · intro k128 vals w129 h132 h133 hW131 hA130
      obtain rfl : k128 = 0 := Nat.le_antisymm h133 h132
      have hS134 : Sep G W ((Blk b9 #[.func (.func 32) #[] #[], .func (.func 33) #[] #[]] 56) :: (MapH (α := Rul) m5 ruleL) :: (Blk b2 (t.cells dt0).toArray 31) :: Rs) w129 := hW131
      have e135 : vals 1 = (.bool true : Value) := hA130 1 (by decide)
      have e136 : vals 3 = (.func (.func 32) #[] #[] : Value) := hA130 3 (by decide)
      have e137 : vals 12 = (.agg ((⟨((t.fields.getD f.toNat default)), c, f, arg⟩ : AskR).cells (cellV W (sb dt0) (so dt0 + f.toNat * 4 + 3)) vc).toArray : Value) := hA130 12 (by decide)
      refine oblc rfl rfl (show _ = (.bool true : Value) from e135) (fun _ => ?_) (fun hb => absurd rfl hb)
      have hi139 : f.toNat < t.fields.length := (by have h1 := hak.1; have h2 := hak.2.1; have h3 := hak.2.2.1; omega)
      obtain ⟨hce138, hde138_0, hoke138⟩ := hdt0.fld hi139
      rw [← getD_at default hi139] at hce138 hde138_0 hoke138
      have hsm140 : ((t.fields.getD f.toNat default).moves).length * 32 ≤ 140737488355328 := hde138_0.small
      have hcw141 := hS134.cells hce138 (hdt0.foot (ne_of_lt hi139))
      have ok142 : AskR.Ok (⟨((t.fields.getD f.toNat default)), c, f, arg⟩ : AskR) := ⟨⟨(show InR ((t.fields.getD f.toNat default).kind) from hoke138.kind), (show InR ((t.fields.getD f.toNat default).policy) from hoke138.policy)⟩, (show InR (f) from (by omega)), (show InR (arg) from (by omega))⟩
      refine (ov_call (f := 32) (vals := [.agg ((⟨((t.fields.getD f.toNat default)), c, f, arg⟩ : AskR).cells (cellV W (sb dt0) (so dt0 + f.toNat * 4 + 3)) vc).toArray]) (cap := []) (show _ = (.func (.func 32) #[] #[] : Value) from e136) (mapL ⟨(show _ = (.agg ((⟨((t.fields.getD f.toNat default)), c, f, arg⟩ : AskR).cells (cellV W (sb dt0) (so dt0 + f.toNat * 4 + 3)) vc).toArray : Value) from e137), trivial⟩) Try.call32 (D_mayInc (a := (⟨((t.fields.getD f.toNat default)), c, f, arg⟩ : AskR)) hde138_0 hc ok142 hS134 (⟨hak.1, hak.2.2.1⟩)) ?_)
      rintro _ w143 ⟨rfl, hS144⟩
      intro vals' hv hv'
      refine ⟨?_, trivial⟩
      show (vals' 13 = (.bool (mayB (⟨((t.fields.getD f.toNat default)), c, f, arg⟩ : AskR).fld (⟨((t.fields.getD f.toNat default)), c, f, arg⟩ : AskR).cls (celAt (⟨((t.fields.getD f.toNat default)), c, f, arg⟩ : AskR).cls (⟨((t.fields.getD f.toNat default)), c, f, arg⟩ : AskR).no) 1 (⟨((t.fields.getD f.toNat default)), c, f, arg⟩ : AskR).arg) : Value)) ∧ Sep G W ((Blk b9 #[.func (.func 32) #[] #[], .func (.func 33) #[] #[]] 56) :: (MapH (α := Rul) m5 ruleL) :: (Blk b2 (t.cells dt0).toArray 31) :: Rs) w143
      exact ⟨hv, hS144⟩
    · intro k275 vals w276 h279 h280 hW278 hA277
      obtain rfl : k275 = 1 := Nat.le_antisymm h280 h279
      obtain ⟨he145, hS281⟩ : (vals 13 = (.bool (mayB (⟨((t.fields.getD f.toNat default)), c, f, arg⟩ : AskR).fld (⟨((t.fields.getD f.toNat default)), c, f, arg⟩ : AskR).cls (celAt (⟨((t.fields.getD f.toNat default)), c, f, arg⟩ : AskR).cls (⟨((t.fields.getD f.toNat default)), c, f, arg⟩ : AskR).no) 1 (⟨((t.fields.getD f.toNat default)), c, f, arg⟩ : AskR).arg) : Value)) ∧ Sep G W ((Blk b9 #[.func (.func 32) #[] #[], .func (.func 33) #[] #[]] 56) :: (MapH (α := Rul) m5 ruleL) :: (Blk b2 (t.cells dt0).toArray 31) :: Rs) w276 := hW278
      have e282 : vals 1 = (.bool true : Value) := hA277 1 (by decide)
      refine oblc rfl rfl (show _ = (.bool true : Value) from e282) (fun _ => ?_) (fun hb => absurd rfl hb)
      exact ov_not (a := mayB (⟨((t.fields.getD f.toNat default)), c, f, arg⟩ : AskR).fld (⟨((t.fields.getD f.toNat default)), c, f, arg⟩ : AskR).cls (celAt (⟨((t.fields.getD f.toNat default)), c, f, arg⟩ : AskR).cls (⟨((t.fields.getD f.toNat default)), c, f, arg⟩ : AskR).no) 1 (⟨((t.fields.getD f.toNat default)), c, f, arg⟩ : AskR).arg) (show _ = (.bool (mayB (⟨((t.fields.getD f.toNat default)), c, f, arg⟩ : AskR).fld (⟨((t.fields.getD f.toNat default)), c, f, arg⟩ : AskR).cls (celAt (⟨((t.fields.getD f.toNat default)), c, f, arg⟩ : AskR).cls (⟨((t.fields.getD f.toNat default)), c, f, arg⟩ : AskR).no) 1 (⟨((t.fields.getD f.toNat default)), c, f, arg⟩ : AskR).arg) : Value) from he145) (fun vals' hv _ => ⟨rfl, hv⟩)
    · intro k283 vals w284 h287 h288 hW286 hA285
      have e289 : vals 1 = (.bool true : Value) := hA285 1 (by decide)
      have e290 : vals 14 = (.bool (!(mayB (⟨((t.fields.getD f.toNat default)), c, f, arg⟩ : AskR).fld (⟨((t.fields.getD f.toNat default)), c, f, arg⟩ : AskR).cls (celAt (⟨((t.fields.getD f.toNat default)), c, f, arg⟩ : AskR).cls (⟨((t.fields.getD f.toNat default)), c, f, arg⟩ : AskR).no) 1 (⟨((t.fields.getD f.toNat default)), c, f, arg⟩ : AskR).arg)) : Value) := hA285 14 (by decide)
      refine obl rfl ?_
      exact ov_pick_t (v := .bool (!(mayB (⟨((t.fields.getD f.toNat default)), c, f, arg⟩ : AskR).fld (⟨((t.fields.getD f.toNat default)), c, f, arg⟩ : AskR).cls (celAt (⟨((t.fields.getD f.toNat default)), c, f, arg⟩ : AskR).cls (⟨((t.fields.getD f.toNat default)), c, f, arg⟩ : AskR).no) 1 (⟨((t.fields.getD f.toNat default)), c, f, arg⟩ : AskR).arg))) (show _ = (.bool true : Value) from e289) (show _ = (.bool (!(mayB (⟨((t.fields.getD f.toNat default)), c, f, arg⟩ : AskR).fld (⟨((t.fields.getD f.toNat default)), c, f, arg⟩ : AskR).cls (celAt (⟨((t.fields.getD f.toNat default)), c, f, arg⟩ : AskR).cls (⟨((t.fields.getD f.toNat default)), c, f, arg⟩ : AskR).no) 1 (⟨((t.fields.getD f.toNat default)), c, f, arg⟩ : AskR).arg)) : Value) from e290) (fun vals' hv _ => ⟨rfl, hv⟩)
    intro vals w291 hW292 hA293
    obtain ⟨he145, hS294⟩ : (vals 13 = (.bool (mayB (⟨((t.fields.getD f.toNat default)), c, f, arg⟩ : AskR).fld (⟨((t.fields.getD f.toNat default)), c, f, arg⟩ : AskR).cls (celAt (⟨((t.fields.getD f.toNat default)), c, f, arg⟩ : AskR).cls (⟨((t.fields.getD f.toNat default)), c, f, arg⟩ : AskR).no) 1 (⟨((t.fields.getD f.toNat default)), c, f, arg⟩ : AskR).arg) : Value)) ∧ Sep G W ((Blk b9 #[.func (.func 32) #[] #[], .func (.func 33) #[] #[]] 56) :: (MapH (α := Rul) m5 ruleL) :: (Blk b2 (t.cells dt0).toArray 31) :: Rs) w291 := hW292
    have e295 : vals 15 = (.bool (!(mayB (⟨((t.fields.getD f.toNat default)), c, f, arg⟩ : AskR).fld (⟨((t.fields.getD f.toNat default)), c, f, arg⟩ : AskR).cls (celAt (⟨((t.fields.getD f.toNat default)), c, f, arg⟩ : AskR).cls (⟨((t.fields.getD f.toNat default)), c, f, arg⟩ : AskR).no) 1 (⟨((t.fields.getD f.toNat default)), c, f, arg⟩ : AskR).arg)) : Value) := hA293 15 (by decide)
    refine st_env (kv := [(0, .agg (t.cells dt0).toArray), (1, vc), (2, .int .i64 (f)), (3, .int .i64 (op)), (4, .int .i64 (arg)), (5, .pointer (some ⟨b2, 0, none⟩)), (10, .int .i64 (0)), (14, .map (some m5)), (15, .int .i64 (op)), (16, .tuple #[.agg #[.func (.func 32) #[] #[], .func (.func 33) #[] #[]], .bool true]), (13, .tuple #[.agg #[.func (.func 32) #[] #[], .func (.func 33) #[] #[]], .bool true]), (17, .agg #[.func (.func 32) #[] #[], .func (.func 33) #[] #[]]), (18, .bool true), (11, .pointer (some ⟨b9, 0, none⟩)), (12, .bool true), (34, .bool (!(mayB (⟨((t.fields.getD f.toNat default)), c, f, arg⟩ : AskR).fld (⟨((t.fields.getD f.toNat default)), c, f, arg⟩ : AskR).cls (celAt (⟨((t.fields.getD f.toNat default)), c, f, arg⟩ : AskR).cls (⟨((t.fields.getD f.toNat default)), c, f, arg⟩ : AskR).no) 1 (⟨((t.fields.getD f.toNat default)), c, f, arg⟩ : AskR).arg)))]) ⟨rfl, rfl, rfl, rfl, rfl, rfl, rfl, rfl, rfl, rfl, rfl, rfl, rfl, rfl, rfl, (by exact e295), trivial⟩ (fun ρw291 => ?_)
    refine st_nil ?_
    cases hc296 : !(mayB (⟨((t.fields.getD f.toNat default)), c, f, arg⟩ : AskR).fld (⟨((t.fields.getD f.toNat default)), c, f, arg⟩ : AskR).cls (celAt (⟨((t.fields.getD f.toNat default)), c, f, arg⟩ : AskR).cls (⟨((t.fields.getD f.toNat default)), c, f, arg⟩ : AskR).no) 1 (⟨((t.fields.getD f.toNat default)), c, f, arg⟩ : AskR).arg)
    · skip
      try simp only [bools] at hc296
      refine WP_cond_f rfl ?_
      refine WP_skip ?_
      refine WP_seq ?_
      refine WP_region0 (by kernel_rfl) (fun _ => ?_)
      refine st (ov_assign (v := .int .i64 (0)) rfl ?_)
      refine st_nil ?_
      refine WP_ret ?_
      refine fin1 Try.results10 (show _ = (.int .i64 (0) : Value) from rfl) ?_
      have hS297 : Sep G W Rs w291 := hS294.sel 3 [] (Nat.le_add_left _ _) rfl rfl
      refine ⟨?_, hS297⟩
      have hm : mayB (fldAt t f) c (celAt c f) op arg = true := by rw [hop]; exact hc296
      unfold mayL
      rw [hm]
      rfl
    · skip
      try simp only [bools] at hc296
      refine WP_cond_t rfl ?_
      refine WP_seq ?_
      refine WP_region0 (by kernel_rfl) (fun _ => ?_)
      refine st (ov_assign (v := .int .i64 (10)) rfl ?_)
      refine st_nil ?_
      refine WP_ret ?_
      refine fin1 Try.results10 (show _ = (.int .i64 (10) : Value) from rfl) ?_
      have hS298 : Sep G W Rs w291 := hS294.sel 3 [] (Nat.le_add_left _ _) rfl rfl
      refine ⟨?_, hS298⟩
      have hm : mayB (fldAt t f) c (celAt c f) op arg = false := by rw [hop]; exact hc296
      unfold mayL
      rw [hm]
      rfl
  · skip
    refine st (ov_lookupSome (α := Rul) (a := ⟨35, 36⟩) Try.underlying58 Try.underlying3 rfl rfl (hS7.map_ (i := 0) rfl) (by rw [hop]; rfl) ?_)
    rintro _ rfl
    refine st (ov_move (v := .tuple #[.agg #[.func (.func 35) #[] #[], .func (.func 36) #[] #[]], .bool true]) rfl ?_)
    refine st (ov_extract (vs := [.agg #[.func (.func 35) #[] #[], .func (.func 36) #[] #[]], .bool true]) (i := 0) (v := .agg #[.func (.func 35) #[] #[], .func (.func 36) #[] #[]]) rfl rfl ?_)
    refine st (ov_extract (vs := [.agg #[.func (.func 35) #[] #[], .func (.func 36) #[] #[]], .bool true]) (i := 1) (v := .bool true) rfl rfl ?_)
    refine st (ov_alloc Try.zeroValue56 ?_)
    intro w301 b300 hn299
    have hS302 : Sep G W ((Blk b300 #[.nilFunc, .nilFunc] 56) :: (MapH (α := Rul) m5 ruleL) :: (Blk b2 (t.cells dt0).toArray 31) :: Rs) w301 := hS7.new hn299
    refine stn (ov_store (v := .agg #[.func (.func 35) #[] #[], .func (.func 36) #[] #[]]) (c' := #[.func (.func 35) #[] #[], .func (.func 36) #[] #[]]) Try.sizeOf56 rfl rfl (hS302.blk (i := 0) rfl) (all1 ⟨rfl, rfl, trivial⟩) (Nat.le_of_ble_eq_true rfl) rfl ?_)
    intro w303 hp304
    have hS305 : Sep G W ((Blk b300 #[.func (.func 35) #[] #[], .func (.func 36) #[] #[]] 56) :: (MapH (α := Rul) m5 ruleL) :: (Blk b2 (t.cells dt0).toArray 31) :: Rs) w303 := hS302.put (i := 0) rfl hp304
    refine st (ov_assign (v := .bool true) rfl ?_)
    refine st_nil ?_
    refine WP_seq ?_
    refine WP_draw4 (WF [fun vals wq => Sep G W ((Blk b300 #[.func (.func 35) #[] #[], .func (.func 36) #[] #[]] 56) :: (MapH (α := Rul) m5 ruleL) :: (Blk b2 (t.cells dt0).toArray 31) :: Rs) wq, fun vals wq => (vals 13 = (.bool true : Value)) ∧ Sep G W ((Blk b300 #[.func (.func 35) #[] #[], .func (.func 36) #[] #[]] 56) :: (MapH (α := Rul) m5 ruleL) :: (Blk b2 (t.cells dt0).toArray 31) :: Rs) wq]) (AF [fun vals => vals 0 = (.bool true : Value), fun vals => vals 1 = (.bool true : Value), fun vals => vals 2 = (.pointer (some ⟨b300, 0, none⟩) : Value), fun vals => vals 3 = (.func (.func 35) #[] #[] : Value), fun vals => vals 4 = (.pointer (some ⟨b2, 0, none⟩) : Value), fun vals => vals 5 = (dt0 : Value), fun vals => vals 6 = (.int .i64 (f) : Value), fun vals => vals 7 = (.pointer (some ⟨sb dt0, so dt0 + f.toNat * 4, none⟩) : Value), fun vals => vals 8 = (.agg ((t.fields.getD f.toNat default).cells (cellV W (sb dt0) (so dt0 + f.toNat * 4 + 3))).toArray : Value), fun vals => vals 9 = (vc : Value), fun vals => vals 10 = (.int .i64 (f) : Value), fun vals => vals 11 = (.int .i64 (arg) : Value), fun vals => vals 12 = (.agg ((⟨((t.fields.getD f.toNat default)), c, f, arg⟩ : AskR).cells (cellV W (sb dt0) (so dt0 + f.toNat * 4 + 3)) vc).toArray : Value), fun _ => True, fun vals => vals 14 = (.bool false : Value), fun vals => vals 15 = (.bool false : Value)]) [[], [0], [0, 1], [0, 1, 2], [0, 1], [0, 1, 4], [0, 1], [0, 1, 4, 5, 6], [0, 1, 4, 5, 6, 7], [0, 1], [0, 1], [0, 1], [0, 1, 4, 5, 6, 7, 8, 9, 10, 11], [0, 1, 2, 3, 4, 5, 6, 7, 8, 9, 10, 11, 12], [0, 1, 2, 3, 4, 5, 6, 7, 8, 9, 10, 11, 12, 13], [0, 1, 2, 3, 4, 5, 6, 7, 8, 9, 10, 11, 12, 13, 14]] [13] [(0, 0), (0, 0), (0, 0), (0, 0), (0, 0), (0, 0), (0, 0), (0, 0), (0, 0), (0, 0), (0, 0), (0, 0), (0, 0), (0, 0), (1, 1), (1, 1)] (by kernel_rfl) (by kernel_rfl) (by kernel_rfl) rfl (by kernel_rfl) (by kernel_rfl) (fun _ h1 h2 h3 h4 _ => hS305.same h1 h2 h3 h4) ?_ ?_ ⟨?_, ?_, ?_, ?_, ?_, ?_, ?_, ?_, ?_, ?_, ?_, ?_, ?_, ?_, ?_, ?_, trivial⟩ ?_
    · intro k vals vals' w hv h
      have e : ∀ j ∈ ([13] : List Nat), vals' j = vals j := hv
      match k, h with
      | 0, h => exact h
      | 1, h => exact (by simpa only [WF, List.getElem?_cons_zero, List.getElem?_cons_succ, e 13 (by decide)] using h)
      | _ + 2, _ => trivial
    · intro i vals vals' hv h
      match i, hv, h with
      | 0, hv, h => exact (hv 0 (.inl rfl)).trans h
      | 1, hv, h => exact (hv 1 (.inl rfl)).trans h
      | 2, hv, h => exact (hv 2 (.inl rfl)).trans h
      | 3, hv, h => exact (hv 3 (.inl rfl)).trans h
      | 4, hv, h => exact (hv 4 (.inl rfl)).trans h
      | 5, hv, h => exact (hv 5 (.inl rfl)).trans h
      | 6, hv, h => exact (hv 6 (.inl rfl)).trans h
      | 7, hv, h => exact (hv 7 (.inl rfl)).trans h
      | 8, hv, h => exact (hv 8 (.inl rfl)).trans h
      | 9, hv, h => exact (hv 9 (.inl rfl)).trans h
      | 10, hv, h => exact (hv 10 (.inl rfl)).trans h
      | 11, hv, h => exact (hv 11 (.inl rfl)).trans h
      | 12, hv, h => exact (hv 12 (.inl rfl)).trans h
      | 13, _, _ => trivial
      | 14, hv, h => exact (hv 14 (.inl rfl)).trans h
      | 15, hv, h => exact (hv 15 (.inl rfl)).trans h
      | _ + 16, _, _ => trivial
    · intro k453 vals w454 h457 h458 hW456 hA455
      refine obl rfl ?_
      exact ov_move (v := .bool true) rfl (fun vals' hv _ => ⟨rfl, hv⟩)
    · intro k459 vals w460 h463 h464 hW462 hA461
      have e465 : vals 0 = (.bool true : Value) := hA461 0 (by decide)
      refine obl rfl ?_
      exact ov_move (v := .bool true) (show _ = (.bool true : Value) from e465) (fun vals' hv _ => ⟨rfl, hv⟩)
    · intro k466 vals w467 h470 h471 hW469 hA468
      have e472 : vals 1 = (.bool true : Value) := hA468 1 (by decide)
      refine oblc rfl rfl (show _ = (.bool true : Value) from e472) (fun _ => ?_) (fun hb => absurd rfl hb)
      exact fd56_0 rfl (fun vals' hv _ => ⟨rfl, hv⟩)
    · intro k473 vals w474 h477 h478 hW476 hA475
      obtain rfl : k473 = 0 := Nat.le_antisymm h478 h477
      have hS479 : Sep G W ((Blk b300 #[.func (.func 35) #[] #[], .func (.func 36) #[] #[]] 56) :: (MapH (α := Rul) m5 ruleL) :: (Blk b2 (t.cells dt0).toArray 31) :: Rs) w474 := hW476
      have e480 : vals 1 = (.bool true : Value) := hA475 1 (by decide)
      have e481 : vals 2 = (.pointer (some ⟨b300, 0, none⟩) : Value) := hA475 2 (by decide)
      refine oblc rfl rfl (show _ = (.bool true : Value) from e480) (fun _ => ?_) (fun hb => absurd rfl hb)
      exact ov_load1 (v := .func (.func 35) #[] #[]) Try.isAgg53 (show _ = (.pointer (some ⟨b300, 0, none⟩) : Value) from e481) (blk_cellL (hS479.blk (i := 0) rfl) rfl) (fun vals' hv _ => ⟨rfl, hv⟩)
    · intro k482 vals w483 h486 h487 hW485 hA484
      have e488 : vals 1 = (.bool true : Value) := hA484 1 (by decide)
      refine oblc rfl rfl (show _ = (.bool true : Value) from e488) (fun _ => ?_) (fun hb => absurd rfl hb)
      exact fd31_0 rfl (fun vals' hv _ => ⟨rfl, hv⟩)
    · intro k489 vals w490 h493 h494 hW492 hA491
      obtain rfl : k489 = 0 := Nat.le_antisymm h494 h493
      have hS495 : Sep G W ((Blk b300 #[.func (.func 35) #[] #[], .func (.func 36) #[] #[]] 56) :: (MapH (α := Rul) m5 ruleL) :: (Blk b2 (t.cells dt0).toArray 31) :: Rs) w490 := hW492
      have e496 : vals 1 = (.bool true : Value) := hA491 1 (by decide)
      have e497 : vals 4 = (.pointer (some ⟨b2, 0, none⟩) : Value) := hA491 4 (by decide)
      refine oblc rfl rfl (show _ = (.bool true : Value) from e496) (fun _ => ?_) (fun hb => absurd rfl hb)
      exact ov_load1 (v := dt0) Try.isAgg29 (show _ = (.pointer (some ⟨b2, 0, none⟩) : Value) from e497) (blk_cellL (hS495.blk (i := 2) rfl) rfl) (fun vals' hv _ => ⟨rfl, hv⟩)
    · intro k498 vals w499 h502 h503 hW501 hA500
      have e504 : vals 1 = (.bool true : Value) := hA500 1 (by decide)
      refine oblc rfl rfl (show _ = (.bool true : Value) from e504) (fun _ => ?_) (fun hb => absurd rfl hb)
      exact ov_move (v := .int .i64 (f)) rfl (fun vals' hv _ => ⟨rfl, hv⟩)
    · intro k505 vals w506 h509 h510 hW508 hA507
      obtain rfl : k505 = 0 := Nat.le_antisymm h510 h509
      have hS511 : Sep G W ((Blk b300 #[.func (.func 35) #[] #[], .func (.func 36) #[] #[]] 56) :: (MapH (α := Rul) m5 ruleL) :: (Blk b2 (t.cells dt0).toArray 31) :: Rs) w506 := hW508
      have e512 : vals 1 = (.bool true : Value) := hA507 1 (by decide)
      have e513 : vals 5 = (dt0 : Value) := hA507 5 (by decide)
      have e514 : vals 6 = (.int .i64 (f) : Value) := hA507 6 (by decide)
      refine oblc rfl rfl (show _ = (.bool true : Value) from e512) (fun _ => ?_) (fun hb => absurd rfl hb)
      have hi515 : f.toNat < t.fields.length := (by have h1 := hak.1; have h2 := hak.2.1; have h3 := hak.2.2.1; omega)
      exact ov_indexAddr (k := 4) (i := f) Try.underlying29 Try.sizeOf36 (show _ = (dt0 : Value) from e513) hdt0.sl (show _ = (.int .i64 (f) : Value) from e514) ⟨by omega, by omega⟩ (fun vals' hv _ => ⟨rfl, hv⟩)
    · intro k516 vals w517 h520 h521 hW519 hA518
      obtain rfl : k516 = 0 := Nat.le_antisymm h521 h520
      have hS522 : Sep G W ((Blk b300 #[.func (.func 35) #[] #[], .func (.func 36) #[] #[]] 56) :: (MapH (α := Rul) m5 ruleL) :: (Blk b2 (t.cells dt0).toArray 31) :: Rs) w517 := hW519
      have e523 : vals 1 = (.bool true : Value) := hA518 1 (by decide)
      have e524 : vals 7 = (.pointer (some ⟨sb dt0, so dt0 + f.toNat * 4, none⟩) : Value) := hA518 7 (by decide)
      refine oblc rfl rfl (show _ = (.bool true : Value) from e523) (fun _ => ?_) (fun hb => absurd rfl hb)
      have hi526 : f.toNat < t.fields.length := (by have h1 := hak.1; have h2 := hak.2.1; have h3 := hak.2.2.1; omega)
      obtain ⟨hce525, hde525_0, hoke525⟩ := hdt0.fld hi526
      rw [← getD_at default hi526] at hce525 hde525_0 hoke525
      have hsm527 : ((t.fields.getD f.toNat default).moves).length * 32 ≤ 140737488355328 := hde525_0.small
      have hcw528 := hS522.cells hce525 (hdt0.foot (ne_of_lt hi526))
      exact ov_loadk (k := 4) Try.isAgg36 Try.sizeOf36 rfl (show _ = (.pointer (some ⟨sb dt0, so dt0 + f.toNat * 4, none⟩) : Value) from e524) hcw528 (fun vals' hv _ => ⟨rfl, hv⟩)
    · intro k529 vals w530 h533 h534 hW532 hA531
      have e535 : vals 1 = (.bool true : Value) := hA531 1 (by decide)
      refine oblc rfl rfl (show _ = (.bool true : Value) from e535) (fun _ => ?_) (fun hb => absurd rfl hb)
      exact ov_move (v := vc) rfl (fun vals' hv _ => ⟨rfl, hv⟩)
    · intro k536 vals w537 h540 h541 hW539 hA538
      have e542 : vals 1 = (.bool true : Value) := hA538 1 (by decide)
      refine oblc rfl rfl (show _ = (.bool true : Value) from e542) (fun _ => ?_) (fun hb => absurd rfl hb)
      exact ov_move (v := .int .i64 (f)) rfl (fun vals' hv _ => ⟨rfl, hv⟩)
    · intro k543 vals w544 h547 h548 hW546 hA545
      have e549 : vals 1 = (.bool true : Value) := hA545 1 (by decide)
      refine oblc rfl rfl (show _ = (.bool true : Value) from e549) (fun _ => ?_) (fun hb => absurd rfl hb)
      exact ov_move (v := .int .i64 (arg)) rfl (fun vals' hv _ => ⟨rfl, hv⟩)
    · intro k550 vals w551 h554 h555 hW553 hA552
      have e556 : vals 1 = (.bool true : Value) := hA552 1 (by decide)
      have e557 : vals 8 = (.agg ((t.fields.getD f.toNat default).cells (cellV W (sb dt0) (so dt0 + f.toNat * 4 + 3))).toArray : Value) := hA552 8 (by decide)
      have e558 : vals 9 = (vc : Value) := hA552 9 (by decide)
      have e559 : vals 10 = (.int .i64 (f) : Value) := hA552 10 (by decide)
      have e560 : vals 11 = (.int .i64 (arg) : Value) := hA552 11 (by decide)
      refine oblc rfl rfl (show _ = (.bool true : Value) from e556) (fun _ => ?_) (fun hb => absurd rfl hb)
      have hi562 : f.toNat < t.fields.length := (by have h1 := hak.1; have h2 := hak.2.1; have h3 := hak.2.2.1; omega)
      obtain ⟨hce561, hde561_0, hoke561⟩ := hdt0.fld hi562
      rw [← getD_at default hi562] at hce561 hde561_0 hoke561
      have hsm563 : ((t.fields.getD f.toNat default).moves).length * 32 ≤ 140737488355328 := hde561_0.small
      have ok564 : AskR.Ok (⟨((t.fields.getD f.toNat default)), c, f, arg⟩ : AskR) := ⟨⟨(show InR ((t.fields.getD f.toNat default).kind) from hoke561.kind), (show InR ((t.fields.getD f.toNat default).policy) from hoke561.policy)⟩, (show InR (f) from (by omega)), (show InR (arg) from (by omega))⟩
      exact ov_build (parts' := [(0, .agg ((t.fields.getD f.toNat default).cells (cellV W (sb dt0) (so dt0 + f.toNat * 4 + 3))).toArray), (1, vc), (2, .int .i64 (f)), (3, .int .i64 (arg))]) (v := .agg ((⟨((t.fields.getD f.toNat default)), c, f, arg⟩ : AskR).cells (cellV W (sb dt0) (so dt0 + f.toNat * 4 + 3)) vc).toArray) (mapP ⟨rfl, (show _ = (.agg ((t.fields.getD f.toNat default).cells (cellV W (sb dt0) (so dt0 + f.toNat * 4 + 3))).toArray : Value) from e557), rfl, (show _ = (vc : Value) from e558), rfl, (show _ = (.int .i64 (f) : Value) from e559), rfl, (show _ = (.int .i64 (arg) : Value) from e560), trivial⟩) (by obtain ⟨_, _, hv565, _⟩ := hc.sl; rw [show vc = Value.slice _ _ _ from hv565]; simp [Instr.build, Instr.fill, Ev.cells, go_sem, Mv.cells, Fld.cells, Typ.cells, Prj.cells, Dcl.cells, Cel.cells, AskR.cells]) (fun vals' hv _ => ⟨rfl, hv⟩)
    · intro k419 vals w420 h423 h424 hW422 hA421
      obtain rfl : k419 = 0 := Nat.le_antisymm h424 h423
      have hS425 : Sep G W ((Blk b300 #[.func (.func 35) #[] #[], .func (.func 36) #[] #[]] 56) :: (MapH (α := Rul) m5 ruleL) :: (Blk b2 (t.cells dt0).toArray 31) :: Rs) w420 := hW422
      have e426 : vals 1 = (.bool true : Value) := hA421 1 (by decide)
      have e427 : vals 3 = (.func (.func 35) #[] #[] : Value) := hA421 3 (by decide)
      have e428 : vals 12 = (.agg ((⟨((t.fields.getD f.toNat default)), c, f, arg⟩ : AskR).cells (cellV W (sb dt0) (so dt0 + f.toNat * 4 + 3)) vc).toArray : Value) := hA421 12 (by decide)
      refine oblc rfl rfl (show _ = (.bool true : Value) from e426) (fun _ => ?_) (fun hb => absurd rfl hb)
      have hi430 : f.toNat < t.fields.length := (by have h1 := hak.1; have h2 := hak.2.1; have h3 := hak.2.2.1; omega)
      obtain ⟨hce429, hde429_0, hoke429⟩ := hdt0.fld hi430
      rw [← getD_at default hi430] at hce429 hde429_0 hoke429
      have hsm431 : ((t.fields.getD f.toNat default).moves).length * 32 ≤ 140737488355328 := hde429_0.small
      have hcw432 := hS425.cells hce429 (hdt0.foot (ne_of_lt hi430))
      have ok433 : AskR.Ok (⟨((t.fields.getD f.toNat default)), c, f, arg⟩ : AskR) := ⟨⟨(show InR ((t.fields.getD f.toNat default).kind) from hoke429.kind), (show InR ((t.fields.getD f.toNat default).policy) from hoke429.policy)⟩, (show InR (f) from (by omega)), (show InR (arg) from (by omega))⟩
      refine (ov_call (f := 35) (vals := [.agg ((⟨((t.fields.getD f.toNat default)), c, f, arg⟩ : AskR).cells (cellV W (sb dt0) (so dt0 + f.toNat * 4 + 3)) vc).toArray]) (cap := []) (show _ = (.func (.func 35) #[] #[] : Value) from e427) (mapL ⟨(show _ = (.agg ((⟨((t.fields.getD f.toNat default)), c, f, arg⟩ : AskR).cells (cellV W (sb dt0) (so dt0 + f.toNat * 4 + 3)) vc).toArray : Value) from e428), trivial⟩) Try.call35 (D_always (a := (⟨((t.fields.getD f.toNat default)), c, f, arg⟩ : AskR)) hde429_0 hc ok433 hS425) ?_)
      rintro _ w434 ⟨rfl, hS435⟩
      intro vals' hv hv'
      refine ⟨?_, trivial⟩
      show (vals' 13 = (.bool true : Value)) ∧ Sep G W ((Blk b300 #[.func (.func 35) #[] #[], .func (.func 36) #[] #[]] 56) :: (MapH (α := Rul) m5 ruleL) :: (Blk b2 (t.cells dt0).toArray 31) :: Rs) w434
      exact ⟨hv, hS435⟩
    · intro k566 vals w567 h570 h571 hW569 hA568
      obtain rfl : k566 = 1 := Nat.le_antisymm h571 h570
      obtain ⟨he436, hS572⟩ : (vals 13 = (.bool true : Value)) ∧ Sep G W ((Blk b300 #[.func (.func 35) #[] #[], .func (.func 36) #[] #[]] 56) :: (MapH (α := Rul) m5 ruleL) :: (Blk b2 (t.cells dt0).toArray 31) :: Rs) w567 := hW569
      have e573 : vals 1 = (.bool true : Value) := hA568 1 (by decide)
      refine oblc rfl rfl (show _ = (.bool true : Value) from e573) (fun _ => ?_) (fun hb => absurd rfl hb)
      exact ov_not (a := true) (show _ = (.bool true : Value) from he436) (fun vals' hv _ => ⟨rfl, hv⟩)
    · intro k574 vals w575 h578 h579 hW577 hA576
      have e580 : vals 1 = (.bool true : Value) := hA576 1 (by decide)
      have e581 : vals 14 = (.bool false : Value) := hA576 14 (by decide)
      refine obl rfl ?_
      exact ov_pick_t (v := .bool false) (show _ = (.bool true : Value) from e580) (show _ = (.bool false : Value) from e581) (fun vals' hv _ => ⟨rfl, hv⟩)
    intro vals w582 hW583 hA584
    obtain ⟨he436, hS585⟩ : (vals 13 = (.bool true : Value)) ∧ Sep G W ((Blk b300 #[.func (.func 35) #[] #[], .func (.func 36) #[] #[]] 56) :: (MapH (α := Rul) m5 ruleL) :: (Blk b2 (t.cells dt0).toArray 31) :: Rs) w582 := hW583
    have e586 : vals 15 = (.bool false : Value) := hA584 15 (by decide)
    refine st_env (kv := [(0, .agg (t.cells dt0).toArray), (1, vc), (2, .int .i64 (f)), (3, .int .i64 (op)), (4, .int .i64 (arg)), (5, .pointer (some ⟨b2, 0, none⟩)), (10, .int .i64 (0)), (14, .map (some m5)), (15, .int .i64 (op)), (16, .tuple #[.agg #[.func (.func 35) #[] #[], .func (.func 36) #[] #[]], .bool true]), (13, .tuple #[.agg #[.func (.func 35) #[] #[], .func (.func 36) #[] #[]], .bool true]), (17, .agg #[.func (.func 35) #[] #[], .func (.func 36) #[] #[]]), (18, .bool true), (11, .pointer (some ⟨b300, 0, none⟩)), (12, .bool true), (34, .bool false)]) ⟨rfl, rfl, rfl, rfl, rfl, rfl, rfl, rfl, rfl, rfl, rfl, rfl, rfl, rfl, rfl, (by exact e586), trivial⟩ (fun ρw582 => ?_)
    refine st_nil ?_
    refine WP_cond_f rfl ?_
    refine WP_skip ?_
    refine WP_seq ?_
    refine WP_region0 (by kernel_rfl) (fun _ => ?_)
    refine st (ov_assign (v := .int .i64 (0)) rfl ?_)
    refine st_nil ?_
    refine WP_ret ?_
    refine fin1 Try.results10 (show _ = (.int .i64 (0) : Value) from rfl) ?_
    have hS587 : Sep G W Rs w582 := hS585.sel 3 [] (Nat.le_add_left _ _) rfl rfl
    refine ⟨?_, hS587⟩
    have hm : mayB (fldAt t f) c (celAt c f) op arg = true := by rw [hop]; rfl
    unfold mayL
    rw [hm]
    rfl
  · skip
    refine st (ov_lookupSome (α := Rul) (a := ⟨37, 38⟩) Try.underlying58 Try.underlying3 rfl rfl (hS7.map_ (i := 0) rfl) (by rw [hop]; rfl) ?_)
    rintro _ rfl
    refine st (ov_move (v := .tuple #[.agg #[.func (.func 37) #[] #[], .func (.func 38) #[] #[]], .bool true]) rfl ?_)
    refine st (ov_extract (vs := [.agg #[.func (.func 37) #[] #[], .func (.func 38) #[] #[]], .bool true]) (i := 0) (v := .agg #[.func (.func 37) #[] #[], .func (.func 38) #[] #[]]) rfl rfl ?_)
    refine st (ov_extract (vs := [.agg #[.func (.func 37) #[] #[], .func (.func 38) #[] #[]], .bool true]) (i := 1) (v := .bool true) rfl rfl ?_)
    refine st (ov_alloc Try.zeroValue56 ?_)
    intro w590 b589 hn588
    have hS591 : Sep G W ((Blk b589 #[.nilFunc, .nilFunc] 56) :: (MapH (α := Rul) m5 ruleL) :: (Blk b2 (t.cells dt0).toArray 31) :: Rs) w590 := hS7.new hn588
    refine stn (ov_store (v := .agg #[.func (.func 37) #[] #[], .func (.func 38) #[] #[]]) (c' := #[.func (.func 37) #[] #[], .func (.func 38) #[] #[]]) Try.sizeOf56 rfl rfl (hS591.blk (i := 0) rfl) (all1 ⟨rfl, rfl, trivial⟩) (Nat.le_of_ble_eq_true rfl) rfl ?_)
    intro w592 hp593
    have hS594 : Sep G W ((Blk b589 #[.func (.func 37) #[] #[], .func (.func 38) #[] #[]] 56) :: (MapH (α := Rul) m5 ruleL) :: (Blk b2 (t.cells dt0).toArray 31) :: Rs) w592 := hS591.put (i := 0) rfl hp593
    refine st (ov_assign (v := .bool true) rfl ?_)
    refine st_nil ?_
    refine WP_seq ?_
    refine WP_draw4 (WF [fun vals wq => Sep G W ((Blk b589 #[.func (.func 37) #[] #[], .func (.func 38) #[] #[]] 56) :: (MapH (α := Rul) m5 ruleL) :: (Blk b2 (t.cells dt0).toArray 31) :: Rs) wq, fun vals wq => (vals 13 = (.bool (mayB (⟨((t.fields.getD f.toNat default)), c, f, arg⟩ : AskR).fld (⟨((t.fields.getD f.toNat default)), c, f, arg⟩ : AskR).cls (celAt (⟨((t.fields.getD f.toNat default)), c, f, arg⟩ : AskR).cls (⟨((t.fields.getD f.toNat default)), c, f, arg⟩ : AskR).no) 3 (⟨((t.fields.getD f.toNat default)), c, f, arg⟩ : AskR).arg) : Value)) ∧ Sep G W ((Blk b589 #[.func (.func 37) #[] #[], .func (.func 38) #[] #[]] 56) :: (MapH (α := Rul) m5 ruleL) :: (Blk b2 (t.cells dt0).toArray 31) :: Rs) wq]) (AF [fun vals => vals 0 = (.bool true : Value), fun vals => vals 1 = (.bool true : Value), fun vals => vals 2 = (.pointer (some ⟨b589, 0, none⟩) : Value), fun vals => vals 3 = (.func (.func 37) #[] #[] : Value), fun vals => vals 4 = (.pointer (some ⟨b2, 0, none⟩) : Value), fun vals => vals 5 = (dt0 : Value), fun vals => vals 6 = (.int .i64 (f) : Value), fun vals => vals 7 = (.pointer (some ⟨sb dt0, so dt0 + f.toNat * 4, none⟩) : Value), fun vals => vals 8 = (.agg ((t.fields.getD f.toNat default).cells (cellV W (sb dt0) (so dt0 + f.toNat * 4 + 3))).toArray : Value), fun vals => vals 9 = (vc : Value), fun vals => vals 10 = (.int .i64 (f) : Value), fun vals => vals 11 = (.int .i64 (arg) : Value), fun vals => vals 12 = (.agg ((⟨((t.fields.getD f.toNat default)), c, f, arg⟩ : AskR).cells (cellV W (sb dt0) (so dt0 + f.toNat * 4 + 3)) vc).toArray : Value), fun _ => True, fun vals => vals 14 = (.bool (!(mayB (⟨((t.fields.getD f.toNat default)), c, f, arg⟩ : AskR).fld (⟨((t.fields.getD f.toNat default)), c, f, arg⟩ : AskR).cls (celAt (⟨((t.fields.getD f.toNat default)), c, f, arg⟩ : AskR).cls (⟨((t.fields.getD f.toNat default)), c, f, arg⟩ : AskR).no) 3 (⟨((t.fields.getD f.toNat default)), c, f, arg⟩ : AskR).arg)) : Value), fun vals => vals 15 = (.bool (!(mayB (⟨((t.fields.getD f.toNat default)), c, f, arg⟩ : AskR).fld (⟨((t.fields.getD f.toNat default)), c, f, arg⟩ : AskR).cls (celAt (⟨((t.fields.getD f.toNat default)), c, f, arg⟩ : AskR).cls (⟨((t.fields.getD f.toNat default)), c, f, arg⟩ : AskR).no) 3 (⟨((t.fields.getD f.toNat default)), c, f, arg⟩ : AskR).arg)) : Value)]) [[], [0], [0, 1], [0, 1, 2], [0, 1], [0, 1, 4], [0, 1], [0, 1, 4, 5, 6], [0, 1, 4, 5, 6, 7], [0, 1], [0, 1], [0, 1], [0, 1, 4, 5, 6, 7, 8, 9, 10, 11], [0, 1, 2, 3, 4, 5, 6, 7, 8, 9, 10, 11, 12], [0, 1, 2, 3, 4, 5, 6, 7, 8, 9, 10, 11, 12, 13], [0, 1, 2, 3, 4, 5, 6, 7, 8, 9, 10, 11, 12, 13, 14]] [13] [(0, 0), (0, 0), (0, 0), (0, 0), (0, 0), (0, 0), (0, 0), (0, 0), (0, 0), (0, 0), (0, 0), (0, 0), (0, 0), (0, 0), (1, 1), (1, 1)] (by kernel_rfl) (by kernel_rfl) (by kernel_rfl) rfl (by kernel_rfl) (by kernel_rfl) (fun _ h1 h2 h3 h4 _ => hS594.same h1 h2 h3 h4) ?_ ?_ ⟨?_, ?_, ?_, ?_, ?_, ?_, ?_, ?_, ?_, ?_, ?_, ?_, ?_, ?_, ?_, ?_, trivial⟩ ?_
    · intro k vals vals' w hv h
      have e : ∀ j ∈ ([13] : List Nat), vals' j = vals j := hv
      match k, h with
      | 0, h => exact h
      | 1, h => exact (by simpa only [WF, List.getElem?_cons_zero, List.getElem?_cons_succ, e 13 (by decide)] using h)
      | _ + 2, _ => trivial
    · intro i vals vals' hv h
      match i, hv, h with
      | 0, hv, h => exact (hv 0 (.inl rfl)).trans h
      | 1, hv, h => exact (hv 1 (.inl rfl)).trans h
      | 2, hv, h => exact (hv 2 (.inl rfl)).trans h
      | 3, hv, h => exact (hv 3 (.inl rfl)).trans h
      | 4, hv, h => exact (hv 4 (.inl rfl)).trans h
      | 5, hv, h => exact (hv 5 (.inl rfl)).trans h
      | 6, hv, h => exact (hv 6 (.inl rfl)).trans h
      | 7, hv, h => exact (hv 7 (.inl rfl)).trans h
      | 8, hv, h => exact (hv 8 (.inl rfl)).trans h
      | 9, hv, h => exact (hv 9 (.inl rfl)).trans h
      | 10, hv, h => exact (hv 10 (.inl rfl)).trans h
      | 11, hv, h => exact (hv 11 (.inl rfl)).trans h
      | 12, hv, h => exact (hv 12 (.inl rfl)).trans h
      | 13, _, _ => trivial
      | 14, hv, h => exact (hv 14 (.inl rfl)).trans h
      | 15, hv, h => exact (hv 15 (.inl rfl)).trans h
      | _ + 16, _, _ => trivial
    · intro k742 vals w743 h746 h747 hW745 hA744
      refine obl rfl ?_
      exact ov_move (v := .bool true) rfl (fun vals' hv _ => ⟨rfl, hv⟩)
    · intro k748 vals w749 h752 h753 hW751 hA750
      have e754 : vals 0 = (.bool true : Value) := hA750 0 (by decide)
      refine obl rfl ?_
      exact ov_move (v := .bool true) (show _ = (.bool true : Value) from e754) (fun vals' hv _ => ⟨rfl, hv⟩)
    · intro k755 vals w756 h759 h760 hW758 hA757
      have e761 : vals 1 = (.bool true : Value) := hA757 1 (by decide)
      refine oblc rfl rfl (show _ = (.bool true : Value) from e761) (fun _ => ?_) (fun hb => absurd rfl hb)
      exact fd56_0 rfl (fun vals' hv _ => ⟨rfl, hv⟩)
    · intro k762 vals w763 h766 h767 hW765 hA764
      obtain rfl : k762 = 0 := Nat.le_antisymm h767 h766
      have hS768 : Sep G W ((Blk b589 #[.func (.func 37) #[] #[], .func (.func 38) #[] #[]] 56) :: (MapH (α := Rul) m5 ruleL) :: (Blk b2 (t.cells dt0).toArray 31) :: Rs) w763 := hW765
      have e769 : vals 1 = (.bool true : Value) := hA764 1 (by decide)
      have e770 : vals 2 = (.pointer (some ⟨b589, 0, none⟩) : Value) := hA764 2 (by decide)
      refine oblc rfl rfl (show _ = (.bool true : Value) from e769) (fun _ => ?_) (fun hb => absurd rfl hb)
      exact ov_load1 (v := .func (.func 37) #[] #[]) Try.isAgg53 (show _ = (.pointer (some ⟨b589, 0, none⟩) : Value) from e770) (blk_cellL (hS768.blk (i := 0) rfl) rfl) (fun vals' hv _ => ⟨rfl, hv⟩)
    · intro k771 vals w772 h775 h776 hW774 hA773
      have e777 : vals 1 = (.bool true : Value) := hA773 1 (by decide)
      refine oblc rfl rfl (show _ = (.bool true : Value) from e777) (fun _ => ?_) (fun hb => absurd rfl hb)
      exact fd31_0 rfl (fun vals' hv _ => ⟨rfl, hv⟩)
    · intro k778 vals w779 h782 h783 hW781 hA780
      obtain rfl : k778 = 0 := Nat.le_antisymm h783 h782
      have hS784 : Sep G W ((Blk b589 #[.func (.func 37) #[] #[], .func (.func 38) #[] #[]] 56) :: (MapH (α := Rul) m5 ruleL) :: (Blk b2 (t.cells dt0).toArray 31) :: Rs) w779 := hW781
      have e785 : vals 1 = (.bool true : Value) := hA780 1 (by decide)
      have e786 : vals 4 = (.pointer (some ⟨b2, 0, none⟩) : Value) := hA780 4 (by decide)
      refine oblc rfl rfl (show _ = (.bool true : Value) from e785) (fun _ => ?_) (fun hb => absurd rfl hb)
      exact ov_load1 (v := dt0) Try.isAgg29 (show _ = (.pointer (some ⟨b2, 0, none⟩) : Value) from e786) (blk_cellL (hS784.blk (i := 2) rfl) rfl) (fun vals' hv _ => ⟨rfl, hv⟩)
    · intro k787 vals w788 h791 h792 hW790 hA789
      have e793 : vals 1 = (.bool true : Value) := hA789 1 (by decide)
      refine oblc rfl rfl (show _ = (.bool true : Value) from e793) (fun _ => ?_) (fun hb => absurd rfl hb)
      exact ov_move (v := .int .i64 (f)) rfl (fun vals' hv _ => ⟨rfl, hv⟩)
    · intro k794 vals w795 h798 h799 hW797 hA796
      obtain rfl : k794 = 0 := Nat.le_antisymm h799 h798
      have hS800 : Sep G W ((Blk b589 #[.func (.func 37) #[] #[], .func (.func 38) #[] #[]] 56) :: (MapH (α := Rul) m5 ruleL) :: (Blk b2 (t.cells dt0).toArray 31) :: Rs) w795 := hW797
      have e801 : vals 1 = (.bool true : Value) := hA796 1 (by decide)
      have e802 : vals 5 = (dt0 : Value) := hA796 5 (by decide)
      have e803 : vals 6 = (.int .i64 (f) : Value) := hA796 6 (by decide)
      refine oblc rfl rfl (show _ = (.bool true : Value) from e801) (fun _ => ?_) (fun hb => absurd rfl hb)
      have hi804 : f.toNat < t.fields.length := (by have h1 := hak.1; have h2 := hak.2.1; have h3 := hak.2.2.1; omega)
      exact ov_indexAddr (k := 4) (i := f) Try.underlying29 Try.sizeOf36 (show _ = (dt0 : Value) from e802) hdt0.sl (show _ = (.int .i64 (f) : Value) from e803) ⟨by omega, by omega⟩ (fun vals' hv _ => ⟨rfl, hv⟩)
    · intro k805 vals w806 h809 h810 hW808 hA807
      obtain rfl : k805 = 0 := Nat.le_antisymm h810 h809
      have hS811 : Sep G W ((Blk b589 #[.func (.func 37) #[] #[], .func (.func 38) #[] #[]] 56) :: (MapH (α := Rul) m5 ruleL) :: (Blk b2 (t.cells dt0).toArray 31) :: Rs) w806 := hW808
      have e812 : vals 1 = (.bool true : Value) := hA807 1 (by decide)
      have e813 : vals 7 = (.pointer (some ⟨sb dt0, so dt0 + f.toNat * 4, none⟩) : Value) := hA807 7 (by decide)
      refine oblc rfl rfl (show _ = (.bool true : Value) from e812) (fun _ => ?_) (fun hb => absurd rfl hb)
      have hi815 : f.toNat < t.fields.length := (by have h1 := hak.1; have h2 := hak.2.1; have h3 := hak.2.2.1; omega)
      obtain ⟨hce814, hde814_0, hoke814⟩ := hdt0.fld hi815
      rw [← getD_at default hi815] at hce814 hde814_0 hoke814
      have hsm816 : ((t.fields.getD f.toNat default).moves).length * 32 ≤ 140737488355328 := hde814_0.small
      have hcw817 := hS811.cells hce814 (hdt0.foot (ne_of_lt hi815))
      exact ov_loadk (k := 4) Try.isAgg36 Try.sizeOf36 rfl (show _ = (.pointer (some ⟨sb dt0, so dt0 + f.toNat * 4, none⟩) : Value) from e813) hcw817 (fun vals' hv _ => ⟨rfl, hv⟩)
    · intro k818 vals w819 h822 h823 hW821 hA820
      have e824 : vals 1 = (.bool true : Value) := hA820 1 (by decide)
      refine oblc rfl rfl (show _ = (.bool true : Value) from e824) (fun _ => ?_) (fun hb => absurd rfl hb)
      exact ov_move (v := vc) rfl (fun vals' hv _ => ⟨rfl, hv⟩)
    · intro k825 vals w826 h829 h830 hW828 hA827
      have e831 : vals 1 = (.bool true : Value) := hA827 1 (by decide)
      refine oblc rfl rfl (show _ = (.bool true : Value) from e831) (fun _ => ?_) (fun hb => absurd rfl hb)
      exact ov_move (v := .int .i64 (f)) rfl (fun vals' hv _ => ⟨rfl, hv⟩)
    · intro k832 vals w833 h836 h837 hW835 hA834
      have e838 : vals 1 = (.bool true : Value) := hA834 1 (by decide)
      refine oblc rfl rfl (show _ = (.bool true : Value) from e838) (fun _ => ?_) (fun hb => absurd rfl hb)
      exact ov_move (v := .int .i64 (arg)) rfl (fun vals' hv _ => ⟨rfl, hv⟩)
    · intro k839 vals w840 h843 h844 hW842 hA841
      have e845 : vals 1 = (.bool true : Value) := hA841 1 (by decide)
      have e846 : vals 8 = (.agg ((t.fields.getD f.toNat default).cells (cellV W (sb dt0) (so dt0 + f.toNat * 4 + 3))).toArray : Value) := hA841 8 (by decide)
      have e847 : vals 9 = (vc : Value) := hA841 9 (by decide)
      have e848 : vals 10 = (.int .i64 (f) : Value) := hA841 10 (by decide)
      have e849 : vals 11 = (.int .i64 (arg) : Value) := hA841 11 (by decide)
      refine oblc rfl rfl (show _ = (.bool true : Value) from e845) (fun _ => ?_) (fun hb => absurd rfl hb)
      have hi851 : f.toNat < t.fields.length := (by have h1 := hak.1; have h2 := hak.2.1; have h3 := hak.2.2.1; omega)
      obtain ⟨hce850, hde850_0, hoke850⟩ := hdt0.fld hi851
      rw [← getD_at default hi851] at hce850 hde850_0 hoke850
      have hsm852 : ((t.fields.getD f.toNat default).moves).length * 32 ≤ 140737488355328 := hde850_0.small
      have ok853 : AskR.Ok (⟨((t.fields.getD f.toNat default)), c, f, arg⟩ : AskR) := ⟨⟨(show InR ((t.fields.getD f.toNat default).kind) from hoke850.kind), (show InR ((t.fields.getD f.toNat default).policy) from hoke850.policy)⟩, (show InR (f) from (by omega)), (show InR (arg) from (by omega))⟩
      exact ov_build (parts' := [(0, .agg ((t.fields.getD f.toNat default).cells (cellV W (sb dt0) (so dt0 + f.toNat * 4 + 3))).toArray), (1, vc), (2, .int .i64 (f)), (3, .int .i64 (arg))]) (v := .agg ((⟨((t.fields.getD f.toNat default)), c, f, arg⟩ : AskR).cells (cellV W (sb dt0) (so dt0 + f.toNat * 4 + 3)) vc).toArray) (mapP ⟨rfl, (show _ = (.agg ((t.fields.getD f.toNat default).cells (cellV W (sb dt0) (so dt0 + f.toNat * 4 + 3))).toArray : Value) from e846), rfl, (show _ = (vc : Value) from e847), rfl, (show _ = (.int .i64 (f) : Value) from e848), rfl, (show _ = (.int .i64 (arg) : Value) from e849), trivial⟩) (by obtain ⟨_, _, hv854, _⟩ := hc.sl; rw [show vc = Value.slice _ _ _ from hv854]; simp [Instr.build, Instr.fill, Ev.cells, go_sem, Mv.cells, Fld.cells, Typ.cells, Prj.cells, Dcl.cells, Cel.cells, AskR.cells]) (fun vals' hv _ => ⟨rfl, hv⟩)
    · intro k708 vals w709 h712 h713 hW711 hA710
      obtain rfl : k708 = 0 := Nat.le_antisymm h713 h712
      have hS714 : Sep G W ((Blk b589 #[.func (.func 37) #[] #[], .func (.func 38) #[] #[]] 56) :: (MapH (α := Rul) m5 ruleL) :: (Blk b2 (t.cells dt0).toArray 31) :: Rs) w709 := hW711
      have e715 : vals 1 = (.bool true : Value) := hA710 1 (by decide)
      have e716 : vals 3 = (.func (.func 37) #[] #[] : Value) := hA710 3 (by decide)
      have e717 : vals 12 = (.agg ((⟨((t.fields.getD f.toNat default)), c, f, arg⟩ : AskR).cells (cellV W (sb dt0) (so dt0 + f.toNat * 4 + 3)) vc).toArray : Value) := hA710 12 (by decide)
      refine oblc rfl rfl (show _ = (.bool true : Value) from e715) (fun _ => ?_) (fun hb => absurd rfl hb)
      have hi719 : f.toNat < t.fields.length := (by have h1 := hak.1; have h2 := hak.2.1; have h3 := hak.2.2.1; omega)
      obtain ⟨hce718, hde718_0, hoke718⟩ := hdt0.fld hi719
      rw [← getD_at default hi719] at hce718 hde718_0 hoke718
      have hsm720 : ((t.fields.getD f.toNat default).moves).length * 32 ≤ 140737488355328 := hde718_0.small
      have hcw721 := hS714.cells hce718 (hdt0.foot (ne_of_lt hi719))
      have ok722 : AskR.Ok (⟨((t.fields.getD f.toNat default)), c, f, arg⟩ : AskR) := ⟨⟨(show InR ((t.fields.getD f.toNat default).kind) from hoke718.kind), (show InR ((t.fields.getD f.toNat default).policy) from hoke718.policy)⟩, (show InR (f) from (by omega)), (show InR (arg) from (by omega))⟩
      refine (ov_call (f := 37) (vals := [.agg ((⟨((t.fields.getD f.toNat default)), c, f, arg⟩ : AskR).cells (cellV W (sb dt0) (so dt0 + f.toNat * 4 + 3)) vc).toArray]) (cap := []) (show _ = (.func (.func 37) #[] #[] : Value) from e716) (mapL ⟨(show _ = (.agg ((⟨((t.fields.getD f.toNat default)), c, f, arg⟩ : AskR).cells (cellV W (sb dt0) (so dt0 + f.toNat * 4 + 3)) vc).toArray : Value) from e717), trivial⟩) Try.call37 (D_mayAdd (a := (⟨((t.fields.getD f.toNat default)), c, f, arg⟩ : AskR)) hde718_0 hc ok722 hS714 (⟨hak.1, hak.2.2.1⟩) (hak.2.2.2.1 (.inl hop))) ?_)
      rintro _ w723 ⟨rfl, hS724⟩
      intro vals' hv hv'
      refine ⟨?_, trivial⟩
      show (vals' 13 = (.bool (mayB (⟨((t.fields.getD f.toNat default)), c, f, arg⟩ : AskR).fld (⟨((t.fields.getD f.toNat default)), c, f, arg⟩ : AskR).cls (celAt (⟨((t.fields.getD f.toNat default)), c, f, arg⟩ : AskR).cls (⟨((t.fields.getD f.toNat default)), c, f, arg⟩ : AskR).no) 3 (⟨((t.fields.getD f.toNat default)), c, f, arg⟩ : AskR).arg) : Value)) ∧ Sep G W ((Blk b589 #[.func (.func 37) #[] #[], .func (.func 38) #[] #[]] 56) :: (MapH (α := Rul) m5 ruleL) :: (Blk b2 (t.cells dt0).toArray 31) :: Rs) w723
      exact ⟨hv, hS724⟩
    · intro k855 vals w856 h859 h860 hW858 hA857
      obtain rfl : k855 = 1 := Nat.le_antisymm h860 h859
      obtain ⟨he725, hS861⟩ : (vals 13 = (.bool (mayB (⟨((t.fields.getD f.toNat default)), c, f, arg⟩ : AskR).fld (⟨((t.fields.getD f.toNat default)), c, f, arg⟩ : AskR).cls (celAt (⟨((t.fields.getD f.toNat default)), c, f, arg⟩ : AskR).cls (⟨((t.fields.getD f.toNat default)), c, f, arg⟩ : AskR).no) 3 (⟨((t.fields.getD f.toNat default)), c, f, arg⟩ : AskR).arg) : Value)) ∧ Sep G W ((Blk b589 #[.func (.func 37) #[] #[], .func (.func 38) #[] #[]] 56) :: (MapH (α := Rul) m5 ruleL) :: (Blk b2 (t.cells dt0).toArray 31) :: Rs) w856 := hW858
      have e862 : vals 1 = (.bool true : Value) := hA857 1 (by decide)
      refine oblc rfl rfl (show _ = (.bool true : Value) from e862) (fun _ => ?_) (fun hb => absurd rfl hb)
      exact ov_not (a := mayB (⟨((t.fields.getD f.toNat default)), c, f, arg⟩ : AskR).fld (⟨((t.fields.getD f.toNat default)), c, f, arg⟩ : AskR).cls (celAt (⟨((t.fields.getD f.toNat default)), c, f, arg⟩ : AskR).cls (⟨((t.fields.getD f.toNat default)), c, f, arg⟩ : AskR).no) 3 (⟨((t.fields.getD f.toNat default)), c, f, arg⟩ : AskR).arg) (show _ = (.bool (mayB (⟨((t.fields.getD f.toNat default)), c, f, arg⟩ : AskR).fld (⟨((t.fields.getD f.toNat default)), c, f, arg⟩ : AskR).cls (celAt (⟨((t.fields.getD f.toNat default)), c, f, arg⟩ : AskR).cls (⟨((t.fields.getD f.toNat default)), c, f, arg⟩ : AskR).no) 3 (⟨((t.fields.getD f.toNat default)), c, f, arg⟩ : AskR).arg) : Value) from he725) (fun vals' hv _ => ⟨rfl, hv⟩)
    · intro k863 vals w864 h867 h868 hW866 hA865
      have e869 : vals 1 = (.bool true : Value) := hA865 1 (by decide)
      have e870 : vals 14 = (.bool (!(mayB (⟨((t.fields.getD f.toNat default)), c, f, arg⟩ : AskR).fld (⟨((t.fields.getD f.toNat default)), c, f, arg⟩ : AskR).cls (celAt (⟨((t.fields.getD f.toNat default)), c, f, arg⟩ : AskR).cls (⟨((t.fields.getD f.toNat default)), c, f, arg⟩ : AskR).no) 3 (⟨((t.fields.getD f.toNat default)), c, f, arg⟩ : AskR).arg)) : Value) := hA865 14 (by decide)
      refine obl rfl ?_
      exact ov_pick_t (v := .bool (!(mayB (⟨((t.fields.getD f.toNat default)), c, f, arg⟩ : AskR).fld (⟨((t.fields.getD f.toNat default)), c, f, arg⟩ : AskR).cls (celAt (⟨((t.fields.getD f.toNat default)), c, f, arg⟩ : AskR).cls (⟨((t.fields.getD f.toNat default)), c, f, arg⟩ : AskR).no) 3 (⟨((t.fields.getD f.toNat default)), c, f, arg⟩ : AskR).arg))) (show _ = (.bool true : Value) from e869) (show _ = (.bool (!(mayB (⟨((t.fields.getD f.toNat default)), c, f, arg⟩ : AskR).fld (⟨((t.fields.getD f.toNat default)), c, f, arg⟩ : AskR).cls (celAt (⟨((t.fields.getD f.toNat default)), c, f, arg⟩ : AskR).cls (⟨((t.fields.getD f.toNat default)), c, f, arg⟩ : AskR).no) 3 (⟨((t.fields.getD f.toNat default)), c, f, arg⟩ : AskR).arg)) : Value) from e870) (fun vals' hv _ => ⟨rfl, hv⟩)
    intro vals w871 hW872 hA873
    obtain ⟨he725, hS874⟩ : (vals 13 = (.bool (mayB (⟨((t.fields.getD f.toNat default)), c, f, arg⟩ : AskR).fld (⟨((t.fields.getD f.toNat default)), c, f, arg⟩ : AskR).cls (celAt (⟨((t.fields.getD f.toNat default)), c, f, arg⟩ : AskR).cls (⟨((t.fields.getD f.toNat default)), c, f, arg⟩ : AskR).no) 3 (⟨((t.fields.getD f.toNat default)), c, f, arg⟩ : AskR).arg) : Value)) ∧ Sep G W ((Blk b589 #[.func (.func 37) #[] #[], .func (.func 38) #[] #[]] 56) :: (MapH (α := Rul) m5 ruleL) :: (Blk b2 (t.cells dt0).toArray 31) :: Rs) w871 := hW872
    have e875 : vals 15 = (.bool (!(mayB (⟨((t.fields.getD f.toNat default)), c, f, arg⟩ : AskR).fld (⟨((t.fields.getD f.toNat default)), c, f, arg⟩ : AskR).cls (celAt (⟨((t.fields.getD f.toNat default)), c, f, arg⟩ : AskR).cls (⟨((t.fields.getD f.toNat default)), c, f, arg⟩ : AskR).no) 3 (⟨((t.fields.getD f.toNat default)), c, f, arg⟩ : AskR).arg)) : Value) := hA873 15 (by decide)
    refine st_env (kv := [(0, .agg (t.cells dt0).toArray), (1, vc), (2, .int .i64 (f)), (3, .int .i64 (op)), (4, .int .i64 (arg)), (5, .pointer (some ⟨b2, 0, none⟩)), (10, .int .i64 (0)), (14, .map (some m5)), (15, .int .i64 (op)), (16, .tuple #[.agg #[.func (.func 37) #[] #[], .func (.func 38) #[] #[]], .bool true]), (13, .tuple #[.agg #[.func (.func 37) #[] #[], .func (.func 38) #[] #[]], .bool true]), (17, .agg #[.func (.func 37) #[] #[], .func (.func 38) #[] #[]]), (18, .bool true), (11, .pointer (some ⟨b589, 0, none⟩)), (12, .bool true), (34, .bool (!(mayB (⟨((t.fields.getD f.toNat default)), c, f, arg⟩ : AskR).fld (⟨((t.fields.getD f.toNat default)), c, f, arg⟩ : AskR).cls (celAt (⟨((t.fields.getD f.toNat default)), c, f, arg⟩ : AskR).cls (⟨((t.fields.getD f.toNat default)), c, f, arg⟩ : AskR).no) 3 (⟨((t.fields.getD f.toNat default)), c, f, arg⟩ : AskR).arg)))]) ⟨rfl, rfl, rfl, rfl, rfl, rfl, rfl, rfl, rfl, rfl, rfl, rfl, rfl, rfl, rfl, (by exact e875), trivial⟩ (fun ρw871 => ?_)
    refine st_nil ?_
    cases hc876 : !(mayB (⟨((t.fields.getD f.toNat default)), c, f, arg⟩ : AskR).fld (⟨((t.fields.getD f.toNat default)), c, f, arg⟩ : AskR).cls (celAt (⟨((t.fields.getD f.toNat default)), c, f, arg⟩ : AskR).cls (⟨((t.fields.getD f.toNat default)), c, f, arg⟩ : AskR).no) 3 (⟨((t.fields.getD f.toNat default)), c, f, arg⟩ : AskR).arg)
    · skip
      try simp only [bools] at hc876
      refine WP_cond_f rfl ?_
      refine WP_skip ?_
      refine WP_seq ?_
      refine WP_region0 (by kernel_rfl) (fun _ => ?_)
      refine st (ov_assign (v := .int .i64 (0)) rfl ?_)
      refine st_nil ?_
      refine WP_ret ?_
      refine fin1 Try.results10 (show _ = (.int .i64 (0) : Value) from rfl) ?_
      have hS877 : Sep G W Rs w871 := hS874.sel 3 [] (Nat.le_add_left _ _) rfl rfl
      refine ⟨?_, hS877⟩
      have hm : mayB (fldAt t f) c (celAt c f) op arg = true := by rw [hop]; exact hc876
      unfold mayL
      rw [hm]
      rfl
    · skip
      try simp only [bools] at hc876
      refine WP_cond_t rfl ?_
      refine WP_seq ?_
      refine WP_region0 (by kernel_rfl) (fun _ => ?_)
      refine st (ov_assign (v := .int .i64 (10)) rfl ?_)
      refine st_nil ?_
      refine WP_ret ?_
      refine fin1 Try.results10 (show _ = (.int .i64 (10) : Value) from rfl) ?_
      have hS878 : Sep G W Rs w871 := hS874.sel 3 [] (Nat.le_add_left _ _) rfl rfl
      refine ⟨?_, hS878⟩
      have hm : mayB (fldAt t f) c (celAt c f) op arg = false := by rw [hop]; exact hc876
      unfold mayL
      rw [hm]
      rfl
  · skip
    refine st (ov_lookupSome (α := Rul) (a := ⟨35, 39⟩) Try.underlying58 Try.underlying3 rfl rfl (hS7.map_ (i := 0) rfl) (by rw [hop]; rfl) ?_)
    rintro _ rfl
    refine st (ov_move (v := .tuple #[.agg #[.func (.func 35) #[] #[], .func (.func 39) #[] #[]], .bool true]) rfl ?_)
    refine st (ov_extract (vs := [.agg #[.func (.func 35) #[] #[], .func (.func 39) #[] #[]], .bool true]) (i := 0) (v := .agg #[.func (.func 35) #[] #[], .func (.func 39) #[] #[]]) rfl rfl ?_)
    refine st (ov_extract (vs := [.agg #[.func (.func 35) #[] #[], .func (.func 39) #[] #[]], .bool true]) (i := 1) (v := .bool true) rfl rfl ?_)
    refine st (ov_alloc Try.zeroValue56 ?_)
    intro w881 b880 hn879
    have hS882 : Sep G W ((Blk b880 #[.nilFunc, .nilFunc] 56) :: (MapH (α := Rul) m5 ruleL) :: (Blk b2 (t.cells dt0).toArray 31) :: Rs) w881 := hS7.new hn879
    refine stn (ov_store (v := .agg #[.func (.func 35) #[] #[], .func (.func 39) #[] #[]]) (c' := #[.func (.func 35) #[] #[], .func (.func 39) #[] #[]]) Try.sizeOf56 rfl rfl (hS882.blk (i := 0) rfl) (all1 ⟨rfl, rfl, trivial⟩) (Nat.le_of_ble_eq_true rfl) rfl ?_)
    intro w883 hp884
    have hS885 : Sep G W ((Blk b880 #[.func (.func 35) #[] #[], .func (.func 39) #[] #[]] 56) :: (MapH (α := Rul) m5 ruleL) :: (Blk b2 (t.cells dt0).toArray 31) :: Rs) w883 := hS882.put (i := 0) rfl hp884
    refine st (ov_assign (v := .bool true) rfl ?_)
    refine st_nil ?_
    refine WP_seq ?_
    refine WP_draw4 (WF [fun vals wq => Sep G W ((Blk b880 #[.func (.func 35) #[] #[], .func (.func 39) #[] #[]] 56) :: (MapH (α := Rul) m5 ruleL) :: (Blk b2 (t.cells dt0).toArray 31) :: Rs) wq, fun vals wq => (vals 13 = (.bool true : Value)) ∧ Sep G W ((Blk b880 #[.func (.func 35) #[] #[], .func (.func 39) #[] #[]] 56) :: (MapH (α := Rul) m5 ruleL) :: (Blk b2 (t.cells dt0).toArray 31) :: Rs) wq]) (AF [fun vals => vals 0 = (.bool true : Value), fun vals => vals 1 = (.bool true : Value), fun vals => vals 2 = (.pointer (some ⟨b880, 0, none⟩) : Value), fun vals => vals 3 = (.func (.func 35) #[] #[] : Value), fun vals => vals 4 = (.pointer (some ⟨b2, 0, none⟩) : Value), fun vals => vals 5 = (dt0 : Value), fun vals => vals 6 = (.int .i64 (f) : Value), fun vals => vals 7 = (.pointer (some ⟨sb dt0, so dt0 + f.toNat * 4, none⟩) : Value), fun vals => vals 8 = (.agg ((t.fields.getD f.toNat default).cells (cellV W (sb dt0) (so dt0 + f.toNat * 4 + 3))).toArray : Value), fun vals => vals 9 = (vc : Value), fun vals => vals 10 = (.int .i64 (f) : Value), fun vals => vals 11 = (.int .i64 (arg) : Value), fun vals => vals 12 = (.agg ((⟨((t.fields.getD f.toNat default)), c, f, arg⟩ : AskR).cells (cellV W (sb dt0) (so dt0 + f.toNat * 4 + 3)) vc).toArray : Value), fun _ => True, fun vals => vals 14 = (.bool false : Value), fun vals => vals 15 = (.bool false : Value)]) [[], [0], [0, 1], [0, 1, 2], [0, 1], [0, 1, 4], [0, 1], [0, 1, 4, 5, 6], [0, 1, 4, 5, 6, 7], [0, 1], [0, 1], [0, 1], [0, 1, 4, 5, 6, 7, 8, 9, 10, 11], [0, 1, 2, 3, 4, 5, 6, 7, 8, 9, 10, 11, 12], [0, 1, 2, 3, 4, 5, 6, 7, 8, 9, 10, 11, 12, 13], [0, 1, 2, 3, 4, 5, 6, 7, 8, 9, 10, 11, 12, 13, 14]] [13] [(0, 0), (0, 0), (0, 0), (0, 0), (0, 0), (0, 0), (0, 0), (0, 0), (0, 0), (0, 0), (0, 0), (0, 0), (0, 0), (0, 0), (1, 1), (1, 1)] (by kernel_rfl) (by kernel_rfl) (by kernel_rfl) rfl (by kernel_rfl) (by kernel_rfl) (fun _ h1 h2 h3 h4 _ => hS885.same h1 h2 h3 h4) ?_ ?_ ⟨?_, ?_, ?_, ?_, ?_, ?_, ?_, ?_, ?_, ?_, ?_, ?_, ?_, ?_, ?_, ?_, trivial⟩ ?_
    · intro k vals vals' w hv h
      have e : ∀ j ∈ ([13] : List Nat), vals' j = vals j := hv
      match k, h with
      | 0, h => exact h
      | 1, h => exact (by simpa only [WF, List.getElem?_cons_zero, List.getElem?_cons_succ, e 13 (by decide)] using h)
      | _ + 2, _ => trivial
    · intro i vals vals' hv h
      match i, hv, h with
      | 0, hv, h => exact (hv 0 (.inl rfl)).trans h
      | 1, hv, h => exact (hv 1 (.inl rfl)).trans h
      | 2, hv, h => exact (hv 2 (.inl rfl)).trans h
      | 3, hv, h => exact (hv 3 (.inl rfl)).trans h
      | 4, hv, h => exact (hv 4 (.inl rfl)).trans h
      | 5, hv, h => exact (hv 5 (.inl rfl)).trans h
      | 6, hv, h => exact (hv 6 (.inl rfl)).trans h
      | 7, hv, h => exact (hv 7 (.inl rfl)).trans h
      | 8, hv, h => exact (hv 8 (.inl rfl)).trans h
      | 9, hv, h => exact (hv 9 (.inl rfl)).trans h
      | 10, hv, h => exact (hv 10 (.inl rfl)).trans h
      | 11, hv, h => exact (hv 11 (.inl rfl)).trans h
      | 12, hv, h => exact (hv 12 (.inl rfl)).trans h
      | 13, _, _ => trivial
      | 14, hv, h => exact (hv 14 (.inl rfl)).trans h
      | 15, hv, h => exact (hv 15 (.inl rfl)).trans h
      | _ + 16, _, _ => trivial
    · intro k1033 vals w1034 h1037 h1038 hW1036 hA1035
      refine obl rfl ?_
      exact ov_move (v := .bool true) rfl (fun vals' hv _ => ⟨rfl, hv⟩)
    · intro k1039 vals w1040 h1043 h1044 hW1042 hA1041
      have e1045 : vals 0 = (.bool true : Value) := hA1041 0 (by decide)
      refine obl rfl ?_
      exact ov_move (v := .bool true) (show _ = (.bool true : Value) from e1045) (fun vals' hv _ => ⟨rfl, hv⟩)
    · intro k1046 vals w1047 h1050 h1051 hW1049 hA1048
      have e1052 : vals 1 = (.bool true : Value) := hA1048 1 (by decide)
      refine oblc rfl rfl (show _ = (.bool true : Value) from e1052) (fun _ => ?_) (fun hb => absurd rfl hb)
      exact fd56_0 rfl (fun vals' hv _ => ⟨rfl, hv⟩)
    · intro k1053 vals w1054 h1057 h1058 hW1056 hA1055
      obtain rfl : k1053 = 0 := Nat.le_antisymm h1058 h1057
      have hS1059 : Sep G W ((Blk b880 #[.func (.func 35) #[] #[], .func (.func 39) #[] #[]] 56) :: (MapH (α := Rul) m5 ruleL) :: (Blk b2 (t.cells dt0).toArray 31) :: Rs) w1054 := hW1056
      have e1060 : vals 1 = (.bool true : Value) := hA1055 1 (by decide)
      have e1061 : vals 2 = (.pointer (some ⟨b880, 0, none⟩) : Value) := hA1055 2 (by decide)
      refine oblc rfl rfl (show _ = (.bool true : Value) from e1060) (fun _ => ?_) (fun hb => absurd rfl hb)
      exact ov_load1 (v := .func (.func 35) #[] #[]) Try.isAgg53 (show _ = (.pointer (some ⟨b880, 0, none⟩) : Value) from e1061) (blk_cellL (hS1059.blk (i := 0) rfl) rfl) (fun vals' hv _ => ⟨rfl, hv⟩)
    · intro k1062 vals w1063 h1066 h1067 hW1065 hA1064
      have e1068 : vals 1 = (.bool true : Value) := hA1064 1 (by decide)
      refine oblc rfl rfl (show _ = (.bool true : Value) from e1068) (fun _ => ?_) (fun hb => absurd rfl hb)
      exact fd31_0 rfl (fun vals' hv _ => ⟨rfl, hv⟩)
    · intro k1069 vals w1070 h1073 h1074 hW1072 hA1071
      obtain rfl : k1069 = 0 := Nat.le_antisymm h1074 h1073
      have hS1075 : Sep G W ((Blk b880 #[.func (.func 35) #[] #[], .func (.func 39) #[] #[]] 56) :: (MapH (α := Rul) m5 ruleL) :: (Blk b2 (t.cells dt0).toArray 31) :: Rs) w1070 := hW1072
      have e1076 : vals 1 = (.bool true : Value) := hA1071 1 (by decide)
      have e1077 : vals 4 = (.pointer (some ⟨b2, 0, none⟩) : Value) := hA1071 4 (by decide)
      refine oblc rfl rfl (show _ = (.bool true : Value) from e1076) (fun _ => ?_) (fun hb => absurd rfl hb)
      exact ov_load1 (v := dt0) Try.isAgg29 (show _ = (.pointer (some ⟨b2, 0, none⟩) : Value) from e1077) (blk_cellL (hS1075.blk (i := 2) rfl) rfl) (fun vals' hv _ => ⟨rfl, hv⟩)
    · intro k1078 vals w1079 h1082 h1083 hW1081 hA1080
      have e1084 : vals 1 = (.bool true : Value) := hA1080 1 (by decide)
      refine oblc rfl rfl (show _ = (.bool true : Value) from e1084) (fun _ => ?_) (fun hb => absurd rfl hb)
      exact ov_move (v := .int .i64 (f)) rfl (fun vals' hv _ => ⟨rfl, hv⟩)
    · intro k1085 vals w1086 h1089 h1090 hW1088 hA1087
      obtain rfl : k1085 = 0 := Nat.le_antisymm h1090 h1089
      have hS1091 : Sep G W ((Blk b880 #[.func (.func 35) #[] #[], .func (.func 39) #[] #[]] 56) :: (MapH (α := Rul) m5 ruleL) :: (Blk b2 (t.cells dt0).toArray 31) :: Rs) w1086 := hW1088
      have e1092 : vals 1 = (.bool true : Value) := hA1087 1 (by decide)
      have e1093 : vals 5 = (dt0 : Value) := hA1087 5 (by decide)
      have e1094 : vals 6 = (.int .i64 (f) : Value) := hA1087 6 (by decide)
      refine oblc rfl rfl (show _ = (.bool true : Value) from e1092) (fun _ => ?_) (fun hb => absurd rfl hb)
      have hi1095 : f.toNat < t.fields.length := (by have h1 := hak.1; have h2 := hak.2.1; have h3 := hak.2.2.1; omega)
      exact ov_indexAddr (k := 4) (i := f) Try.underlying29 Try.sizeOf36 (show _ = (dt0 : Value) from e1093) hdt0.sl (show _ = (.int .i64 (f) : Value) from e1094) ⟨by omega, by omega⟩ (fun vals' hv _ => ⟨rfl, hv⟩)
    · intro k1096 vals w1097 h1100 h1101 hW1099 hA1098
      obtain rfl : k1096 = 0 := Nat.le_antisymm h1101 h1100
      have hS1102 : Sep G W ((Blk b880 #[.func (.func 35) #[] #[], .func (.func 39) #[] #[]] 56) :: (MapH (α := Rul) m5 ruleL) :: (Blk b2 (t.cells dt0).toArray 31) :: Rs) w1097 := hW1099
      have e1103 : vals 1 = (.bool true : Value) := hA1098 1 (by decide)
      have e1104 : vals 7 = (.pointer (some ⟨sb dt0, so dt0 + f.toNat * 4, none⟩) : Value) := hA1098 7 (by decide)
      refine oblc rfl rfl (show _ = (.bool true : Value) from e1103) (fun _ => ?_) (fun hb => absurd rfl hb)
      have hi1106 : f.toNat < t.fields.length := (by have h1 := hak.1; have h2 := hak.2.1; have h3 := hak.2.2.1; omega)
      obtain ⟨hce1105, hde1105_0, hoke1105⟩ := hdt0.fld hi1106
      rw [← getD_at default hi1106] at hce1105 hde1105_0 hoke1105
      have hsm1107 : ((t.fields.getD f.toNat default).moves).length * 32 ≤ 140737488355328 := hde1105_0.small
      have hcw1108 := hS1102.cells hce1105 (hdt0.foot (ne_of_lt hi1106))
      exact ov_loadk (k := 4) Try.isAgg36 Try.sizeOf36 rfl (show _ = (.pointer (some ⟨sb dt0, so dt0 + f.toNat * 4, none⟩) : Value) from e1104) hcw1108 (fun vals' hv _ => ⟨rfl, hv⟩)
    · intro k1109 vals w1110 h1113 h1114 hW1112 hA1111
      have e1115 : vals 1 = (.bool true : Value) := hA1111 1 (by decide)
      refine oblc rfl rfl (show _ = (.bool true : Value) from e1115) (fun _ => ?_) (fun hb => absurd rfl hb)
      exact ov_move (v := vc) rfl (fun vals' hv _ => ⟨rfl, hv⟩)
    · intro k1116 vals w1117 h1120 h1121 hW1119 hA1118
      have e1122 : vals 1 = (.bool true : Value) := hA1118 1 (by decide)
      refine oblc rfl rfl (show _ = (.bool true : Value) from e1122) (fun _ => ?_) (fun hb => absurd rfl hb)
      exact ov_move (v := .int .i64 (f)) rfl (fun vals' hv _ => ⟨rfl, hv⟩)
    · intro k1123 vals w1124 h1127 h1128 hW1126 hA1125
      have e1129 : vals 1 = (.bool true : Value) := hA1125 1 (by decide)
      refine oblc rfl rfl (show _ = (.bool true : Value) from e1129) (fun _ => ?_) (fun hb => absurd rfl hb)
      exact ov_move (v := .int .i64 (arg)) rfl (fun vals' hv _ => ⟨rfl, hv⟩)
    · intro k1130 vals w1131 h1134 h1135 hW1133 hA1132
      have e1136 : vals 1 = (.bool true : Value) := hA1132 1 (by decide)
      have e1137 : vals 8 = (.agg ((t.fields.getD f.toNat default).cells (cellV W (sb dt0) (so dt0 + f.toNat * 4 + 3))).toArray : Value) := hA1132 8 (by decide)
      have e1138 : vals 9 = (vc : Value) := hA1132 9 (by decide)
      have e1139 : vals 10 = (.int .i64 (f) : Value) := hA1132 10 (by decide)
      have e1140 : vals 11 = (.int .i64 (arg) : Value) := hA1132 11 (by decide)
      refine oblc rfl rfl (show _ = (.bool true : Value) from e1136) (fun _ => ?_) (fun hb => absurd rfl hb)
      have hi1142 : f.toNat < t.fields.length := (by have h1 := hak.1; have h2 := hak.2.1; have h3 := hak.2.2.1; omega)
      obtain ⟨hce1141, hde1141_0, hoke1141⟩ := hdt0.fld hi1142
      rw [← getD_at default hi1142] at hce1141 hde1141_0 hoke1141
      have hsm1143 : ((t.fields.getD f.toNat default).moves).length * 32 ≤ 140737488355328 := hde1141_0.small
      have ok1144 : AskR.Ok (⟨((t.fields.getD f.toNat default)), c, f, arg⟩ : AskR) := ⟨⟨(show InR ((t.fields.getD f.toNat default).kind) from hoke1141.kind), (show InR ((t.fields.getD f.toNat default).policy) from hoke1141.policy)⟩, (show InR (f) from (by omega)), (show InR (arg) from (by omega))⟩
      exact ov_build (parts' := [(0, .agg ((t.fields.getD f.toNat default).cells (cellV W (sb dt0) (so dt0 + f.toNat * 4 + 3))).toArray), (1, vc), (2, .int .i64 (f)), (3, .int .i64 (arg))]) (v := .agg ((⟨((t.fields.getD f.toNat default)), c, f, arg⟩ : AskR).cells (cellV W (sb dt0) (so dt0 + f.toNat * 4 + 3)) vc).toArray) (mapP ⟨rfl, (show _ = (.agg ((t.fields.getD f.toNat default).cells (cellV W (sb dt0) (so dt0 + f.toNat * 4 + 3))).toArray : Value) from e1137), rfl, (show _ = (vc : Value) from e1138), rfl, (show _ = (.int .i64 (f) : Value) from e1139), rfl, (show _ = (.int .i64 (arg) : Value) from e1140), trivial⟩) (by obtain ⟨_, _, hv1145, _⟩ := hc.sl; rw [show vc = Value.slice _ _ _ from hv1145]; simp [Instr.build, Instr.fill, Ev.cells, go_sem, Mv.cells, Fld.cells, Typ.cells, Prj.cells, Dcl.cells, Cel.cells, AskR.cells]) (fun vals' hv _ => ⟨rfl, hv⟩)
    · intro k999 vals w1000 h1003 h1004 hW1002 hA1001
      obtain rfl : k999 = 0 := Nat.le_antisymm h1004 h1003
      have hS1005 : Sep G W ((Blk b880 #[.func (.func 35) #[] #[], .func (.func 39) #[] #[]] 56) :: (MapH (α := Rul) m5 ruleL) :: (Blk b2 (t.cells dt0).toArray 31) :: Rs) w1000 := hW1002
      have e1006 : vals 1 = (.bool true : Value) := hA1001 1 (by decide)
      have e1007 : vals 3 = (.func (.func 35) #[] #[] : Value) := hA1001 3 (by decide)
      have e1008 : vals 12 = (.agg ((⟨((t.fields.getD f.toNat default)), c, f, arg⟩ : AskR).cells (cellV W (sb dt0) (so dt0 + f.toNat * 4 + 3)) vc).toArray : Value) := hA1001 12 (by decide)
      refine oblc rfl rfl (show _ = (.bool true : Value) from e1006) (fun _ => ?_) (fun hb => absurd rfl hb)
      have hi1010 : f.toNat < t.fields.length := (by have h1 := hak.1; have h2 := hak.2.1; have h3 := hak.2.2.1; omega)
      obtain ⟨hce1009, hde1009_0, hoke1009⟩ := hdt0.fld hi1010
      rw [← getD_at default hi1010] at hce1009 hde1009_0 hoke1009
      have hsm1011 : ((t.fields.getD f.toNat default).moves).length * 32 ≤ 140737488355328 := hde1009_0.small
      have hcw1012 := hS1005.cells hce1009 (hdt0.foot (ne_of_lt hi1010))
      have ok1013 : AskR.Ok (⟨((t.fields.getD f.toNat default)), c, f, arg⟩ : AskR) := ⟨⟨(show InR ((t.fields.getD f.toNat default).kind) from hoke1009.kind), (show InR ((t.fields.getD f.toNat default).policy) from hoke1009.policy)⟩, (show InR (f) from (by omega)), (show InR (arg) from (by omega))⟩
      refine (ov_call (f := 35) (vals := [.agg ((⟨((t.fields.getD f.toNat default)), c, f, arg⟩ : AskR).cells (cellV W (sb dt0) (so dt0 + f.toNat * 4 + 3)) vc).toArray]) (cap := []) (show _ = (.func (.func 35) #[] #[] : Value) from e1007) (mapL ⟨(show _ = (.agg ((⟨((t.fields.getD f.toNat default)), c, f, arg⟩ : AskR).cells (cellV W (sb dt0) (so dt0 + f.toNat * 4 + 3)) vc).toArray : Value) from e1008), trivial⟩) Try.call35 (D_always (a := (⟨((t.fields.getD f.toNat default)), c, f, arg⟩ : AskR)) hde1009_0 hc ok1013 hS1005) ?_)
      rintro _ w1014 ⟨rfl, hS1015⟩
      intro vals' hv hv'
      refine ⟨?_, trivial⟩
      show (vals' 13 = (.bool true : Value)) ∧ Sep G W ((Blk b880 #[.func (.func 35) #[] #[], .func (.func 39) #[] #[]] 56) :: (MapH (α := Rul) m5 ruleL) :: (Blk b2 (t.cells dt0).toArray 31) :: Rs) w1014
      exact ⟨hv, hS1015⟩
    · intro k1146 vals w1147 h1150 h1151 hW1149 hA1148
      obtain rfl : k1146 = 1 := Nat.le_antisymm h1151 h1150
      obtain ⟨he1016, hS1152⟩ : (vals 13 = (.bool true : Value)) ∧ Sep G W ((Blk b880 #[.func (.func 35) #[] #[], .func (.func 39) #[] #[]] 56) :: (MapH (α := Rul) m5 ruleL) :: (Blk b2 (t.cells dt0).toArray 31) :: Rs) w1147 := hW1149
      have e1153 : vals 1 = (.bool true : Value) := hA1148 1 (by decide)
      refine oblc rfl rfl (show _ = (.bool true : Value) from e1153) (fun _ => ?_) (fun hb => absurd rfl hb)
      exact ov_not (a := true) (show _ = (.bool true : Value) from he1016) (fun vals' hv _ => ⟨rfl, hv⟩)
    · intro k1154 vals w1155 h1158 h1159 hW1157 hA1156
      have e1160 : vals 1 = (.bool true : Value) := hA1156 1 (by decide)
      have e1161 : vals 14 = (.bool false : Value) := hA1156 14 (by decide)
      refine obl rfl ?_
      exact ov_pick_t (v := .bool false) (show _ = (.bool true : Value) from e1160) (show _ = (.bool false : Value) from e1161) (fun vals' hv _ => ⟨rfl, hv⟩)
    intro vals w1162 hW1163 hA1164
    obtain ⟨he1016, hS1165⟩ : (vals 13 = (.bool true : Value)) ∧ Sep G W ((Blk b880 #[.func (.func 35) #[] #[], .func (.func 39) #[] #[]] 56) :: (MapH (α := Rul) m5 ruleL) :: (Blk b2 (t.cells dt0).toArray 31) :: Rs) w1162 := hW1163
    have e1166 : vals 15 = (.bool false : Value) := hA1164 15 (by decide)
    refine st_env (kv := [(0, .agg (t.cells dt0).toArray), (1, vc), (2, .int .i64 (f)), (3, .int .i64 (op)), (4, .int .i64 (arg)), (5, .pointer (some ⟨b2, 0, none⟩)), (10, .int .i64 (0)), (14, .map (some m5)), (15, .int .i64 (op)), (16, .tuple #[.agg #[.func (.func 35) #[] #[], .func (.func 39) #[] #[]], .bool true]), (13, .tuple #[.agg #[.func (.func 35) #[] #[], .func (.func 39) #[] #[]], .bool true]), (17, .agg #[.func (.func 35) #[] #[], .func (.func 39) #[] #[]]), (18, .bool true), (11, .pointer (some ⟨b880, 0, none⟩)), (12, .bool true), (34, .bool false)]) ⟨rfl, rfl, rfl, rfl, rfl, rfl, rfl, rfl, rfl, rfl, rfl, rfl, rfl, rfl, rfl, (by exact e1166), trivial⟩ (fun ρw1162 => ?_)
    refine st_nil ?_
    refine WP_cond_f rfl ?_
    refine WP_skip ?_
    refine WP_seq ?_
    refine WP_region0 (by kernel_rfl) (fun _ => ?_)
    refine st (ov_assign (v := .int .i64 (0)) rfl ?_)
    refine st_nil ?_
    refine WP_ret ?_
    refine fin1 Try.results10 (show _ = (.int .i64 (0) : Value) from rfl) ?_
    have hS1167 : Sep G W Rs w1162 := hS1165.sel 3 [] (Nat.le_add_left _ _) rfl rfl
    refine ⟨?_, hS1167⟩
    have hm : mayB (fldAt t f) c (celAt c f) op arg = true := by rw [hop]; rfl
    unfold mayL
    rw [hm]
    rfl
  · skip
    refine st (ov_lookupSome (α := Rul) (a := ⟨40, 41⟩) Try.underlying58 Try.underlying3 rfl rfl (hS7.map_ (i := 0) rfl) (by rw [hop]; rfl) ?_)
    rintro _ rfl
    refine st (ov_move (v := .tuple #[.agg #[.func (.func 40) #[] #[], .func (.func 41) #[] #[]], .bool true]) rfl ?_)
    refine st (ov_extract (vs := [.agg #[.func (.func 40) #[] #[], .func (.func 41) #[] #[]], .bool true]) (i := 0) (v := .agg #[.func (.func 40) #[] #[], .func (.func 41) #[] #[]]) rfl rfl ?_)
    refine st (ov_extract (vs := [.agg #[.func (.func 40) #[] #[], .func (.func 41) #[] #[]], .bool true]) (i := 1) (v := .bool true) rfl rfl ?_)
    refine st (ov_alloc Try.zeroValue56 ?_)
    intro w1170 b1169 hn1168
    have hS1171 : Sep G W ((Blk b1169 #[.nilFunc, .nilFunc] 56) :: (MapH (α := Rul) m5 ruleL) :: (Blk b2 (t.cells dt0).toArray 31) :: Rs) w1170 := hS7.new hn1168
    refine stn (ov_store (v := .agg #[.func (.func 40) #[] #[], .func (.func 41) #[] #[]]) (c' := #[.func (.func 40) #[] #[], .func (.func 41) #[] #[]]) Try.sizeOf56 rfl rfl (hS1171.blk (i := 0) rfl) (all1 ⟨rfl, rfl, trivial⟩) (Nat.le_of_ble_eq_true rfl) rfl ?_)
    intro w1172 hp1173
    have hS1174 : Sep G W ((Blk b1169 #[.func (.func 40) #[] #[], .func (.func 41) #[] #[]] 56) :: (MapH (α := Rul) m5 ruleL) :: (Blk b2 (t.cells dt0).toArray 31) :: Rs) w1172 := hS1171.put (i := 0) rfl hp1173
    refine st (ov_assign (v := .bool true) rfl ?_)
    refine st_nil ?_
    refine WP_seq ?_
    refine WP_draw4 (WF [fun vals wq => Sep G W ((Blk b1169 #[.func (.func 40) #[] #[], .func (.func 41) #[] #[]] 56) :: (MapH (α := Rul) m5 ruleL) :: (Blk b2 (t.cells dt0).toArray 31) :: Rs) wq, fun vals wq => (vals 13 = (.bool (mayB (⟨((t.fields.getD f.toNat default)), c, f, arg⟩ : AskR).fld (⟨((t.fields.getD f.toNat default)), c, f, arg⟩ : AskR).cls (celAt (⟨((t.fields.getD f.toNat default)), c, f, arg⟩ : AskR).cls (⟨((t.fields.getD f.toNat default)), c, f, arg⟩ : AskR).no) 5 (⟨((t.fields.getD f.toNat default)), c, f, arg⟩ : AskR).arg) : Value)) ∧ Sep G W ((Blk b1169 #[.func (.func 40) #[] #[], .func (.func 41) #[] #[]] 56) :: (MapH (α := Rul) m5 ruleL) :: (Blk b2 (t.cells dt0).toArray 31) :: Rs) wq]) (AF [fun vals => vals 0 = (.bool true : Value), fun vals => vals 1 = (.bool true : Value), fun vals => vals 2 = (.pointer (some ⟨b1169, 0, none⟩) : Value), fun vals => vals 3 = (.func (.func 40) #[] #[] : Value), fun vals => vals 4 = (.pointer (some ⟨b2, 0, none⟩) : Value), fun vals => vals 5 = (dt0 : Value), fun vals => vals 6 = (.int .i64 (f) : Value), fun vals => vals 7 = (.pointer (some ⟨sb dt0, so dt0 + f.toNat * 4, none⟩) : Value), fun vals => vals 8 = (.agg ((t.fields.getD f.toNat default).cells (cellV W (sb dt0) (so dt0 + f.toNat * 4 + 3))).toArray : Value), fun vals => vals 9 = (vc : Value), fun vals => vals 10 = (.int .i64 (f) : Value), fun vals => vals 11 = (.int .i64 (arg) : Value), fun vals => vals 12 = (.agg ((⟨((t.fields.getD f.toNat default)), c, f, arg⟩ : AskR).cells (cellV W (sb dt0) (so dt0 + f.toNat * 4 + 3)) vc).toArray : Value), fun _ => True, fun vals => vals 14 = (.bool (!(mayB (⟨((t.fields.getD f.toNat default)), c, f, arg⟩ : AskR).fld (⟨((t.fields.getD f.toNat default)), c, f, arg⟩ : AskR).cls (celAt (⟨((t.fields.getD f.toNat default)), c, f, arg⟩ : AskR).cls (⟨((t.fields.getD f.toNat default)), c, f, arg⟩ : AskR).no) 5 (⟨((t.fields.getD f.toNat default)), c, f, arg⟩ : AskR).arg)) : Value), fun vals => vals 15 = (.bool (!(mayB (⟨((t.fields.getD f.toNat default)), c, f, arg⟩ : AskR).fld (⟨((t.fields.getD f.toNat default)), c, f, arg⟩ : AskR).cls (celAt (⟨((t.fields.getD f.toNat default)), c, f, arg⟩ : AskR).cls (⟨((t.fields.getD f.toNat default)), c, f, arg⟩ : AskR).no) 5 (⟨((t.fields.getD f.toNat default)), c, f, arg⟩ : AskR).arg)) : Value)]) [[], [0], [0, 1], [0, 1, 2], [0, 1], [0, 1, 4], [0, 1], [0, 1, 4, 5, 6], [0, 1, 4, 5, 6, 7], [0, 1], [0, 1], [0, 1], [0, 1, 4, 5, 6, 7, 8, 9, 10, 11], [0, 1, 2, 3, 4, 5, 6, 7, 8, 9, 10, 11, 12], [0, 1, 2, 3, 4, 5, 6, 7, 8, 9, 10, 11, 12, 13], [0, 1, 2, 3, 4, 5, 6, 7, 8, 9, 10, 11, 12, 13, 14]] [13] [(0, 0), (0, 0), (0, 0), (0, 0), (0, 0), (0, 0), (0, 0), (0, 0), (0, 0), (0, 0), (0, 0), (0, 0), (0, 0), (0, 0), (1, 1), (1, 1)] (by kernel_rfl) (by kernel_rfl) (by kernel_rfl) rfl (by kernel_rfl) (by kernel_rfl) (fun _ h1 h2 h3 h4 _ => hS1174.same h1 h2 h3 h4) ?_ ?_ ⟨?_, ?_, ?_, ?_, ?_, ?_, ?_, ?_, ?_, ?_, ?_, ?_, ?_, ?_, ?_, ?_, trivial⟩ ?_
    · intro k vals vals' w hv h
      have e : ∀ j ∈ ([13] : List Nat), vals' j = vals j := hv
      match k, h with
      | 0, h => exact h
      | 1, h => exact (by simpa only [WF, List.getElem?_cons_zero, List.getElem?_cons_succ, e 13 (by decide)] using h)
      | _ + 2, _ => trivial
    · intro i vals vals' hv h
      match i, hv, h with
      | 0, hv, h => exact (hv 0 (.inl rfl)).trans h
      | 1, hv, h => exact (hv 1 (.inl rfl)).trans h
      | 2, hv, h => exact (hv 2 (.inl rfl)).trans h
      | 3, hv, h => exact (hv 3 (.inl rfl)).trans h
      | 4, hv, h => exact (hv 4 (.inl rfl)).trans h
      | 5, hv, h => exact (hv 5 (.inl rfl)).trans h
      | 6, hv, h => exact (hv 6 (.inl rfl)).trans h
      | 7, hv, h => exact (hv 7 (.inl rfl)).trans h
      | 8, hv, h => exact (hv 8 (.inl rfl)).trans h
      | 9, hv, h => exact (hv 9 (.inl rfl)).trans h
      | 10, hv, h => exact (hv 10 (.inl rfl)).trans h
      | 11, hv, h => exact (hv 11 (.inl rfl)).trans h
      | 12, hv, h => exact (hv 12 (.inl rfl)).trans h
      | 13, _, _ => trivial
      | 14, hv, h => exact (hv 14 (.inl rfl)).trans h
      | 15, hv, h => exact (hv 15 (.inl rfl)).trans h
      | _ + 16, _, _ => trivial
    · intro k1322 vals w1323 h1326 h1327 hW1325 hA1324
      refine obl rfl ?_
      exact ov_move (v := .bool true) rfl (fun vals' hv _ => ⟨rfl, hv⟩)
    · intro k1328 vals w1329 h1332 h1333 hW1331 hA1330
      have e1334 : vals 0 = (.bool true : Value) := hA1330 0 (by decide)
      refine obl rfl ?_
      exact ov_move (v := .bool true) (show _ = (.bool true : Value) from e1334) (fun vals' hv _ => ⟨rfl, hv⟩)
    · intro k1335 vals w1336 h1339 h1340 hW1338 hA1337
      have e1341 : vals 1 = (.bool true : Value) := hA1337 1 (by decide)
      refine oblc rfl rfl (show _ = (.bool true : Value) from e1341) (fun _ => ?_) (fun hb => absurd rfl hb)
      exact fd56_0 rfl (fun vals' hv _ => ⟨rfl, hv⟩)
    · intro k1342 vals w1343 h1346 h1347 hW1345 hA1344
      obtain rfl : k1342 = 0 := Nat.le_antisymm h1347 h1346
      have hS1348 : Sep G W ((Blk b1169 #[.func (.func 40) #[] #[], .func (.func 41) #[] #[]] 56) :: (MapH (α := Rul) m5 ruleL) :: (Blk b2 (t.cells dt0).toArray 31) :: Rs) w1343 := hW1345
      have e1349 : vals 1 = (.bool true : Value) := hA1344 1 (by decide)
      have e1350 : vals 2 = (.pointer (some ⟨b1169, 0, none⟩) : Value) := hA1344 2 (by decide)
      refine oblc rfl rfl (show _ = (.bool true : Value) from e1349) (fun _ => ?_) (fun hb => absurd rfl hb)
      exact ov_load1 (v := .func (.func 40) #[] #[]) Try.isAgg53 (show _ = (.pointer (some ⟨b1169, 0, none⟩) : Value) from e1350) (blk_cellL (hS1348.blk (i := 0) rfl) rfl) (fun vals' hv _ => ⟨rfl, hv⟩)
    · intro k1351 vals w1352 h1355 h1356 hW1354 hA1353
      have e1357 : vals 1 = (.bool true : Value) := hA1353 1 (by decide)
      refine oblc rfl rfl (show _ = (.bool true : Value) from e1357) (fun _ => ?_) (fun hb => absurd rfl hb)
      exact fd31_0 rfl (fun vals' hv _ => ⟨rfl, hv⟩)
    · intro k1358 vals w1359 h1362 h1363 hW1361 hA1360
      obtain rfl : k1358 = 0 := Nat.le_antisymm h1363 h1362
      have hS1364 : Sep G W ((Blk b1169 #[.func (.func 40) #[] #[], .func (.func 41) #[] #[]] 56) :: (MapH (α := Rul) m5 ruleL) :: (Blk b2 (t.cells dt0).toArray 31) :: Rs) w1359 := hW1361
      have e1365 : vals 1 = (.bool true : Value) := hA1360 1 (by decide)
      have e1366 : vals 4 = (.pointer (some ⟨b2, 0, none⟩) : Value) := hA1360 4 (by decide)
      refine oblc rfl rfl (show _ = (.bool true : Value) from e1365) (fun _ => ?_) (fun hb => absurd rfl hb)
      exact ov_load1 (v := dt0) Try.isAgg29 (show _ = (.pointer (some ⟨b2, 0, none⟩) : Value) from e1366) (blk_cellL (hS1364.blk (i := 2) rfl) rfl) (fun vals' hv _ => ⟨rfl, hv⟩)
    · intro k1367 vals w1368 h1371 h1372 hW1370 hA1369
      have e1373 : vals 1 = (.bool true : Value) := hA1369 1 (by decide)
      refine oblc rfl rfl (show _ = (.bool true : Value) from e1373) (fun _ => ?_) (fun hb => absurd rfl hb)
      exact ov_move (v := .int .i64 (f)) rfl (fun vals' hv _ => ⟨rfl, hv⟩)
    · intro k1374 vals w1375 h1378 h1379 hW1377 hA1376
      obtain rfl : k1374 = 0 := Nat.le_antisymm h1379 h1378
      have hS1380 : Sep G W ((Blk b1169 #[.func (.func 40) #[] #[], .func (.func 41) #[] #[]] 56) :: (MapH (α := Rul) m5 ruleL) :: (Blk b2 (t.cells dt0).toArray 31) :: Rs) w1375 := hW1377
      have e1381 : vals 1 = (.bool true : Value) := hA1376 1 (by decide)
      have e1382 : vals 5 = (dt0 : Value) := hA1376 5 (by decide)
      have e1383 : vals 6 = (.int .i64 (f) : Value) := hA1376 6 (by decide)
      refine oblc rfl rfl (show _ = (.bool true : Value) from e1381) (fun _ => ?_) (fun hb => absurd rfl hb)
      have hi1384 : f.toNat < t.fields.length := (by have h1 := hak.1; have h2 := hak.2.1; have h3 := hak.2.2.1; omega)
      exact ov_indexAddr (k := 4) (i := f) Try.underlying29 Try.sizeOf36 (show _ = (dt0 : Value) from e1382) hdt0.sl (show _ = (.int .i64 (f) : Value) from e1383) ⟨by omega, by omega⟩ (fun vals' hv _ => ⟨rfl, hv⟩)
    · intro k1385 vals w1386 h1389 h1390 hW1388 hA1387
      obtain rfl : k1385 = 0 := Nat.le_antisymm h1390 h1389
      have hS1391 : Sep G W ((Blk b1169 #[.func (.func 40) #[] #[], .func (.func 41) #[] #[]] 56) :: (MapH (α := Rul) m5 ruleL) :: (Blk b2 (t.cells dt0).toArray 31) :: Rs) w1386 := hW1388
      have e1392 : vals 1 = (.bool true : Value) := hA1387 1 (by decide)
      have e1393 : vals 7 = (.pointer (some ⟨sb dt0, so dt0 + f.toNat * 4, none⟩) : Value) := hA1387 7 (by decide)
      refine oblc rfl rfl (show _ = (.bool true : Value) from e1392) (fun _ => ?_) (fun hb => absurd rfl hb)
      have hi1395 : f.toNat < t.fields.length := (by have h1 := hak.1; have h2 := hak.2.1; have h3 := hak.2.2.1; omega)
      obtain ⟨hce1394, hde1394_0, hoke1394⟩ := hdt0.fld hi1395
      rw [← getD_at default hi1395] at hce1394 hde1394_0 hoke1394
      have hsm1396 : ((t.fields.getD f.toNat default).moves).length * 32 ≤ 140737488355328 := hde1394_0.small
      have hcw1397 := hS1391.cells hce1394 (hdt0.foot (ne_of_lt hi1395))
      exact ov_loadk (k := 4) Try.isAgg36 Try.sizeOf36 rfl (show _ = (.pointer (some ⟨sb dt0, so dt0 + f.toNat * 4, none⟩) : Value) from e1393) hcw1397 (fun vals' hv _ => ⟨rfl, hv⟩)
    · intro k1398 vals w1399 h1402 h1403 hW1401 hA1400
      have e1404 : vals 1 = (.bool true : Value) := hA1400 1 (by decide)
      refine oblc rfl rfl (show _ = (.bool true : Value) from e1404) (fun _ => ?_) (fun hb => absurd rfl hb)
      exact ov_move (v := vc) rfl (fun vals' hv _ => ⟨rfl, hv⟩)
    · intro k1405 vals w1406 h1409 h1410 hW1408 hA1407
      have e1411 : vals 1 = (.bool true : Value) := hA1407 1 (by decide)
      refine oblc rfl rfl (show _ = (.bool true : Value) from e1411) (fun _ => ?_) (fun hb => absurd rfl hb)
      exact ov_move (v := .int .i64 (f)) rfl (fun vals' hv _ => ⟨rfl, hv⟩)
    · intro k1412 vals w1413 h1416 h1417 hW1415 hA1414
      have e1418 : vals 1 = (.bool true : Value) := hA1414 1 (by decide)
      refine oblc rfl rfl (show _ = (.bool true : Value) from e1418) (fun _ => ?_) (fun hb => absurd rfl hb)
      exact ov_move (v := .int .i64 (arg)) rfl (fun vals' hv _ => ⟨rfl, hv⟩)
    · intro k1419 vals w1420 h1423 h1424 hW1422 hA1421
      have e1425 : vals 1 = (.bool true : Value) := hA1421 1 (by decide)
      have e1426 : vals 8 = (.agg ((t.fields.getD f.toNat default).cells (cellV W (sb dt0) (so dt0 + f.toNat * 4 + 3))).toArray : Value) := hA1421 8 (by decide)
      have e1427 : vals 9 = (vc : Value) := hA1421 9 (by decide)
      have e1428 : vals 10 = (.int .i64 (f) : Value) := hA1421 10 (by decide)
      have e1429 : vals 11 = (.int .i64 (arg) : Value) := hA1421 11 (by decide)
      refine oblc rfl rfl (show _ = (.bool true : Value) from e1425) (fun _ => ?_) (fun hb => absurd rfl hb)
      have hi1431 : f.toNat < t.fields.length := (by have h1 := hak.1; have h2 := hak.2.1; have h3 := hak.2.2.1; omega)
      obtain ⟨hce1430, hde1430_0, hoke1430⟩ := hdt0.fld hi1431
      rw [← getD_at default hi1431] at hce1430 hde1430_0 hoke1430
      have hsm1432 : ((t.fields.getD f.toNat default).moves).length * 32 ≤ 140737488355328 := hde1430_0.small
      have ok1433 : AskR.Ok (⟨((t.fields.getD f.toNat default)), c, f, arg⟩ : AskR) := ⟨⟨(show InR ((t.fields.getD f.toNat default).kind) from hoke1430.kind), (show InR ((t.fields.getD f.toNat default).policy) from hoke1430.policy)⟩, (show InR (f) from (by omega)), (show InR (arg) from (by omega))⟩
      exact ov_build (parts' := [(0, .agg ((t.fields.getD f.toNat default).cells (cellV W (sb dt0) (so dt0 + f.toNat * 4 + 3))).toArray), (1, vc), (2, .int .i64 (f)), (3, .int .i64 (arg))]) (v := .agg ((⟨((t.fields.getD f.toNat default)), c, f, arg⟩ : AskR).cells (cellV W (sb dt0) (so dt0 + f.toNat * 4 + 3)) vc).toArray) (mapP ⟨rfl, (show _ = (.agg ((t.fields.getD f.toNat default).cells (cellV W (sb dt0) (so dt0 + f.toNat * 4 + 3))).toArray : Value) from e1426), rfl, (show _ = (vc : Value) from e1427), rfl, (show _ = (.int .i64 (f) : Value) from e1428), rfl, (show _ = (.int .i64 (arg) : Value) from e1429), trivial⟩) (by obtain ⟨_, _, hv1434, _⟩ := hc.sl; rw [show vc = Value.slice _ _ _ from hv1434]; simp [Instr.build, Instr.fill, Ev.cells, go_sem, Mv.cells, Fld.cells, Typ.cells, Prj.cells, Dcl.cells, Cel.cells, AskR.cells]) (fun vals' hv _ => ⟨rfl, hv⟩)
    · intro k1288 vals w1289 h1292 h1293 hW1291 hA1290
      obtain rfl : k1288 = 0 := Nat.le_antisymm h1293 h1292
      have hS1294 : Sep G W ((Blk b1169 #[.func (.func 40) #[] #[], .func (.func 41) #[] #[]] 56) :: (MapH (α := Rul) m5 ruleL) :: (Blk b2 (t.cells dt0).toArray 31) :: Rs) w1289 := hW1291
      have e1295 : vals 1 = (.bool true : Value) := hA1290 1 (by decide)
      have e1296 : vals 3 = (.func (.func 40) #[] #[] : Value) := hA1290 3 (by decide)
      have e1297 : vals 12 = (.agg ((⟨((t.fields.getD f.toNat default)), c, f, arg⟩ : AskR).cells (cellV W (sb dt0) (so dt0 + f.toNat * 4 + 3)) vc).toArray : Value) := hA1290 12 (by decide)
      refine oblc rfl rfl (show _ = (.bool true : Value) from e1295) (fun _ => ?_) (fun hb => absurd rfl hb)
      have hi1299 : f.toNat < t.fields.length := (by have h1 := hak.1; have h2 := hak.2.1; have h3 := hak.2.2.1; omega)
      obtain ⟨hce1298, hde1298_0, hoke1298⟩ := hdt0.fld hi1299
      rw [← getD_at default hi1299] at hce1298 hde1298_0 hoke1298
      have hsm1300 : ((t.fields.getD f.toNat default).moves).length * 32 ≤ 140737488355328 := hde1298_0.small
      have hcw1301 := hS1294.cells hce1298 (hdt0.foot (ne_of_lt hi1299))
      have ok1302 : AskR.Ok (⟨((t.fields.getD f.toNat default)), c, f, arg⟩ : AskR) := ⟨⟨(show InR ((t.fields.getD f.toNat default).kind) from hoke1298.kind), (show InR ((t.fields.getD f.toNat default).policy) from hoke1298.policy)⟩, (show InR (f) from (by omega)), (show InR (arg) from (by omega))⟩
      refine (ov_call (f := 40) (vals := [.agg ((⟨((t.fields.getD f.toNat default)), c, f, arg⟩ : AskR).cells (cellV W (sb dt0) (so dt0 + f.toNat * 4 + 3)) vc).toArray]) (cap := []) (show _ = (.func (.func 40) #[] #[] : Value) from e1296) (mapL ⟨(show _ = (.agg ((⟨((t.fields.getD f.toNat default)), c, f, arg⟩ : AskR).cells (cellV W (sb dt0) (so dt0 + f.toNat * 4 + 3)) vc).toArray : Value) from e1297), trivial⟩) Try.call40 (D_mayMove (a := (⟨((t.fields.getD f.toNat default)), c, f, arg⟩ : AskR)) hde1298_0 hc ok1302 hS1294 (⟨hak.1, hak.2.2.1⟩) (⟨(hak.2.2.2.2 hop).1, (hak.2.2.2.2 hop).2.1⟩) ((hak.2.2.2.2 hop).2.2)) ?_)
      rintro _ w1303 ⟨rfl, hS1304⟩
      intro vals' hv hv'
      refine ⟨?_, trivial⟩
      show (vals' 13 = (.bool (mayB (⟨((t.fields.getD f.toNat default)), c, f, arg⟩ : AskR).fld (⟨((t.fields.getD f.toNat default)), c, f, arg⟩ : AskR).cls (celAt (⟨((t.fields.getD f.toNat default)), c, f, arg⟩ : AskR).cls (⟨((t.fields.getD f.toNat default)), c, f, arg⟩ : AskR).no) 5 (⟨((t.fields.getD f.toNat default)), c, f, arg⟩ : AskR).arg) : Value)) ∧ Sep G W ((Blk b1169 #[.func (.func 40) #[] #[], .func (.func 41) #[] #[]] 56) :: (MapH (α := Rul) m5 ruleL) :: (Blk b2 (t.cells dt0).toArray 31) :: Rs) w1303
      exact ⟨hv, hS1304⟩
    · intro k1435 vals w1436 h1439 h1440 hW1438 hA1437
      obtain rfl : k1435 = 1 := Nat.le_antisymm h1440 h1439
      obtain ⟨he1305, hS1441⟩ : (vals 13 = (.bool (mayB (⟨((t.fields.getD f.toNat default)), c, f, arg⟩ : AskR).fld (⟨((t.fields.getD f.toNat default)), c, f, arg⟩ : AskR).cls (celAt (⟨((t.fields.getD f.toNat default)), c, f, arg⟩ : AskR).cls (⟨((t.fields.getD f.toNat default)), c, f, arg⟩ : AskR).no) 5 (⟨((t.fields.getD f.toNat default)), c, f, arg⟩ : AskR).arg) : Value)) ∧ Sep G W ((Blk b1169 #[.func (.func 40) #[] #[], .func (.func 41) #[] #[]] 56) :: (MapH (α := Rul) m5 ruleL) :: (Blk b2 (t.cells dt0).toArray 31) :: Rs) w1436 := hW1438
      have e1442 : vals 1 = (.bool true : Value) := hA1437 1 (by decide)
      refine oblc rfl rfl (show _ = (.bool true : Value) from e1442) (fun _ => ?_) (fun hb => absurd rfl hb)
      exact ov_not (a := mayB (⟨((t.fields.getD f.toNat default)), c, f, arg⟩ : AskR).fld (⟨((t.fields.getD f.toNat default)), c, f, arg⟩ : AskR).cls (celAt (⟨((t.fields.getD f.toNat default)), c, f, arg⟩ : AskR).cls (⟨((t.fields.getD f.toNat default)), c, f, arg⟩ : AskR).no) 5 (⟨((t.fields.getD f.toNat default)), c, f, arg⟩ : AskR).arg) (show _ = (.bool (mayB (⟨((t.fields.getD f.toNat default)), c, f, arg⟩ : AskR).fld (⟨((t.fields.getD f.toNat default)), c, f, arg⟩ : AskR).cls (celAt (⟨((t.fields.getD f.toNat default)), c, f, arg⟩ : AskR).cls (⟨((t.fields.getD f.toNat default)), c, f, arg⟩ : AskR).no) 5 (⟨((t.fields.getD f.toNat default)), c, f, arg⟩ : AskR).arg) : Value) from he1305) (fun vals' hv _ => ⟨rfl, hv⟩)
    · intro k1443 vals w1444 h1447 h1448 hW1446 hA1445
      have e1449 : vals 1 = (.bool true : Value) := hA1445 1 (by decide)
      have e1450 : vals 14 = (.bool (!(mayB (⟨((t.fields.getD f.toNat default)), c, f, arg⟩ : AskR).fld (⟨((t.fields.getD f.toNat default)), c, f, arg⟩ : AskR).cls (celAt (⟨((t.fields.getD f.toNat default)), c, f, arg⟩ : AskR).cls (⟨((t.fields.getD f.toNat default)), c, f, arg⟩ : AskR).no) 5 (⟨((t.fields.getD f.toNat default)), c, f, arg⟩ : AskR).arg)) : Value) := hA1445 14 (by decide)
      refine obl rfl ?_
      exact ov_pick_t (v := .bool (!(mayB (⟨((t.fields.getD f.toNat default)), c, f, arg⟩ : AskR).fld (⟨((t.fields.getD f.toNat default)), c, f, arg⟩ : AskR).cls (celAt (⟨((t.fields.getD f.toNat default)), c, f, arg⟩ : AskR).cls (⟨((t.fields.getD f.toNat default)), c, f, arg⟩ : AskR).no) 5 (⟨((t.fields.getD f.toNat default)), c, f, arg⟩ : AskR).arg))) (show _ = (.bool true : Value) from e1449) (show _ = (.bool (!(mayB (⟨((t.fields.getD f.toNat default)), c, f, arg⟩ : AskR).fld (⟨((t.fields.getD f.toNat default)), c, f, arg⟩ : AskR).cls (celAt (⟨((t.fields.getD f.toNat default)), c, f, arg⟩ : AskR).cls (⟨((t.fields.getD f.toNat default)), c, f, arg⟩ : AskR).no) 5 (⟨((t.fields.getD f.toNat default)), c, f, arg⟩ : AskR).arg)) : Value) from e1450) (fun vals' hv _ => ⟨rfl, hv⟩)
    intro vals w1451 hW1452 hA1453
    obtain ⟨he1305, hS1454⟩ : (vals 13 = (.bool (mayB (⟨((t.fields.getD f.toNat default)), c, f, arg⟩ : AskR).fld (⟨((t.fields.getD f.toNat default)), c, f, arg⟩ : AskR).cls (celAt (⟨((t.fields.getD f.toNat default)), c, f, arg⟩ : AskR).cls (⟨((t.fields.getD f.toNat default)), c, f, arg⟩ : AskR).no) 5 (⟨((t.fields.getD f.toNat default)), c, f, arg⟩ : AskR).arg) : Value)) ∧ Sep G W ((Blk b1169 #[.func (.func 40) #[] #[], .func (.func 41) #[] #[]] 56) :: (MapH (α := Rul) m5 ruleL) :: (Blk b2 (t.cells dt0).toArray 31) :: Rs) w1451 := hW1452
    have e1455 : vals 15 = (.bool (!(mayB (⟨((t.fields.getD f.toNat default)), c, f, arg⟩ : AskR).fld (⟨((t.fields.getD f.toNat default)), c, f, arg⟩ : AskR).cls (celAt (⟨((t.fields.getD f.toNat default)), c, f, arg⟩ : AskR).cls (⟨((t.fields.getD f.toNat default)), c, f, arg⟩ : AskR).no) 5 (⟨((t.fields.getD f.toNat default)), c, f, arg⟩ : AskR).arg)) : Value) := hA1453 15 (by decide)
    refine st_env (kv := [(0, .agg (t.cells dt0).toArray), (1, vc), (2, .int .i64 (f)), (3, .int .i64 (op)), (4, .int .i64 (arg)), (5, .pointer (some ⟨b2, 0, none⟩)), (10, .int .i64 (0)), (14, .map (some m5)), (15, .int .i64 (op)), (16, .tuple #[.agg #[.func (.func 40) #[] #[], .func (.func 41) #[] #[]], .bool true]), (13, .tuple #[.agg #[.func (.func 40) #[] #[], .func (.func 41) #[] #[]], .bool true]), (17, .agg #[.func (.func 40) #[] #[], .func (.func 41) #[] #[]]), (18, .bool true), (11, .pointer (some ⟨b1169, 0, none⟩)), (12, .bool true), (34, .bool (!(mayB (⟨((t.fields.getD f.toNat default)), c, f, arg⟩ : AskR).fld (⟨((t.fields.getD f.toNat default)), c, f, arg⟩ : AskR).cls (celAt (⟨((t.fields.getD f.toNat default)), c, f, arg⟩ : AskR).cls (⟨((t.fields.getD f.toNat default)), c, f, arg⟩ : AskR).no) 5 (⟨((t.fields.getD f.toNat default)), c, f, arg⟩ : AskR).arg)))]) ⟨rfl, rfl, rfl, rfl, rfl, rfl, rfl, rfl, rfl, rfl, rfl, rfl, rfl, rfl, rfl, (by exact e1455), trivial⟩ (fun ρw1451 => ?_)
    refine st_nil ?_
    cases hc1456 : !(mayB (⟨((t.fields.getD f.toNat default)), c, f, arg⟩ : AskR).fld (⟨((t.fields.getD f.toNat default)), c, f, arg⟩ : AskR).cls (celAt (⟨((t.fields.getD f.toNat default)), c, f, arg⟩ : AskR).cls (⟨((t.fields.getD f.toNat default)), c, f, arg⟩ : AskR).no) 5 (⟨((t.fields.getD f.toNat default)), c, f, arg⟩ : AskR).arg)
    · skip
      try simp only [bools] at hc1456
      refine WP_cond_f rfl ?_
      refine WP_skip ?_
      refine WP_seq ?_
      refine WP_region0 (by kernel_rfl) (fun _ => ?_)
      refine st (ov_assign (v := .int .i64 (0)) rfl ?_)
      refine st_nil ?_
      refine WP_ret ?_
      refine fin1 Try.results10 (show _ = (.int .i64 (0) : Value) from rfl) ?_
      have hS1457 : Sep G W Rs w1451 := hS1454.sel 3 [] (Nat.le_add_left _ _) rfl rfl
      refine ⟨?_, hS1457⟩
      have hm : mayB (fldAt t f) c (celAt c f) op arg = true := by rw [hop]; exact hc1456
      unfold mayL
      rw [hm]
      rfl
    · skip
      try simp only [bools] at hc1456
      refine WP_cond_t rfl ?_
      refine WP_seq ?_
      refine WP_region0 (by kernel_rfl) (fun _ => ?_)
      refine st (ov_assign (v := .int .i64 (10)) rfl ?_)
      refine st_nil ?_
      refine WP_ret ?_
      refine fin1 Try.results10 (show _ = (.int .i64 (10) : Value) from rfl) ?_
      have hS1458 : Sep G W Rs w1451 := hS1454.sel 3 [] (Nat.le_add_left _ _) rfl rfl
      refine ⟨?_, hS1458⟩
      have hm : mayB (fldAt t f) c (celAt c f) op arg = false := by rw [hop]; exact hc1456
      unfold mayL
      rw [hm]
      rfl
  · skip
    refine st (ov_lookupNone (α := Rul) (zc := [.nilFunc, .nilFunc]) Try.underlying58 Try.underlying3 Try.zeroValue56 rfl rfl (hS7.map_ (i := 0) rfl) (ruleL_none hop) ?_)
    refine st (ov_move (v := .tuple #[.agg #[.nilFunc, .nilFunc], .bool false]) rfl ?_)
    refine st (ov_extract (vs := [.agg #[.nilFunc, .nilFunc], .bool false]) (i := 0) (v := .agg #[.nilFunc, .nilFunc]) rfl rfl ?_)
    refine st (ov_extract (vs := [.agg #[.nilFunc, .nilFunc], .bool false]) (i := 1) (v := .bool false) rfl rfl ?_)
    refine st (ov_alloc Try.zeroValue56 ?_)
    intro w1461 b1460 hn1459
    have hS1462 : Sep G W ((Blk b1460 #[.nilFunc, .nilFunc] 56) :: (MapH (α := Rul) m5 ruleL) :: (Blk b2 (t.cells dt0).toArray 31) :: Rs) w1461 := hS7.new hn1459
    refine stn (ov_store (v := .agg #[.nilFunc, .nilFunc]) (c' := #[.nilFunc, .nilFunc]) Try.sizeOf56 rfl rfl (hS1462.blk (i := 0) rfl) (all1 ⟨rfl, rfl, trivial⟩) (Nat.le_of_ble_eq_true rfl) rfl ?_)
    intro w1463 hp1464
    have hS1465 : Sep G W ((Blk b1460 #[.nilFunc, .nilFunc] 56) :: (MapH (α := Rul) m5 ruleL) :: (Blk b2 (t.cells dt0).toArray 31) :: Rs) w1463 := hS1462.put (i := 0) rfl hp1464
    refine st (ov_assign (v := .bool false) rfl ?_)
    refine st_nil ?_
    refine WP_seq ?_
    refine WP_draw4 (WF [fun vals wq => Sep G W ((Blk b1460 #[.nilFunc, .nilFunc] 56) :: (MapH (α := Rul) m5 ruleL) :: (Blk b2 (t.cells dt0).toArray 31) :: Rs) wq, fun vals wq => Sep G W ((Blk b1460 #[.nilFunc, .nilFunc] 56) :: (MapH (α := Rul) m5 ruleL) :: (Blk b2 (t.cells dt0).toArray 31) :: Rs) wq]) (AF [fun vals => vals 0 = (.bool false : Value), fun vals => vals 1 = (.bool false : Value), fun vals => vals 2 = (undef : Value), fun vals => vals 3 = (undef : Value), fun vals => vals 4 = (undef : Value), fun vals => vals 5 = (undef : Value), fun vals => vals 6 = (undef : Value), fun vals => vals 7 = (undef : Value), fun vals => vals 8 = (undef : Value), fun vals => vals 9 = (undef : Value), fun vals => vals 10 = (undef : Value), fun vals => vals 11 = (undef : Value), fun vals => vals 12 = (undef : Value), fun _ => True, fun vals => vals 14 = (undef : Value), fun vals => vals 15 = (.bool false : Value)]) [[], [0], [0, 1], [0, 1, 2], [0, 1], [0, 1, 4], [0, 1], [0, 1, 4, 5, 6], [0, 1, 4, 5, 6, 7], [0, 1], [0, 1], [0, 1], [0, 1, 4, 5, 6, 7, 8, 9, 10, 11], [0, 1, 2, 3, 4, 5, 6, 7, 8, 9, 10, 11, 12], [0, 1, 2, 3, 4, 5, 6, 7, 8, 9, 10, 11, 12, 13], [0, 1, 2, 3, 4, 5, 6, 7, 8, 9, 10, 11, 12, 13, 14]] [13] [(0, 0), (0, 0), (0, 0), (0, 0), (0, 0), (0, 0), (0, 0), (0, 0), (0, 0), (0, 0), (0, 0), (0, 0), (0, 0), (0, 0), (1, 1), (1, 1)] (by kernel_rfl) (by kernel_rfl) (by kernel_rfl) rfl (by kernel_rfl) (by kernel_rfl) (fun _ h1 h2 h3 h4 _ => hS1465.same h1 h2 h3 h4) ?_ ?_ ⟨?_, ?_, ?_, ?_, ?_, ?_, ?_, ?_, ?_, ?_, ?_, ?_, ?_, ?_, ?_, ?_, trivial⟩ ?_
    · intro k vals vals' w hv h
      have e : ∀ j ∈ ([13] : List Nat), vals' j = vals j := hv
      match k, h with
      | 0, h => exact h
      | 1, h => exact h
      | _ + 2, _ => trivial
    · intro i vals vals' hv h
      match i, hv, h with
      | 0, hv, h => exact (hv 0 (.inl rfl)).trans h
      | 1, hv, h => exact (hv 1 (.inl rfl)).trans h
      | 2, hv, h => exact (hv 2 (.inl rfl)).trans h
      | 3, hv, h => exact (hv 3 (.inl rfl)).trans h
      | 4, hv, h => exact (hv 4 (.inl rfl)).trans h
      | 5, hv, h => exact (hv 5 (.inl rfl)).trans h
      | 6, hv, h => exact (hv 6 (.inl rfl)).trans h
      | 7, hv, h => exact (hv 7 (.inl rfl)).trans h
      | 8, hv, h => exact (hv 8 (.inl rfl)).trans h
      | 9, hv, h => exact (hv 9 (.inl rfl)).trans h
      | 10, hv, h => exact (hv 10 (.inl rfl)).trans h
      | 11, hv, h => exact (hv 11 (.inl rfl)).trans h
      | 12, hv, h => exact (hv 12 (.inl rfl)).trans h
      | 13, _, _ => trivial
      | 14, hv, h => exact (hv 14 (.inl rfl)).trans h
      | 15, hv, h => exact (hv 15 (.inl rfl)).trans h
      | _ + 16, _, _ => trivial
    · intro k1595 vals w1596 h1599 h1600 hW1598 hA1597
      refine obl rfl ?_
      exact ov_move (v := .bool false) rfl (fun vals' hv _ => ⟨rfl, hv⟩)
    · intro k1601 vals w1602 h1605 h1606 hW1604 hA1603
      have e1607 : vals 0 = (.bool false : Value) := hA1603 0 (by decide)
      refine obl rfl ?_
      exact ov_move (v := .bool false) (show _ = (.bool false : Value) from e1607) (fun vals' hv _ => ⟨rfl, hv⟩)
    · intro k1608 vals w1609 h1612 h1613 hW1611 hA1610
      have e1614 : vals 1 = (.bool false : Value) := hA1610 1 (by decide)
      exact oblc rfl rfl (show _ = (.bool false : Value) from e1614) (fun hb => absurd hb (by decide)) (fun _ vals' hv _ => ⟨trivial, hv⟩)
    · intro k1615 vals w1616 h1619 h1620 hW1618 hA1617
      obtain rfl : k1615 = 0 := Nat.le_antisymm h1620 h1619
      have hS1621 : Sep G W ((Blk b1460 #[.nilFunc, .nilFunc] 56) :: (MapH (α := Rul) m5 ruleL) :: (Blk b2 (t.cells dt0).toArray 31) :: Rs) w1616 := hW1618
      have e1622 : vals 1 = (.bool false : Value) := hA1617 1 (by decide)
      have e1623 : vals 2 = (undef : Value) := hA1617 2 (by decide)
      exact oblc rfl rfl (show _ = (.bool false : Value) from e1622) (fun hb => absurd hb (by decide)) (fun _ vals' hv _ => ⟨trivial, hv⟩)
    · intro k1624 vals w1625 h1628 h1629 hW1627 hA1626
      have e1630 : vals 1 = (.bool false : Value) := hA1626 1 (by decide)
      exact oblc rfl rfl (show _ = (.bool false : Value) from e1630) (fun hb => absurd hb (by decide)) (fun _ vals' hv _ => ⟨trivial, hv⟩)
    · intro k1631 vals w1632 h1635 h1636 hW1634 hA1633
      obtain rfl : k1631 = 0 := Nat.le_antisymm h1636 h1635
      have hS1637 : Sep G W ((Blk b1460 #[.nilFunc, .nilFunc] 56) :: (MapH (α := Rul) m5 ruleL) :: (Blk b2 (t.cells dt0).toArray 31) :: Rs) w1632 := hW1634
      have e1638 : vals 1 = (.bool false : Value) := hA1633 1 (by decide)
      have e1639 : vals 4 = (undef : Value) := hA1633 4 (by decide)
      exact oblc rfl rfl (show _ = (.bool false : Value) from e1638) (fun hb => absurd hb (by decide)) (fun _ vals' hv _ => ⟨trivial, hv⟩)
    · intro k1640 vals w1641 h1644 h1645 hW1643 hA1642
      have e1646 : vals 1 = (.bool false : Value) := hA1642 1 (by decide)
      exact oblc rfl rfl (show _ = (.bool false : Value) from e1646) (fun hb => absurd hb (by decide)) (fun _ vals' hv _ => ⟨trivial, hv⟩)
    · intro k1647 vals w1648 h1651 h1652 hW1650 hA1649
      obtain rfl : k1647 = 0 := Nat.le_antisymm h1652 h1651
      have hS1653 : Sep G W ((Blk b1460 #[.nilFunc, .nilFunc] 56) :: (MapH (α := Rul) m5 ruleL) :: (Blk b2 (t.cells dt0).toArray 31) :: Rs) w1648 := hW1650
      have e1654 : vals 1 = (.bool false : Value) := hA1649 1 (by decide)
      have e1655 : vals 5 = (undef : Value) := hA1649 5 (by decide)
      have e1656 : vals 6 = (undef : Value) := hA1649 6 (by decide)
      exact oblc rfl rfl (show _ = (.bool false : Value) from e1654) (fun hb => absurd hb (by decide)) (fun _ vals' hv _ => ⟨trivial, hv⟩)
    · intro k1657 vals w1658 h1661 h1662 hW1660 hA1659
      obtain rfl : k1657 = 0 := Nat.le_antisymm h1662 h1661
      have hS1663 : Sep G W ((Blk b1460 #[.nilFunc, .nilFunc] 56) :: (MapH (α := Rul) m5 ruleL) :: (Blk b2 (t.cells dt0).toArray 31) :: Rs) w1658 := hW1660
      have e1664 : vals 1 = (.bool false : Value) := hA1659 1 (by decide)
      have e1665 : vals 7 = (undef : Value) := hA1659 7 (by decide)
      exact oblc rfl rfl (show _ = (.bool false : Value) from e1664) (fun hb => absurd hb (by decide)) (fun _ vals' hv _ => ⟨trivial, hv⟩)
    · intro k1666 vals w1667 h1670 h1671 hW1669 hA1668
      have e1672 : vals 1 = (.bool false : Value) := hA1668 1 (by decide)
      exact oblc rfl rfl (show _ = (.bool false : Value) from e1672) (fun hb => absurd hb (by decide)) (fun _ vals' hv _ => ⟨trivial, hv⟩)
    · intro k1673 vals w1674 h1677 h1678 hW1676 hA1675
      have e1679 : vals 1 = (.bool false : Value) := hA1675 1 (by decide)
      exact oblc rfl rfl (show _ = (.bool false : Value) from e1679) (fun hb => absurd hb (by decide)) (fun _ vals' hv _ => ⟨trivial, hv⟩)
    · intro k1680 vals w1681 h1684 h1685 hW1683 hA1682
      have e1686 : vals 1 = (.bool false : Value) := hA1682 1 (by decide)
      exact oblc rfl rfl (show _ = (.bool false : Value) from e1686) (fun hb => absurd hb (by decide)) (fun _ vals' hv _ => ⟨trivial, hv⟩)
    · intro k1687 vals w1688 h1691 h1692 hW1690 hA1689
      have e1693 : vals 1 = (.bool false : Value) := hA1689 1 (by decide)
      have e1694 : vals 8 = (undef : Value) := hA1689 8 (by decide)
      have e1695 : vals 9 = (undef : Value) := hA1689 9 (by decide)
      have e1696 : vals 10 = (undef : Value) := hA1689 10 (by decide)
      have e1697 : vals 11 = (undef : Value) := hA1689 11 (by decide)
      exact oblc rfl rfl (show _ = (.bool false : Value) from e1693) (fun hb => absurd hb (by decide)) (fun _ vals' hv _ => ⟨trivial, hv⟩)
    · intro k1569 vals w1570 h1573 h1574 hW1572 hA1571
      obtain rfl : k1569 = 0 := Nat.le_antisymm h1574 h1573
      have hS1575 : Sep G W ((Blk b1460 #[.nilFunc, .nilFunc] 56) :: (MapH (α := Rul) m5 ruleL) :: (Blk b2 (t.cells dt0).toArray 31) :: Rs) w1570 := hW1572
      have e1576 : vals 1 = (.bool false : Value) := hA1571 1 (by decide)
      have e1577 : vals 3 = (undef : Value) := hA1571 3 (by decide)
      have e1578 : vals 12 = (undef : Value) := hA1571 12 (by decide)
      refine oblc rfl rfl (show _ = (.bool false : Value) from e1576) (fun hb => absurd hb (by decide)) (fun _ vals' hv hv' => ?_)
      refine ⟨?_, trivial⟩
      show Sep G W ((Blk b1460 #[.nilFunc, .nilFunc] 56) :: (MapH (α := Rul) m5 ruleL) :: (Blk b2 (t.cells dt0).toArray 31) :: Rs) w1570
      exact hS1575
    · intro k1698 vals w1699 h1702 h1703 hW1701 hA1700
      obtain rfl : k1698 = 1 := Nat.le_antisymm h1703 h1702
      have hS1704 : Sep G W ((Blk b1460 #[.nilFunc, .nilFunc] 56) :: (MapH (α := Rul) m5 ruleL) :: (Blk b2 (t.cells dt0).toArray 31) :: Rs) w1699 := hW1701
      have e1705 : vals 1 = (.bool false : Value) := hA1700 1 (by decide)
      exact oblc rfl rfl (show _ = (.bool false : Value) from e1705) (fun hb => absurd hb (by decide)) (fun _ vals' hv _ => ⟨trivial, hv⟩)
    · intro k1706 vals w1707 h1710 h1711 hW1709 hA1708
      have e1712 : vals 1 = (.bool false : Value) := hA1708 1 (by decide)
      have e1713 : vals 14 = (undef : Value) := hA1708 14 (by decide)
      refine obl rfl ?_
      exact ov_pick_f (v := .bool false) (show _ = (.bool false : Value) from e1712) rfl (fun vals' hv _ => ⟨rfl, hv⟩)
    intro vals w1714 hW1715 hA1716
    have hS1717 : Sep G W ((Blk b1460 #[.nilFunc, .nilFunc] 56) :: (MapH (α := Rul) m5 ruleL) :: (Blk b2 (t.cells dt0).toArray 31) :: Rs) w1714 := hW1715
    have e1718 : vals 15 = (.bool false : Value) := hA1716 15 (by decide)
    refine st_env (kv := [(0, .agg (t.cells dt0).toArray), (1, vc), (2, .int .i64 (f)), (3, .int .i64 (op)), (4, .int .i64 (arg)), (5, .pointer (some ⟨b2, 0, none⟩)), (10, .int .i64 (0)), (14, .map (some m5)), (15, .int .i64 (op)), (16, .tuple #[.agg #[.nilFunc, .nilFunc], .bool false]), (13, .tuple #[.agg #[.nilFunc, .nilFunc], .bool false]), (17, .agg #[.nilFunc, .nilFunc]), (18, .bool false), (11, .pointer (some ⟨b1460, 0, none⟩)), (12, .bool false), (34, .bool false)]) ⟨rfl, rfl, rfl, rfl, rfl, rfl, rfl, rfl, rfl, rfl, rfl, rfl, rfl, rfl, rfl, (by exact e1718), trivial⟩ (fun ρw1714 => ?_)
    refine st_nil ?_
    refine WP_cond_f rfl ?_
    refine WP_skip ?_
    refine WP_seq ?_
    refine WP_region0 (by kernel_rfl) (fun _ => ?_)
    refine st (ov_assign (v := .int .i64 (0)) rfl ?_)
    refine st_nil ?_
    refine WP_ret ?_
    refine fin1 Try.results10 (show _ = (.int .i64 (0) : Value) from rfl) ?_
    have hS1719 : Sep G W Rs w1714 := hS1717.sel 3 [] (Nat.le_add_left _ _) rfl rfl
    refine ⟨?_, hS1719⟩
    have hm : mayB (fldAt t f) c (celAt c f) op arg = true := by unfold mayB; rw [if_neg hop.1, if_neg hop.2.2.1, if_neg hop.2.2.2.2]
    unfold mayL
    rw [hm]
    rfl

end Go.Proofs.Ytlblilbmpdejgaa
