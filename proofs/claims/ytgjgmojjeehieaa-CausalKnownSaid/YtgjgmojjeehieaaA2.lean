/- Steps of the proofs of this seat: part A2. -/
import Derived.Test.YtgjgmojjeehieaaA1
set_option linter.unusedSimpArgs false
set_option linter.unusedVariables false
set_option maxRecDepth 8000
set_option maxHeartbeats 4000000
namespace Go.Proofs.Ytgjgmojjeehieaa
open Go.Proofs Go.RowKit

theorem el34 : Elem Try.prog 34 3 1 8 := ⟨Try.underlying34, _, _, rfl, rfl, rfl, rfl, rfl⟩
theorem D_cloneInt {G : Nat → Prop} {W w : World} {Rs : List HP} {vl : Value} {l : List Int} (hl : RdS W G vl l) (hS0 : Sep G W Rs w) : Ret Try.prog 60 [vl] w (fun r w' => ∃ (v : Value), r = (v : Value) ∧ Sep G W ((RowE (α := Int) own 3 v l) :: Rs) w') := by
 have hls : l.length * 8 ≤ 140737488355328 := hl.small
 refine Calls_of_WP (args := [vl]) Try.func60 rfl rfl ?_
 refine WP_seq ?_
 refine WP_region0 (by kernel_rfl) (fun _ => ?_)
 refine st (ov_assign (v := (.slice none 0 0)) rfl ?_)
 refine st_nil ?_
 refine WP_seq ?_
 refine WP_seq ?_
 refine WP_region0 (by kernel_rfl) (fun _ => ?_)
 refine st (ov_move (v := vl) rfl ?_)
 refine st (ov_eqlNil (v := vl) Try.underlying34 rfl hl.sl ?_)
 refine st_nil ?_
 cases hc1 : isNilSl vl
 ·skip
  refine WP_cond_f rfl ?_
  refine WP_skip ?_
  refine WP_seq ?_
  refine WP_region0 (by kernel_rfl) (fun _ => ?_)
  refine st (ov_buildSlice (k := 1) (parts' := []) (c := #[]) Try.underlying34 Try.sizeOf3 Try.zeroValue3 (by decide) rfl (by kernel_rfl) ?_)
  intro w4 b3 hn2
  have hS5 : Sep G W ((Blk b3 #[] 3) :: Rs) w4 := hS0.new hn2
  refine st (ov_move (v := vl) rfl ?_)
  have hS9 : Sep G W ((RowE (α := Int) own 3 (.slice (some ⟨b3, 0, none⟩) 0 0) ([] : List Int)) :: Rs) w4 := Sep.blkRow (src := own) (l := ([] : List Int)) (css := []) hS5 rfl trivial (by first | decide | (simp only [List.length_cons, List.length_nil]; decide))
  have hr10 := hS9.row (i := 0) rfl
  have hr10s : ([] : List Int).length * 8 ≤ 140737488355328 := hr10.2
  refine st (ov_appendS (src := own) (bytes := 8) hS9 el34 rfl rfl hl (by first | omega | (simp only [List.length_append, List.length_cons, List.length_nil, List.length_take, List.length_drop]; omega)) rfl (hq' := fun _ _ h _ _ => own_flat h) ?_)
  intro v7 w6 hS8
  have hS8 : Sep G W ((RowE (α := Int) own 3 v7 l) :: Rs) w6 := hS8
  have hr11 := hS8.row (i := 0) rfl
  have hr11s : l.length * 8 ≤ 140737488355328 := hr11.2
  refine st (ov_assign (v := v7) rfl ?_)
  refine st_nil ?_
  refine WP_ret ?_
  refine fin1 Try.results60 (show _ = (v7 : Value) from rfl) ?_
  refine ⟨v7, rfl, hS8⟩
 ·skip
  have hl0 := nil_len hl.sl hc1
  refine WP_cond_t rfl ?_
  refine WP_seq ?_
  refine WP_region0 (by kernel_rfl) (fun _ => ?_)
  refine st (ov_assign (v := (.slice none 0 0)) rfl ?_)
  refine st_nil ?_
  refine WP_ret ?_
  refine fin1 Try.results60 (show _ = ((.slice none 0 0) : Value) from rfl) ?_
  have hS12 : Sep G W ((RowE (α := Int) own 3 (.slice none 0 0) ([] : List Int)) :: Rs) w := hS0.rowNil own 3
  have hl1 : l = [] := List.length_eq_zero_iff.1 hl0
  subst hl1
  refine ⟨(.slice none 0 0), rfl, hS12⟩

theorem fd36_2 {d : Option Tmp} {ty : TypeId} {pos : String} {af : Array Edge} {g : Option (Nat × Bool)} {σ : Env} {w : World} {K : Value → World → Prop} {x : Operand} {b o : Nat} (hx : ev σ x = .pointer (some ⟨b, o, none⟩)) (h : K (.pointer (some ⟨b, o + 3, none⟩)) w) : opV Try.prog ⟨d, .fieldAddr 36 x 2, ty, pos, af, g⟩ σ w K := ov_fieldAddr Try.underlying36 rfl rfl (fun w => ⟨0, Try.sizeOf34 w⟩) hx h
theorem D_copied {G : Nat → Prop} {W w : World} {Rs : List HP} {e : Ev} {de0 : Value} (hde0 : RdS W G de0 e.deps) (oe : e.Ok) (hS0 : Sep G W Rs w) : Ret Try.prog 57 [.agg (e.cells de0).toArray] w (fun r w' => ∃ (v : Value), r = (.agg (e.cells v).toArray : Value) ∧ Sep G W ((RowE (α := Int) own 3 v e.deps) :: Rs) w') := by
 have hde0s : e.deps.length * 8 ≤ 140737488355328 := hde0.small
 refine Calls_of_WP (args := [.agg (e.cells de0).toArray]) Try.func57 rfl rfl ?_
 refine WP_seq ?_
 refine WP_region0 (by kernel_rfl) (fun _ => ?_)
 refine st (ov_box (v := .agg (e.cells de0).toArray) rfl ?_)
 intro w3 b2 hn1
 have hS4 : Sep G W ((Blk b2 (e.cells de0).toArray 36) :: Rs) w3 := hS0.new hn1
 refine st (ov_alloc Try.zeroValue36 ?_)
 intro w7 b6 hn5
 have hS8 : Sep G W ((Blk b6 #[.int .i64 (0), .int .i64 (0), .int .i64 (0), (.slice none 0 0), .int .i64 (0), .int .i64 (0), .int .i64 (0), .int .i64 (0), .int .i64 (0), .int .i64 (0)] 36) :: (Blk b2 (e.cells de0).toArray 36) :: Rs) w7 := hS4.new hn5
 refine st_nil ?_
 refine WP_seq ?_
 refine WP_region0 (by kernel_rfl) (fun _ => ?_)
 refine st (fd36_2 rfl ?_)
 refine st (ov_load1 (v := de0) Try.isAgg34 rfl (blk_cellL (hS8.blk (i := 1) rfl) rfl) ?_)
 refine st (ov_call (f := 60) (vals := [de0]) (cap := []) (show _ = (.func (.func 60) #[] #[] : Value) from rfl) rfl Try.call60 (D_cloneInt (l := e.deps) (vl := de0) hde0 hS8) ?_)
 rintro v9 w10 ⟨_, rfl, hS11⟩
 have hr12 := hS11.row (i := 0) rfl
 have hr12s : e.deps.length * 8 ≤ 140737488355328 := hr12.2
 refine st (fd36_2 rfl ?_)
 refine stn (ov_store1 (v := v9) (c := [.int .i64 (e.origin), .int .i64 (e.seq), .int .i64 (e.lam), de0, .int .i64 (e.typ), .int .i64 (e.agg), .int .i64 (e.field), .int .i64 (e.op), .int .i64 (e.arg), .int .i64 (e.key)]) (c' := [.int .i64 (e.origin), .int .i64 (e.seq), .int .i64 (e.lam), v9, .int .i64 (e.typ), .int .i64 (e.agg), .int .i64 (e.field), .int .i64 (e.op), .int .i64 (e.arg), .int .i64 (e.key)]) Try.sizeOf34 rfl rfl (hS11.blk (i := 2) rfl) hr12.1.one rfl rfl ?_)
 intro w13 hp14
 have ok15 : Ev.Ok e := ⟨(show InR (e.origin) from oe.origin), (show InR (e.seq) from oe.seq), (show InR (e.lam) from oe.lam), (show InR (e.typ) from oe.typ), (show InR (e.agg) from oe.agg), (show InR (e.field) from oe.field), (show InR (e.op) from oe.op), (show InR (e.arg) from oe.arg), (show InR (e.key) from oe.key)⟩
 have hS16 : Sep G W ((RowE (α := Int) own 3 v9 e.deps) :: (Blk b6 #[.int .i64 (0), .int .i64 (0), .int .i64 (0), (.slice none 0 0), .int .i64 (0), .int .i64 (0), .int .i64 (0), .int .i64 (0), .int .i64 (0), .int .i64 (0)] 36) :: (Blk b2 (e.cells v9).toArray 36) :: Rs) w13 := hS11.put (i := 2) rfl hp14
 refine st_nil ?_
 refine WP_seq ?_
 refine WP_region0 (by kernel_rfl) (fun _ => ?_)
 refine st (ov_loadk (k := 10) Try.isAgg36 Try.sizeOf36 rfl rfl (CellsAt.all (hS16.blk (i := 2) rfl)) ?_)
 refine stn (ov_store (v := .agg (e.cells v9).toArray) (c' := (e.cells v9).toArray) Try.sizeOf36 rfl rfl (hS16.blk (i := 1) rfl) (all1 ⟨rfl, rfl, rfl, hr12.1.one, rfl, rfl, rfl, rfl, rfl, rfl, trivial⟩) (Nat.le_of_ble_eq_true rfl) rfl ?_)
 intro w17 hp18
 have hS19 : Sep G W ((RowE (α := Int) own 3 v9 e.deps) :: (Blk b6 (e.cells v9).toArray 36) :: (Blk b2 (e.cells v9).toArray 36) :: Rs) w17 := hS16.put (i := 1) rfl hp18
 refine st_nil ?_
 refine WP_ret ?_
 refine finc (b := b6) Try.results57 Try.isAgg36 Try.sizeOf36 rfl rfl (CellsAt.all (hS19.blk (i := 1) rfl)) ?_
 have hS20 : Sep G W ((RowE (α := Int) own 3 v9 e.deps) :: Rs) w17 := hS19.sel 3 [0] (Nat.le_add_left _ _) rfl rfl
 refine ⟨v9, rfl, hS20⟩

theorem fd36_1 {d : Option Tmp} {ty : TypeId} {pos : String} {af : Array Edge} {g : Option (Nat × Bool)} {σ : Env} {w : World} {K : Value → World → Prop} {x : Operand} {b o : Nat} (hx : ev σ x = .pointer (some ⟨b, o, none⟩)) (h : K (.pointer (some ⟨b, o + 2, none⟩)) w) : opV Try.prog ⟨d, .fieldAddr 36 x 1, ty, pos, af, g⟩ σ w K := ov_fieldAddr Try.underlying36 rfl rfl (fun w => ⟨0, Try.sizeOf3 w⟩) hx h
theorem fd36_0 {d : Option Tmp} {ty : TypeId} {pos : String} {af : Array Edge} {g : Option (Nat × Bool)} {σ : Env} {w : World} {K : Value → World → Prop} {x : Operand} {b o : Nat} (hx : ev σ x = .pointer (some ⟨b, o, none⟩)) (h : K (.pointer (some ⟨b, o + 0, none⟩)) w) : opV Try.prog ⟨d, .fieldAddr 36 x 0, ty, pos, af, g⟩ σ w K := ov_fieldAddr Try.underlying36 rfl rfl (fun w => ⟨1, Try.sizeOf33 w⟩) hx h
theorem fd33_0 {d : Option Tmp} {ty : TypeId} {pos : String} {af : Array Edge} {g : Option (Nat × Bool)} {σ : Env} {w : World} {K : Value → World → Prop} {x : Operand} {b o : Nat} (hx : ev σ x = .pointer (some ⟨b, o, none⟩)) (h : K (.pointer (some ⟨b, o + 0, none⟩)) w) : opV Try.prog ⟨d, .fieldAddr 33 x 0, ty, pos, af, g⟩ σ w K := ov_fieldAddr Try.underlying33 rfl rfl (fun w => ⟨0, Try.sizeOf3 w⟩) hx h
theorem fd33_1 {d : Option Tmp} {ty : TypeId} {pos : String} {af : Array Edge} {g : Option (Nat × Bool)} {σ : Env} {w : World} {K : Value → World → Prop} {x : Operand} {b o : Nat} (hx : ev σ x = .pointer (some ⟨b, o, none⟩)) (h : K (.pointer (some ⟨b, o + 1, none⟩)) w) : opV Try.prog ⟨d, .fieldAddr 33 x 1, ty, pos, af, g⟩ σ w K := ov_fieldAddr Try.underlying33 rfl rfl (fun w => ⟨0, Try.sizeOf3 w⟩) hx h
theorem D_compare {G : Nat → Prop} {W w : World} {Rs : List HP} {a : Ev} {da0 : Value} (hda0 : RdS W G da0 a.deps) (oa : a.Ok) {b : Ev} {db0 : Value} (hdb0 : RdS W G db0 b.deps) (ob : b.Ok) (hS0 : Sep G W Rs w) : Ret Try.prog 78 [.agg (a.cells da0).toArray, .agg (b.cells db0).toArray] w (fun r w' => r = (.int .i64 ((cmpE a b)) : Value) ∧ Sep G W Rs w') := by
 have hda0s : a.deps.length * 8 ≤ 140737488355328 := hda0.small
 have hdb0s : b.deps.length * 8 ≤ 140737488355328 := hdb0.small
 refine Calls_of_WP (args := [.agg (a.cells da0).toArray, .agg (b.cells db0).toArray]) Try.func78 rfl rfl ?_
 refine WP_seq ?_
 refine WP_region0 (by kernel_rfl) (fun _ => ?_)
 refine st (ov_box (v := .agg (a.cells da0).toArray) rfl ?_)
 intro w3 b2 hn1
 have hS4 : Sep G W ((Blk b2 (a.cells da0).toArray 36) :: Rs) w3 := hS0.new hn1
 refine st (ov_box (v := .agg (b.cells db0).toArray) rfl ?_)
 intro w7 b6 hn5
 have hS8 : Sep G W ((Blk b6 (b.cells db0).toArray 36) :: (Blk b2 (a.cells da0).toArray 36) :: Rs) w7 := hS4.new hn5
 refine st (ov_assign (v := .int .i64 (0)) rfl ?_)
 refine st_nil ?_
 refine WP_seq ?_
 refine WP_draw4 (WF [fun vals wq => Sep G W ((Blk b6 (b.cells db0).toArray 36) :: (Blk b2 (a.cells da0).toArray 36) :: Rs) wq, fun vals wq => (vals 4 = (.int .i64 ((cmpI a.lam b.lam)) : Value)) ∧ Sep G W ((Blk b6 (b.cells db0).toArray 36) :: (Blk b2 (a.cells da0).toArray 36) :: Rs) wq, fun vals wq => (vals 4 = (.int .i64 ((cmpI a.lam b.lam)) : Value)) ∧ (vals 11 = (.int .i64 ((cmpI a.origin b.origin)) : Value)) ∧ Sep G W ((Blk b6 (b.cells db0).toArray 36) :: (Blk b2 (a.cells da0).toArray 36) :: Rs) wq, fun vals wq => (vals 4 = (.int .i64 ((cmpI a.lam b.lam)) : Value)) ∧ (vals 11 = (.int .i64 ((cmpI a.origin b.origin)) : Value)) ∧ (vals 18 = (.int .i64 ((cmpI a.seq b.seq)) : Value)) ∧ Sep G W ((Blk b6 (b.cells db0).toArray 36) :: (Blk b2 (a.cells da0).toArray 36) :: Rs) wq, fun vals wq => ∃ (b165 : Nat), (vals 4 = (.int .i64 ((cmpI a.lam b.lam)) : Value)) ∧ (vals 11 = (.int .i64 ((cmpI a.origin b.origin)) : Value)) ∧ (vals 18 = (.int .i64 ((cmpI a.seq b.seq)) : Value)) ∧ (vals 19 = ((.slice (some ⟨b165, 0, none⟩) 3 3) : Value)) ∧ Sep G W ((Blk b165 #[.int .i64 ((cmpI a.lam b.lam)), .int .i64 ((cmpI a.origin b.origin)), .int .i64 ((cmpI a.seq b.seq))] 3) :: (Blk b6 (b.cells db0).toArray 36) :: (Blk b2 (a.cells da0).toArray 36) :: Rs) wq, fun vals wq => ∃ (b165 : Nat), (vals 4 = (.int .i64 ((cmpI a.lam b.lam)) : Value)) ∧ (vals 11 = (.int .i64 ((cmpI a.origin b.origin)) : Value)) ∧ (vals 18 = (.int .i64 ((cmpI a.seq b.seq)) : Value)) ∧ (vals 19 = ((.slice (some ⟨b165, 0, none⟩) 3 3) : Value)) ∧ (vals 20 = (.int .i64 ((orL [(cmpI a.lam b.lam), (cmpI a.origin b.origin), (cmpI a.seq b.seq)])) : Value)) ∧ Sep G W ((RowE (α := Int) own 3 (.slice (some ⟨b165, 0, none⟩) 3 3) [(cmpI a.lam b.lam), (cmpI a.origin b.origin), (cmpI a.seq b.seq)]) :: (Blk b6 (b.cells db0).toArray 36) :: (Blk b2 (a.cells da0).toArray 36) :: Rs) wq]) (AF [Vl 0 (.pointer (some ⟨b2, 2, none⟩)), Vl 1 (.int .i64 (a.lam)), Vl 2 (.pointer (some ⟨b6, 2, none⟩)), Vl 3 (.int .i64 (b.lam)), fun _ => True, Vl 5 (.pointer (some ⟨b2, 0, none⟩)), Vl 6 (.pointer (some ⟨b2, 0, none⟩)), Vl 7 (.int .i64 (a.origin)), Vl 8 (.pointer (some ⟨b6, 0, none⟩)), Vl 9 (.pointer (some ⟨b6, 0, none⟩)), Vl 10 (.int .i64 (b.origin)), fun _ => True, Vl 12 (.pointer (some ⟨b2, 0, none⟩)), Vl 13 (.pointer (some ⟨b2, 1, none⟩)), Vl 14 (.int .i64 (a.seq)), Vl 15 (.pointer (some ⟨b6, 0, none⟩)), Vl 16 (.pointer (some ⟨b6, 1, none⟩)), Vl 17 (.int .i64 (b.seq)), fun _ => True, fun _ => True, fun _ => True, Vl 21 (.int .i64 ((orL [(cmpI a.lam b.lam), (cmpI a.origin b.origin), (cmpI a.seq b.seq)])))]) [[], [0], [], [2], [0, 1, 2, 3], [], [5], [5, 6], [], [8], [8, 9], [0, 1, 2, 3, 4, 5, 6, 7, 8, 9, 10], [], [12], [12, 13], [], [15], [15, 16], [0, 1, 2, 3, 4, 5, 6, 7, 8, 9, 10, 11, 12, 13, 14, 15, 16, 17], [0, 1, 2, 3, 4, 5, 6, 7, 8, 9, 10, 11, 12, 13, 14, 15, 16, 17, 18], [0, 1, 2, 3, 4, 5, 6, 7, 8, 9, 10, 11, 12, 13, 14, 15, 16, 17, 18, 19], [0, 1, 2, 3, 4, 5, 6, 7, 8, 9, 10, 11, 12, 13, 14, 15, 16, 17, 18, 19, 20]] [4, 11, 18, 19, 20] [(0, 0), (0, 0), (0, 0), (0, 0), (0, 0), (0, 1), (0, 1), (0, 1), (0, 1), (0, 1), (0, 1), (1, 1), (0, 2), (0, 2), (0, 2), (0, 2), (0, 2), (0, 2), (2, 2), (3, 3), (4, 4), (5, 5)] (by kernel_rfl) (by kernel_rfl) (by kernel_rfl) rfl (by kernel_rfl) (by kernel_rfl) (fun _ h1 h2 h3 h4 _ => hS8.same h1 h2 h3 h4) ?_ (AF_loc ⟨dA, dA, dA, dA, dT, dA, dA, dA, dA, dA, dA, dT, dA, dA, dA, dA, dA, dA, dT, dT, dT, dA, trivial⟩) ⟨?_, ?_, ?_, ?_, ?_, ?_, ?_, ?_, ?_, ?_, ?_, ?_, ?_, ?_, ?_, ?_, ?_, ?_, ?_, ?_, ?_, ?_, trivial⟩ ?_
 ·intro k vals vals' w hv h
  have e : ∀ j ∈ ([4, 11, 18, 19, 20] : List Nat), vals' j = vals j := hv
  match k, h with
  | 0, h => exact h
  | 1, h => exact (by simpa only [WF, List.getElem?_cons_zero, List.getElem?_cons_succ, e 4 (by decide)] using h)
  | 2, h => exact (by simpa only [WF, List.getElem?_cons_zero, List.getElem?_cons_succ, e 4 (by decide), e 11 (by decide)] using h)
  | 3, h => exact (by simpa only [WF, List.getElem?_cons_zero, List.getElem?_cons_succ, e 4 (by decide), e 11 (by decide), e 18 (by decide)] using h)
  | 4, h => exact (by simpa only [WF, List.getElem?_cons_zero, List.getElem?_cons_succ, e 4 (by decide), e 11 (by decide), e 18 (by decide), e 19 (by decide)] using h)
  | 5, h => exact (by simpa only [WF, List.getElem?_cons_zero, List.getElem?_cons_succ, e 4 (by decide), e 11 (by decide), e 18 (by decide), e 19 (by decide), e 20 (by decide)] using h)
  | _ + 6, _ => trivial
 ·intro k196 vals w197 h200 h201 hW199 hA198
  refine obl rfl ?_
  exact fd36_1 rfl (fun vals' hv _ => ⟨rfl, hv⟩)
 ·intro k202 vals w203 h206 h207 hW205 hA204
  obtain rfl : k202 = 0 := Nat.le_antisymm h207 h206
  have hS208 : Sep G W ((Blk b6 (b.cells db0).toArray 36) :: (Blk b2 (a.cells da0).toArray 36) :: Rs) w203 := hW205
  have e209 := hA204 0 (by decide)
  refine obl rfl ?_
  exact ov_load1 (v := .int .i64 (a.lam)) Try.isAgg3 e209 (blk_cellL (hS208.blk (i := 1) rfl) rfl) (fun vals' hv _ => ⟨rfl, hv⟩)
 ·intro k210 vals w211 h214 h215 hW213 hA212
  refine obl rfl ?_
  exact fd36_1 rfl (fun vals' hv _ => ⟨rfl, hv⟩)
 ·intro k216 vals w217 h220 h221 hW219 hA218
  obtain rfl : k216 = 0 := Nat.le_antisymm h221 h220
  have hS222 : Sep G W ((Blk b6 (b.cells db0).toArray 36) :: (Blk b2 (a.cells da0).toArray 36) :: Rs) w217 := hW219
  have e223 := hA218 2 (by decide)
  refine obl rfl ?_
  exact ov_load1 (v := .int .i64 (b.lam)) Try.isAgg3 e223 (blk_cellL (hS222.blk (i := 0) rfl) rfl) (fun vals' hv _ => ⟨rfl, hv⟩)
 ·intro k37 vals w38 h41 h42 hW40 hA39
  obtain rfl : k37 = 0 := Nat.le_antisymm h42 h41
  have hS43 : Sep G W ((Blk b6 (b.cells db0).toArray 36) :: (Blk b2 (a.cells da0).toArray 36) :: Rs) w38 := hW40
  have e44 := hA39 1 (by decide)
  have e45 := hA39 3 (by decide)
  refine obl rfl ?_
  refine (ov_call (f := 85) (vals := [.int .i64 (a.lam), .int .i64 (b.lam)]) (cap := []) (show _ = (.func (.func 85) #[] #[] : Value) from rfl) (mapL ⟨e44, e45, trivial⟩) Try.call85 (D_cmp  hS43) ?_)
  rintro _ w46 ⟨rfl, hS47⟩
  intro vals' hv hv'
  refine ⟨?_, trivial⟩
  show (vals' 4 = (.int .i64 ((cmpI a.lam b.lam)) : Value)) ∧ Sep G W ((Blk b6 (b.cells db0).toArray 36) :: (Blk b2 (a.cells da0).toArray 36) :: Rs) w46
  exact ⟨hv, hS47⟩
 ·intro k224 vals w225 h228 h229 hW227 hA226
  refine obl rfl ?_
  exact fd36_0 rfl (fun vals' hv _ => ⟨rfl, hv⟩)
 ·intro k230 vals w231 h234 h235 hW233 hA232
  have e236 := hA232 5 (by decide)
  refine obl rfl ?_
  exact fd33_0 e236 (fun vals' hv _ => ⟨rfl, hv⟩)
 ·intro k237 vals w238 h241 h242 hW240 hA239
  have hkk : k237 = 0 ∨ k237 = 1 := by have h1 : 0 ≤ k237 := h241; have h2 : k237 ≤ 1 := h242; omega
  rcases hkk with rfl | rfl
  ·skip
   have hS243 : Sep G W ((Blk b6 (b.cells db0).toArray 36) :: (Blk b2 (a.cells da0).toArray 36) :: Rs) w238 := hW240
   have e244 := hA239 6 (by decide)
   refine obl rfl ?_
   exact ov_load1 (v := .int .i64 (a.origin)) Try.isAgg3 e244 (blk_cellL (hS243.blk (i := 1) rfl) rfl) (fun vals' hv _ => ⟨rfl, hv⟩)
  ·skip
   obtain ⟨he48, hS245⟩ := hW240
   have e246 := hA239 6 (by decide)
   refine obl rfl ?_
   exact ov_load1 (v := .int .i64 (a.origin)) Try.isAgg3 e246 (blk_cellL (hS245.blk (i := 1) rfl) rfl) (fun vals' hv _ => ⟨rfl, hv⟩)
 ·intro k247 vals w248 h251 h252 hW250 hA249
  refine obl rfl ?_
  exact fd36_0 rfl (fun vals' hv _ => ⟨rfl, hv⟩)
 ·intro k253 vals w254 h257 h258 hW256 hA255
  have e259 := hA255 8 (by decide)
  refine obl rfl ?_
  exact fd33_0 e259 (fun vals' hv _ => ⟨rfl, hv⟩)
 ·intro k260 vals w261 h264 h265 hW263 hA262
  have hkk : k260 = 0 ∨ k260 = 1 := by have h1 : 0 ≤ k260 := h264; have h2 : k260 ≤ 1 := h265; omega
  rcases hkk with rfl | rfl
  ·skip
   have hS266 : Sep G W ((Blk b6 (b.cells db0).toArray 36) :: (Blk b2 (a.cells da0).toArray 36) :: Rs) w261 := hW263
   have e267 := hA262 9 (by decide)
   refine obl rfl ?_
   exact ov_load1 (v := .int .i64 (b.origin)) Try.isAgg3 e267 (blk_cellL (hS266.blk (i := 0) rfl) rfl) (fun vals' hv _ => ⟨rfl, hv⟩)
  ·skip
   obtain ⟨he48, hS268⟩ := hW263
   have e269 := hA262 9 (by decide)
   refine obl rfl ?_
   exact ov_load1 (v := .int .i64 (b.origin)) Try.isAgg3 e269 (blk_cellL (hS268.blk (i := 0) rfl) rfl) (fun vals' hv _ => ⟨rfl, hv⟩)
 ·intro k91 vals w92 h95 h96 hW94 hA93
  obtain rfl : k91 = 1 := Nat.le_antisymm h96 h95
  obtain ⟨he48, hS97⟩ := hW94
  have e98 := hA93 7 (by decide)
  have e99 := hA93 10 (by decide)
  refine obl rfl ?_
  refine (ov_call (f := 85) (vals := [.int .i64 (a.origin), .int .i64 (b.origin)]) (cap := []) (show _ = (.func (.func 85) #[] #[] : Value) from rfl) (mapL ⟨e98, e99, trivial⟩) Try.call85 (D_cmp  hS97) ?_)
  rintro _ w100 ⟨rfl, hS101⟩
  intro vals' hv hv'
  refine ⟨?_, trivial⟩
  show (vals' 4 = (.int .i64 ((cmpI a.lam b.lam)) : Value)) ∧ (vals' 11 = (.int .i64 ((cmpI a.origin b.origin)) : Value)) ∧ Sep G W ((Blk b6 (b.cells db0).toArray 36) :: (Blk b2 (a.cells da0).toArray 36) :: Rs) w100
  exact ⟨(by rw [hv' 4 (by decide)]; exact he48), hv, hS101⟩
 ·intro k270 vals w271 h274 h275 hW273 hA272
  refine obl rfl ?_
  exact fd36_0 rfl (fun vals' hv _ => ⟨rfl, hv⟩)
 ·intro k276 vals w277 h280 h281 hW279 hA278
  have e282 := hA278 12 (by decide)
  refine obl rfl ?_
  exact fd33_1 e282 (fun vals' hv _ => ⟨rfl, hv⟩)
 ·intro k283 vals w284 h287 h288 hW286 hA285
  have hkk : k283 = 0 ∨ k283 = 1 ∨ k283 = 2 := by have h1 : 0 ≤ k283 := h287; have h2 : k283 ≤ 2 := h288; omega
  rcases hkk with rfl | rfl | rfl
  ·skip
   have hS289 : Sep G W ((Blk b6 (b.cells db0).toArray 36) :: (Blk b2 (a.cells da0).toArray 36) :: Rs) w284 := hW286
   have e290 := hA285 13 (by decide)
   refine obl rfl ?_
   exact ov_load1 (v := .int .i64 (a.seq)) Try.isAgg3 e290 (blk_cellL (hS289.blk (i := 1) rfl) rfl) (fun vals' hv _ => ⟨rfl, hv⟩)
  ·skip
   obtain ⟨he48, hS291⟩ := hW286
   have e292 := hA285 13 (by decide)
   refine obl rfl ?_
   exact ov_load1 (v := .int .i64 (a.seq)) Try.isAgg3 e292 (blk_cellL (hS291.blk (i := 1) rfl) rfl) (fun vals' hv _ => ⟨rfl, hv⟩)
  ·skip
   obtain ⟨he48, he102, hS293⟩ := hW286
   have e294 := hA285 13 (by decide)
   refine obl rfl ?_
   exact ov_load1 (v := .int .i64 (a.seq)) Try.isAgg3 e294 (blk_cellL (hS293.blk (i := 1) rfl) rfl) (fun vals' hv _ => ⟨rfl, hv⟩)
 ·intro k295 vals w296 h299 h300 hW298 hA297
  refine obl rfl ?_
  exact fd36_0 rfl (fun vals' hv _ => ⟨rfl, hv⟩)
 ·intro k301 vals w302 h305 h306 hW304 hA303
  have e307 := hA303 15 (by decide)
  refine obl rfl ?_
  exact fd33_1 e307 (fun vals' hv _ => ⟨rfl, hv⟩)
 ·intro k308 vals w309 h312 h313 hW311 hA310
  have hkk : k308 = 0 ∨ k308 = 1 ∨ k308 = 2 := by have h1 : 0 ≤ k308 := h312; have h2 : k308 ≤ 2 := h313; omega
  rcases hkk with rfl | rfl | rfl
  ·skip
   have hS314 : Sep G W ((Blk b6 (b.cells db0).toArray 36) :: (Blk b2 (a.cells da0).toArray 36) :: Rs) w309 := hW311
   have e315 := hA310 16 (by decide)
   refine obl rfl ?_
   exact ov_load1 (v := .int .i64 (b.seq)) Try.isAgg3 e315 (blk_cellL (hS314.blk (i := 0) rfl) rfl) (fun vals' hv _ => ⟨rfl, hv⟩)
  ·skip
   obtain ⟨he48, hS316⟩ := hW311
   have e317 := hA310 16 (by decide)
   refine obl rfl ?_
   exact ov_load1 (v := .int .i64 (b.seq)) Try.isAgg3 e317 (blk_cellL (hS316.blk (i := 0) rfl) rfl) (fun vals' hv _ => ⟨rfl, hv⟩)
  ·skip
   obtain ⟨he48, he102, hS318⟩ := hW311
   have e319 := hA310 16 (by decide)
   refine obl rfl ?_
   exact ov_load1 (v := .int .i64 (b.seq)) Try.isAgg3 e319 (blk_cellL (hS318.blk (i := 0) rfl) rfl) (fun vals' hv _ => ⟨rfl, hv⟩)
 ·intro k145 vals w146 h149 h150 hW148 hA147
  obtain rfl : k145 = 2 := Nat.le_antisymm h150 h149
  obtain ⟨he48, he102, hS151⟩ := hW148
  have e152 := hA147 14 (by decide)
  have e153 := hA147 17 (by decide)
  refine obl rfl ?_
  refine (ov_call (f := 85) (vals := [.int .i64 (a.seq), .int .i64 (b.seq)]) (cap := []) (show _ = (.func (.func 85) #[] #[] : Value) from rfl) (mapL ⟨e152, e153, trivial⟩) Try.call85 (D_cmp  hS151) ?_)
  rintro _ w154 ⟨rfl, hS155⟩
  intro vals' hv hv'
  refine ⟨?_, trivial⟩
  show (vals' 4 = (.int .i64 ((cmpI a.lam b.lam)) : Value)) ∧ (vals' 11 = (.int .i64 ((cmpI a.origin b.origin)) : Value)) ∧ (vals' 18 = (.int .i64 ((cmpI a.seq b.seq)) : Value)) ∧ Sep G W ((Blk b6 (b.cells db0).toArray 36) :: (Blk b2 (a.cells da0).toArray 36) :: Rs) w154
  exact ⟨(by rw [hv' 4 (by decide)]; exact he48), (by rw [hv' 11 (by decide)]; exact he102), hv, hS155⟩
 ·intro k157 vals w158 h161 h162 hW160 hA159
  obtain rfl : k157 = 3 := Nat.le_antisymm h162 h161
  obtain ⟨he48, he102, he156, hS163⟩ := hW160
  refine obl rfl ?_
  refine (ov_buildSlice (k := 1) (parts' := [(0, .int .i64 ((cmpI a.lam b.lam))), (1, .int .i64 ((cmpI a.origin b.origin))), (2, .int .i64 ((cmpI a.seq b.seq)))]) (c := #[.int .i64 ((cmpI a.lam b.lam)), .int .i64 ((cmpI a.origin b.origin)), .int .i64 ((cmpI a.seq b.seq))]) Try.underlying34 Try.sizeOf3 Try.zeroValue3 (by decide) (mapP ⟨rfl, he48, rfl, he102, rfl, he156, trivial⟩) (by kernel_rfl) ?_)
  intro w166 b165 hn164
  have hS167 : Sep G W ((Blk b165 #[.int .i64 ((cmpI a.lam b.lam)), .int .i64 ((cmpI a.origin b.origin)), .int .i64 ((cmpI a.seq b.seq))] 3) :: (Blk b6 (b.cells db0).toArray 36) :: (Blk b2 (a.cells da0).toArray 36) :: Rs) w166 := hS163.new hn164
  intro vals' hv hv'
  refine ⟨?_, trivial⟩
  show ∃ (b165 : Nat), (vals' 4 = (.int .i64 ((cmpI a.lam b.lam)) : Value)) ∧ (vals' 11 = (.int .i64 ((cmpI a.origin b.origin)) : Value)) ∧ (vals' 18 = (.int .i64 ((cmpI a.seq b.seq)) : Value)) ∧ (vals' 19 = ((.slice (some ⟨b165, 0, none⟩) 3 3) : Value)) ∧ Sep G W ((Blk b165 #[.int .i64 ((cmpI a.lam b.lam)), .int .i64 ((cmpI a.origin b.origin)), .int .i64 ((cmpI a.seq b.seq))] 3) :: (Blk b6 (b.cells db0).toArray 36) :: (Blk b2 (a.cells da0).toArray 36) :: Rs) w166
  exact ⟨b165, (by rw [hv' 4 (by decide)]; exact he48), (by rw [hv' 11 (by decide)]; exact he102), (by rw [hv' 18 (by decide)]; exact he156), hv, hS167⟩
 ·intro k169 vals w170 h173 h174 hW172 hA171
  obtain rfl : k169 = 4 := Nat.le_antisymm h174 h173
  obtain ⟨b165, he48, he102, he156, he168, hS175⟩ := hW172
  refine obl rfl ?_
  have hS176 : Sep G W ((RowE (α := Int) own 3 (.slice (some ⟨b165, 0, none⟩) 3 3) [(cmpI a.lam b.lam), (cmpI a.origin b.origin), (cmpI a.seq b.seq)]) :: (Blk b6 (b.cells db0).toArray 36) :: (Blk b2 (a.cells da0).toArray 36) :: Rs) w170 := Sep.blkRow (src := own) (l := [(cmpI a.lam b.lam), (cmpI a.origin b.origin), (cmpI a.seq b.seq)]) (css := [[.int .i64 ((cmpI a.lam b.lam))], [.int .i64 ((cmpI a.origin b.origin))], [.int .i64 ((cmpI a.seq b.seq))]]) hS175 rfl ⟨fun _ _ => ⟨rfl, (cmpI_in a.lam b.lam)⟩, fun _ _ => ⟨rfl, (cmpI_in a.origin b.origin)⟩, fun _ _ => ⟨rfl, (cmpI_in a.seq b.seq)⟩, trivial⟩ (by first | decide | (simp only [List.length_cons, List.length_nil]; decide)) (show 3 ≤ maxLen by decide)
  have hr177 := hS176.row (i := 0) rfl
  have hr177s : [(cmpI a.lam b.lam), (cmpI a.origin b.origin), (cmpI a.seq b.seq)].length * 8 ≤ 140737488355328 := hr177.2
  obtain ⟨G178, hA180, hB181, hS182, hk183⟩ := hS176.lend
  have hrd184 := RowE.rd hA180
  have hrd184s : [(cmpI a.lam b.lam), (cmpI a.origin b.origin), (cmpI a.seq b.seq)].length * 8 ≤ 140737488355328 := hrd184.small
  refine (ov_call (f := 84) (vals := [(.slice (some ⟨b165, 0, none⟩) 3 3)]) (cap := []) (show _ = (.func (.func 84) #[] #[] : Value) from rfl) (mapL ⟨he168, trivial⟩) Try.call84 (D_or (l := [(cmpI a.lam b.lam), (cmpI a.origin b.origin), (cmpI a.seq b.seq)]) (vl := (.slice (some ⟨b165, 0, none⟩) 3 3)) hrd184 hS182) ?_)
  rintro _ w185 ⟨rfl, hS186⟩
  have hS187 : Sep G W ((RowE (α := Int) own 3 (.slice (some ⟨b165, 0, none⟩) 3 3) [(cmpI a.lam b.lam), (cmpI a.origin b.origin), (cmpI a.seq b.seq)]) :: (Blk b6 (b.cells db0).toArray 36) :: (Blk b2 (a.cells da0).toArray 36) :: Rs) w185 := hk183 _ _ hS186
  intro vals' hv hv'
  refine ⟨?_, trivial⟩
  show ∃ (b165 : Nat), (vals' 4 = (.int .i64 ((cmpI a.lam b.lam)) : Value)) ∧ (vals' 11 = (.int .i64 ((cmpI a.origin b.origin)) : Value)) ∧ (vals' 18 = (.int .i64 ((cmpI a.seq b.seq)) : Value)) ∧ (vals' 19 = ((.slice (some ⟨b165, 0, none⟩) 3 3) : Value)) ∧ (vals' 20 = (.int .i64 ((orL [(cmpI a.lam b.lam), (cmpI a.origin b.origin), (cmpI a.seq b.seq)])) : Value)) ∧ Sep G W ((RowE (α := Int) own 3 (.slice (some ⟨b165, 0, none⟩) 3 3) [(cmpI a.lam b.lam), (cmpI a.origin b.origin), (cmpI a.seq b.seq)]) :: (Blk b6 (b.cells db0).toArray 36) :: (Blk b2 (a.cells da0).toArray 36) :: Rs) w185
  exact ⟨b165, (by rw [hv' 4 (by decide)]; exact he48), (by rw [hv' 11 (by decide)]; exact he102), (by rw [hv' 18 (by decide)]; exact he156), (by rw [hv' 19 (by decide)]; exact he168), hv, hS187⟩
 ·intro k320 vals w321 h324 h325 hW323 hA322
  obtain rfl : k320 = 5 := Nat.le_antisymm h325 h324
  obtain ⟨b165, he48, he102, he156, he168, he188, hS326⟩ := hW323
  refine obl rfl ?_
  exact ov_assign (v := .int .i64 ((orL [(cmpI a.lam b.lam), (cmpI a.origin b.origin), (cmpI a.seq b.seq)]))) he188 (fun vals' hv _ => ⟨rfl, hv⟩)
 intro vals w327 hW328 hA329
 obtain ⟨b165, he48, he102, he156, he168, he188, hS330⟩ := hW328
 have e331 := hA329 21 (by decide)
 refine st_env (kv := [(0, .agg (a.cells da0).toArray), (1, .agg (b.cells db0).toArray), (2, .pointer (some ⟨b2, 0, none⟩)), (3, .pointer (some ⟨b6, 0, none⟩)), (4, .int .i64 ((orL [(cmpI a.lam b.lam), (cmpI a.origin b.origin), (cmpI a.seq b.seq)])))]) ⟨rfl, rfl, rfl, rfl, (by exact e331), trivial⟩ (fun ρw327 => ?_)
 refine st_nil ?_
 refine WP_ret ?_
 refine fin1 Try.results78 (show _ = (.int .i64 ((orL [(cmpI a.lam b.lam), (cmpI a.origin b.origin), (cmpI a.seq b.seq)])) : Value) from rfl) ?_
 have hS332 : Sep G W Rs w327 := hS330.sel 3 [] (Nat.le_add_left _ _) rfl rfl
 refine ⟨rfl, hS332⟩

theorem all_step {p : Nat → Prop} {k : Nat} (h : ∀ i, i < k → p i) (hk : p k) : ∀ i, i < k + 1 → p i := fun i hi => by
  rcases Nat.lt_or_ge i k with h1 | h1
  · exact h i h1
  · obtain rfl : i = k := by omega
    exact hk
theorem D_indexNeg {G : Nat → Prop} {W w : World} {Rs : List HP} {vl : Value} {l : List Int} (hl : RdS W G vl l)  (hS0 : Sep G W Rs w) : Ret Try.prog 86 [vl, .func (.func 79) #[] #[]] w (fun r w' => ∃ (c : Int), r = (.int .i64 (c) : Value) ∧ (InR c) ∧ (c < 0 ↔ ∀ i, i < l.length → 0 ≤ l.getD i 0) ∧ Sep G W Rs w') := by
 have hls : l.length * 8 ≤ 140737488355328 := hl.small
 refine Calls_of_WP (args := [vl, .func (.func 79) #[] #[]]) Try.func86 rfl rfl ?_
 refine WP_seq ?_
 refine WP_region0 (by kernel_rfl) (fun _ => ?_)
 refine st (ov_assign (v := .int .i64 (0)) rfl ?_)
 refine st_nil ?_
 refine WP_seq ?_
 refine WP_seq ?_
 refine WP_region0 (by kernel_rfl) (fun _ => ?_)
 refine st (ov_move (v := vl) rfl ?_)
 refine st (ov_len (n := l.length) Try.underlying34 rfl hl.sl ?_)
 refine st (ov_move (v := .int .i64 (0)) rfl ?_)
 refine st_nil ?_
 refine WP_block ?_
 refine WP_loop (fun mq σ wq => ∃ (k : Nat) (ρ : Env), mq = l.length - k ∧ σ = setAll ρ [(0, vl), (1, .func (.func 79) #[] #[]), (6, vl), (7, .int .i64 ((l.length : Nat) : Int)), (8, .int .i64 ((k : Nat) : Int))] ∧ (k ≤ l.length) ∧ (∀ i, i < k → 0 ≤ l.getD i 0) ∧ Sep G W Rs wq) ⟨0, _, rfl, setAll_self ⟨rfl, rfl, rfl, rfl, rfl, trivial⟩, Nat.zero_le _, (fun i h => absurd h (Nat.not_lt_zero i)), hS0⟩ ?_
 rintro m2 σ3 w1 ⟨k, ρl1, rfl, rfl, hkk, hm, hS4⟩
 refine WP_seq ?_
 refine WP_region0 (by kernel_rfl) (fun _ => ?_)
 refine st (ov_lss (k := .i64) (a := ((k : Nat) : Int)) (b := ((l.length : Nat) : Int)) rfl rfl ?_)
 refine st_nil ?_
 refine WP_seq ?_
 cases hc5 : decide (((k : Nat) : Int) < ((l.length : Nat) : Int))
 ·skip
  have hc5 := of_decide_eq_false hc5
  refine WP_cond_f rfl ?_
  refine WP_exit ?_
  refine blk_exit ?_
  refine WP_seq ?_
  refine WP_region0 (by kernel_rfl) (fun _ => ?_)
  refine st (ov_assign (v := .int .i64 (-1)) rfl ?_)
  refine st_nil ?_
  refine WP_ret ?_
  refine fin1 Try.results86 (show _ = (.int .i64 (-1) : Value) from rfl) ?_
  refine ⟨-1, rfl, ?_, ?_, hS4⟩
  · decide
  · exact ⟨fun _ i hi => hm i (by omega), fun _ => by decide⟩
 ·skip
  have hc5 := of_decide_eq_true hc5
  refine WP_cond_t rfl ?_
  refine WP_skip ?_
  refine WP_seq ?_
  refine WP_block ?_
  refine WP_seq ?_
  refine WP_region0 (by kernel_rfl) (fun _ => ?_)
  refine st (ov_move (v := .int .i64 ((k : Nat) : Int)) rfl ?_)
  refine st (ov_assign (v := .int .i64 ((k : Nat) : Int)) rfl ?_)
  refine st_nil ?_
  refine WP_seq ?_
  refine WP_region0 (by kernel_rfl) (fun _ => ?_)
  refine st (ov_move (v := .func (.func 79) #[] #[]) rfl ?_)
  refine st (ov_move (v := vl) rfl ?_)
  refine st (ov_move (v := .int .i64 ((k : Nat) : Int)) rfl ?_)
  have hi6 : k < l.length := (by first | omega | (simp only [lens]; omega))
  refine st (ov_indexAddrN (k := 1) (i := k) Try.underlying34 Try.sizeOf3 rfl hl.sl rfl hi6 ?_)
  have hi8 : k < l.length := (by first | omega | (simp only [lens]; omega))
  obtain ⟨hce7, hxe7⟩ := hl.int hi8
  rw [← getD_at 0 hi8] at hce7 hxe7
  have hcw9 := hS4.cells hce7 (hl.foot (ne_of_lt hi8))
  refine st (ov_load1 (v := .int .i64 ((l.getD k 0))) Try.isAgg3 rfl (hcw9.get (j := 0) rfl) ?_)
  refine st (ov_call (f := 79) (vals := [.int .i64 ((l.getD k 0))]) (cap := []) (show _ = (.func (.func 79) #[] #[] : Value) from rfl) rfl Try.call79 (D_below (x := (l.getD k 0)) hxe7 hS4) ?_)
  rintro _ w10 ⟨rfl, hS11⟩
  refine st_nil ?_
  cases hc12 : decide ((l.getD k 0) < 0)
  ·skip
   have hc12 := of_decide_eq_false hc12
   refine WP_cond_f rfl ?_
   refine WP_skip ?_
   refine WP_region0 (by kernel_rfl) (fun _ => ?_)
   have hr13 : InR ((k + 1 : Nat) : Int) := by first | omega | (simp only [lens]; omega)
   refine st (ov_add (r := ((k + 1 : Nat) : Int)) (k := .i64) (a := ((k : Nat) : Int)) (b := 1) rfl rfl (by rw [show (((k : Nat) : Int) + 1 : Int) = ((k + 1 : Nat) : Int) by first | omega | (simp only [lens]; omega)]; exact wrap_in hr13) ?_)
   refine st (ov_move (v := .int .i64 ((k + 1 : Nat) : Int)) rfl ?_)
   refine st_nil ?_
   exact ⟨_, by omega, k + 1, _, rfl, setAll_self ⟨rfl, rfl, rfl, rfl, rfl, trivial⟩, by omega, (all_step hm (by omega)), hS11⟩
  ·skip
   have hc12 := of_decide_eq_true hc12
   refine WP_cond_t rfl ?_
   refine WP_seq ?_
   refine WP_region0 (by kernel_rfl) (fun _ => ?_)
   refine st (ov_move (v := .int .i64 ((k : Nat) : Int)) rfl ?_)
   refine st (ov_assign (v := .int .i64 ((k : Nat) : Int)) rfl ?_)
   refine st_nil ?_
   refine WP_ret ?_
   refine fin1 Try.results86 (show _ = (.int .i64 ((k : Nat) : Int) : Value) from rfl) ?_
   refine ⟨((k : Nat) : Int), rfl, ?_, ?_, hS11⟩
   · show InR ((k : Nat) : Int); omega
   · refine ⟨fun h => by omega, fun h => ?_⟩
     have h8 := h k (by omega)
     omega

end Go.Proofs.Ytgjgmojjeehieaa
