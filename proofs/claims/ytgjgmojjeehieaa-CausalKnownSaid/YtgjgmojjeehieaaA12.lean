/- Steps of the proofs of this seat: part A12. -/
import Derived.Test.YtgjgmojjeehieaaA11
import Derived.Test.YtgjgmojjeehieaaSortF
import Derived.Test.YtgjgmojjeehieaaSortL
set_option linter.unusedSimpArgs false
set_option linter.unusedVariables false
set_option maxRecDepth 8000
set_option maxHeartbeats 4000000
namespace Go.Proofs.Ytgjgmojjeehieaa
open Go.Proofs Go.RowKit Go.Sort Go.Shelf

theorem D_compareS {G : Nat → Prop} {W w : World} {Rs : List HP} {a : Ev} {da : Value} {b : Ev} {db : Value} (hS0 : Sep G W Rs w) : Ret Try.prog 78 [.agg (a.cells da).toArray, .agg (b.cells db).toArray] w (fun r w' => r = (.int .i64 ((cmpE a b)) : Value) ∧ Sep G W Rs w') := by
 refine Calls_of_WP (args := [.agg (a.cells da).toArray, .agg (b.cells db).toArray]) Try.func78 rfl rfl ?_
 refine WP_seq ?_
 refine WP_region0 (by kernel_rfl) (fun _ => ?_)
 refine st (ov_box (v := .agg (a.cells da).toArray) rfl ?_)
 intro w3 b2 hn1
 have hS4 : Sep G W ((Blk b2 (a.cells da).toArray 36) :: Rs) w3 := hS0.new hn1
 refine st (ov_box (v := .agg (b.cells db).toArray) rfl ?_)
 intro w7 b6 hn5
 have hS8 : Sep G W ((Blk b6 (b.cells db).toArray 36) :: (Blk b2 (a.cells da).toArray 36) :: Rs) w7 := hS4.new hn5
 refine st (ov_assign (v := .int .i64 (0)) rfl ?_)
 refine st_nil ?_
 refine WP_seq ?_
 refine WP_draw4 (WF [fun vals wq => Sep G W ((Blk b6 (b.cells db).toArray 36) :: (Blk b2 (a.cells da).toArray 36) :: Rs) wq, fun vals wq => (vals 4 = (.int .i64 ((cmpI a.lam b.lam)) : Value)) ∧ Sep G W ((Blk b6 (b.cells db).toArray 36) :: (Blk b2 (a.cells da).toArray 36) :: Rs) wq, fun vals wq => (vals 4 = (.int .i64 ((cmpI a.lam b.lam)) : Value)) ∧ (vals 11 = (.int .i64 ((cmpI a.origin b.origin)) : Value)) ∧ Sep G W ((Blk b6 (b.cells db).toArray 36) :: (Blk b2 (a.cells da).toArray 36) :: Rs) wq, fun vals wq => (vals 4 = (.int .i64 ((cmpI a.lam b.lam)) : Value)) ∧ (vals 11 = (.int .i64 ((cmpI a.origin b.origin)) : Value)) ∧ (vals 18 = (.int .i64 ((cmpI a.seq b.seq)) : Value)) ∧ Sep G W ((Blk b6 (b.cells db).toArray 36) :: (Blk b2 (a.cells da).toArray 36) :: Rs) wq, fun vals wq => ∃ (b165 : Nat), (vals 4 = (.int .i64 ((cmpI a.lam b.lam)) : Value)) ∧ (vals 11 = (.int .i64 ((cmpI a.origin b.origin)) : Value)) ∧ (vals 18 = (.int .i64 ((cmpI a.seq b.seq)) : Value)) ∧ (vals 19 = ((.slice (some ⟨b165, 0, none⟩) 3 3) : Value)) ∧ Sep G W ((Blk b165 #[.int .i64 ((cmpI a.lam b.lam)), .int .i64 ((cmpI a.origin b.origin)), .int .i64 ((cmpI a.seq b.seq))] 3) :: (Blk b6 (b.cells db).toArray 36) :: (Blk b2 (a.cells da).toArray 36) :: Rs) wq, fun vals wq => ∃ (b165 : Nat), (vals 4 = (.int .i64 ((cmpI a.lam b.lam)) : Value)) ∧ (vals 11 = (.int .i64 ((cmpI a.origin b.origin)) : Value)) ∧ (vals 18 = (.int .i64 ((cmpI a.seq b.seq)) : Value)) ∧ (vals 19 = ((.slice (some ⟨b165, 0, none⟩) 3 3) : Value)) ∧ (vals 20 = (.int .i64 ((orL [(cmpI a.lam b.lam), (cmpI a.origin b.origin), (cmpI a.seq b.seq)])) : Value)) ∧ Sep G W ((RowE (α := Int) own 3 (.slice (some ⟨b165, 0, none⟩) 3 3) [(cmpI a.lam b.lam), (cmpI a.origin b.origin), (cmpI a.seq b.seq)]) :: (Blk b6 (b.cells db).toArray 36) :: (Blk b2 (a.cells da).toArray 36) :: Rs) wq]) (AF [Vl 0 (.pointer (some ⟨b2, 2, none⟩)), Vl 1 (.int .i64 (a.lam)), Vl 2 (.pointer (some ⟨b6, 2, none⟩)), Vl 3 (.int .i64 (b.lam)), fun _ => True, Vl 5 (.pointer (some ⟨b2, 0, none⟩)), Vl 6 (.pointer (some ⟨b2, 0, none⟩)), Vl 7 (.int .i64 (a.origin)), Vl 8 (.pointer (some ⟨b6, 0, none⟩)), Vl 9 (.pointer (some ⟨b6, 0, none⟩)), Vl 10 (.int .i64 (b.origin)), fun _ => True, Vl 12 (.pointer (some ⟨b2, 0, none⟩)), Vl 13 (.pointer (some ⟨b2, 1, none⟩)), Vl 14 (.int .i64 (a.seq)), Vl 15 (.pointer (some ⟨b6, 0, none⟩)), Vl 16 (.pointer (some ⟨b6, 1, none⟩)), Vl 17 (.int .i64 (b.seq)), fun _ => True, fun _ => True, fun _ => True, Vl 21 (.int .i64 ((orL [(cmpI a.lam b.lam), (cmpI a.origin b.origin), (cmpI a.seq b.seq)])))]) [[], [0], [], [2], [0, 1, 2, 3], [], [5], [5, 6], [], [8], [8, 9], [0, 1, 2, 3, 4, 5, 6, 7, 8, 9, 10], [], [12], [12, 13], [], [15], [15, 16], [0, 1, 2, 3, 4, 5, 6, 7, 8, 9, 10, 11, 12, 13, 14, 15, 16, 17], [0, 1, 2, 3, 4, 5, 6, 7, 8, 9, 10, 11, 12, 13, 14, 15, 16, 17, 18], [0, 1, 2, 3, 4, 5, 6, 7, 8, 9, 10, 11, 12, 13, 14, 15, 16, 17, 18, 19], [0, 1, 2, 3, 4, 5, 6, 7, 8, 9, 10, 11, 12, 13, 14, 15, 16, 17, 18, 19, 20]] [4, 11, 18, 19, 20] [(0, 0), (0, 0), (0, 0), (0, 0), (0, 0), (0, 1), (0, 1), (0, 1), (0, 1), (0, 1), (0, 1), (1, 1), (0, 2), (0, 2), (0, 2), (0, 2), (0, 2), (0, 2), (2, 2), (3, 3), (4, 4), (5, 5)] (by kernel_rfl) (by kernel_rfl) (by kernel_rfl) rfl (by kernel_rfl) (by kernel_rfl) (fun _ h1 h2 h3 h4 _ => hS8.same h1 h2 h3 h4) ?_ (AF_loc ⟨dA, dA, dA, dA, dT, dA, dA, dA, dA, dA, dA, dT, dA, dA, dA, dA, dA, dA, dT, dT, dT, dA, trivial⟩) ⟨?_, ?_, ?_, ?_, ?_, ?_, ?_, ?_, ?_, ?_, ?_, ?_, ?_, ?_, ?_, ?_, ?_, ?_, ?_, ?_, ?_, ?_, trivial⟩ ?_
 ·intro k vals vals' w hv h
  have e : ∀ j ∈ ([4, 11, 18, 19, 20] : List Nat), vals' j = vals j := hv
  match k, h with
  | 0, h => exact h
  | 1, h => exact (by simpa only [WF, List.getElem?_cons_zero, List.getElem?_cons_succ, e 4 (by decide)] using h)
  | 2, h => exact (by simpa only [WF, List.getElem?_cons_zero, List.getElem?_cons_succ, e 4 (by decide), e 11 (by decide)] using h)
  | 3, h => exact (by simpa only [WF, List.getElem?_cons_zero, List.getElem?_cons_succ, e 4 (by decide), e 11 (by decide), e 18 (by decide)] using h)
  | 4, h => exact (by simpa only [WF, List.getElem?_cons_zero, List.getElem?_cons_succ, e 4 (by decide), e 11 (by decide), e 18 (by decide), e 19 (by decide)] using h)
  | 5, h => exact (by simpa only [WF, List.getElem?_cons_zero, List.getElem?_cons_succ, e 4 (by decide), e 11 (by decide), e 18 (by decide), e 19 (by decide), e 20 (by decide)] using h)
  | _ + 6, _ => trivial
 ·intro k196 vals w197 h200 h201 hW199 hA198
  refine obl rfl ?_
  exact fd36_1 rfl (fun vals' hv _ => ⟨rfl, hv⟩)
 ·intro k202 vals w203 h206 h207 hW205 hA204
  obtain rfl : k202 = 0 := Nat.le_antisymm h207 h206
  have hS208 : Sep G W ((Blk b6 (b.cells db).toArray 36) :: (Blk b2 (a.cells da).toArray 36) :: Rs) w203 := hW205
  have e209 := hA204 0 (by decide)
  refine obl rfl ?_
  exact ov_load1 (v := .int .i64 (a.lam)) Try.isAgg3 e209 (blk_cellL (hS208.blk (i := 1) rfl) rfl) (fun vals' hv _ => ⟨rfl, hv⟩)
 ·intro k210 vals w211 h214 h215 hW213 hA212
  refine obl rfl ?_
  exact fd36_1 rfl (fun vals' hv _ => ⟨rfl, hv⟩)
 ·intro k216 vals w217 h220 h221 hW219 hA218
  obtain rfl : k216 = 0 := Nat.le_antisymm h221 h220
  have hS222 : Sep G W ((Blk b6 (b.cells db).toArray 36) :: (Blk b2 (a.cells da).toArray 36) :: Rs) w217 := hW219
  have e223 := hA218 2 (by decide)
  refine obl rfl ?_
  exact ov_load1 (v := .int .i64 (b.lam)) Try.isAgg3 e223 (blk_cellL (hS222.blk (i := 0) rfl) rfl) (fun vals' hv _ => ⟨rfl, hv⟩)
 ·intro k37 vals w38 h41 h42 hW40 hA39
  obtain rfl : k37 = 0 := Nat.le_antisymm h42 h41
  have hS43 : Sep G W ((Blk b6 (b.cells db).toArray 36) :: (Blk b2 (a.cells da).toArray 36) :: Rs) w38 := hW40
  have e44 := hA39 1 (by decide)
  have e45 := hA39 3 (by decide)
  refine obl rfl ?_
  refine (ov_call (f := 85) (vals := [.int .i64 (a.lam), .int .i64 (b.lam)]) (cap := []) (show _ = (.func (.func 85) #[] #[] : Value) from rfl) (mapL ⟨e44, e45, trivial⟩) Try.call85 (D_cmp  hS43) ?_)
  rintro _ w46 ⟨rfl, hS47⟩
  intro vals' hv hv'
  refine ⟨?_, trivial⟩
  show (vals' 4 = (.int .i64 ((cmpI a.lam b.lam)) : Value)) ∧ Sep G W ((Blk b6 (b.cells db).toArray 36) :: (Blk b2 (a.cells da).toArray 36) :: Rs) w46
  exact ⟨hv, hS47⟩
 ·intro k224 vals w225 h228 h229 hW227 hA226
  refine obl rfl ?_
  exact fd36_0 rfl (fun vals' hv _ => ⟨rfl, hv⟩)
 ·intro k230 vals w231 h234 h235 hW233 hA232
  have e236 := hA232 5 (by decide)
  refine obl rfl ?_
  exact fd33_0 e236 (fun vals' hv _ => ⟨rfl, hv⟩)
 ·intro k237 vals w238 h241 h242 hW240 hA239
  have hkk : k237 = 0 ∨ k237 = 1 := by have h1 : 0 ≤ k237 := h241; have h2 : k237 ≤ 1 := h242; omega
  rcases hkk with rfl | rfl
  ·skip
   have hS243 : Sep G W ((Blk b6 (b.cells db).toArray 36) :: (Blk b2 (a.cells da).toArray 36) :: Rs) w238 := hW240
   have e244 := hA239 6 (by decide)
   refine obl rfl ?_
   exact ov_load1 (v := .int .i64 (a.origin)) Try.isAgg3 e244 (blk_cellL (hS243.blk (i := 1) rfl) rfl) (fun vals' hv _ => ⟨rfl, hv⟩)
  ·skip
   obtain ⟨he48, hS245⟩ := hW240
   have e246 := hA239 6 (by decide)
   refine obl rfl ?_
   exact ov_load1 (v := .int .i64 (a.origin)) Try.isAgg3 e246 (blk_cellL (hS245.blk (i := 1) rfl) rfl) (fun vals' hv _ => ⟨rfl, hv⟩)
 ·intro k247 vals w248 h251 h252 hW250 hA249
  refine obl rfl ?_
  exact fd36_0 rfl (fun vals' hv _ => ⟨rfl, hv⟩)
 ·intro k253 vals w254 h257 h258 hW256 hA255
  have e259 := hA255 8 (by decide)
  refine obl rfl ?_
  exact fd33_0 e259 (fun vals' hv _ => ⟨rfl, hv⟩)
 ·intro k260 vals w261 h264 h265 hW263 hA262
  have hkk : k260 = 0 ∨ k260 = 1 := by have h1 : 0 ≤ k260 := h264; have h2 : k260 ≤ 1 := h265; omega
  rcases hkk with rfl | rfl
  ·skip
   have hS266 : Sep G W ((Blk b6 (b.cells db).toArray 36) :: (Blk b2 (a.cells da).toArray 36) :: Rs) w261 := hW263
   have e267 := hA262 9 (by decide)
   refine obl rfl ?_
   exact ov_load1 (v := .int .i64 (b.origin)) Try.isAgg3 e267 (blk_cellL (hS266.blk (i := 0) rfl) rfl) (fun vals' hv _ => ⟨rfl, hv⟩)
  ·skip
   obtain ⟨he48, hS268⟩ := hW263
   have e269 := hA262 9 (by decide)
   refine obl rfl ?_
   exact ov_load1 (v := .int .i64 (b.origin)) Try.isAgg3 e269 (blk_cellL (hS268.blk (i := 0) rfl) rfl) (fun vals' hv _ => ⟨rfl, hv⟩)
 ·intro k91 vals w92 h95 h96 hW94 hA93
  obtain rfl : k91 = 1 := Nat.le_antisymm h96 h95
  obtain ⟨he48, hS97⟩ := hW94
  have e98 := hA93 7 (by decide)
  have e99 := hA93 10 (by decide)
  refine obl rfl ?_
  refine (ov_call (f := 85) (vals := [.int .i64 (a.origin), .int .i64 (b.origin)]) (cap := []) (show _ = (.func (.func 85) #[] #[] : Value) from rfl) (mapL ⟨e98, e99, trivial⟩) Try.call85 (D_cmp  hS97) ?_)
  rintro _ w100 ⟨rfl, hS101⟩
  intro vals' hv hv'
  refine ⟨?_, trivial⟩
  show (vals' 4 = (.int .i64 ((cmpI a.lam b.lam)) : Value)) ∧ (vals' 11 = (.int .i64 ((cmpI a.origin b.origin)) : Value)) ∧ Sep G W ((Blk b6 (b.cells db).toArray 36) :: (Blk b2 (a.cells da).toArray 36) :: Rs) w100
  exact ⟨(by rw [hv' 4 (by decide)]; exact he48), hv, hS101⟩
 ·intro k270 vals w271 h274 h275 hW273 hA272
  refine obl rfl ?_
  exact fd36_0 rfl (fun vals' hv _ => ⟨rfl, hv⟩)
 ·intro k276 vals w277 h280 h281 hW279 hA278
  have e282 := hA278 12 (by decide)
  refine obl rfl ?_
  exact fd33_1 e282 (fun vals' hv _ => ⟨rfl, hv⟩)
 ·intro k283 vals w284 h287 h288 hW286 hA285
  have hkk : k283 = 0 ∨ k283 = 1 ∨ k283 = 2 := by have h1 : 0 ≤ k283 := h287; have h2 : k283 ≤ 2 := h288; omega
  rcases hkk with rfl | rfl | rfl
  ·skip
   have hS289 : Sep G W ((Blk b6 (b.cells db).toArray 36) :: (Blk b2 (a.cells da).toArray 36) :: Rs) w284 := hW286
   have e290 := hA285 13 (by decide)
   refine obl rfl ?_
   exact ov_load1 (v := .int .i64 (a.seq)) Try.isAgg3 e290 (blk_cellL (hS289.blk (i := 1) rfl) rfl) (fun vals' hv _ => ⟨rfl, hv⟩)
  ·skip
   obtain ⟨he48, hS291⟩ := hW286
   have e292 := hA285 13 (by decide)
   refine obl rfl ?_
   exact ov_load1 (v := .int .i64 (a.seq)) Try.isAgg3 e292 (blk_cellL (hS291.blk (i := 1) rfl) rfl) (fun vals' hv _ => ⟨rfl, hv⟩)
  ·skip
   obtain ⟨he48, he102, hS293⟩ := hW286
   have e294 := hA285 13 (by decide)
   refine obl rfl ?_
   exact ov_load1 (v := .int .i64 (a.seq)) Try.isAgg3 e294 (blk_cellL (hS293.blk (i := 1) rfl) rfl) (fun vals' hv _ => ⟨rfl, hv⟩)
 ·intro k295 vals w296 h299 h300 hW298 hA297
  refine obl rfl ?_
  exact fd36_0 rfl (fun vals' hv _ => ⟨rfl, hv⟩)
 ·intro k301 vals w302 h305 h306 hW304 hA303
  have e307 := hA303 15 (by decide)
  refine obl rfl ?_
  exact fd33_1 e307 (fun vals' hv _ => ⟨rfl, hv⟩)
 ·intro k308 vals w309 h312 h313 hW311 hA310
  have hkk : k308 = 0 ∨ k308 = 1 ∨ k308 = 2 := by have h1 : 0 ≤ k308 := h312; have h2 : k308 ≤ 2 := h313; omega
  rcases hkk with rfl | rfl | rfl
  ·skip
   have hS314 : Sep G W ((Blk b6 (b.cells db).toArray 36) :: (Blk b2 (a.cells da).toArray 36) :: Rs) w309 := hW311
   have e315 := hA310 16 (by decide)
   refine obl rfl ?_
   exact ov_load1 (v := .int .i64 (b.seq)) Try.isAgg3 e315 (blk_cellL (hS314.blk (i := 0) rfl) rfl) (fun vals' hv _ => ⟨rfl, hv⟩)
  ·skip
   obtain ⟨he48, hS316⟩ := hW311
   have e317 := hA310 16 (by decide)
   refine obl rfl ?_
   exact ov_load1 (v := .int .i64 (b.seq)) Try.isAgg3 e317 (blk_cellL (hS316.blk (i := 0) rfl) rfl) (fun vals' hv _ => ⟨rfl, hv⟩)
  ·skip
   obtain ⟨he48, he102, hS318⟩ := hW311
   have e319 := hA310 16 (by decide)
   refine obl rfl ?_
   exact ov_load1 (v := .int .i64 (b.seq)) Try.isAgg3 e319 (blk_cellL (hS318.blk (i := 0) rfl) rfl) (fun vals' hv _ => ⟨rfl, hv⟩)
 ·intro k145 vals w146 h149 h150 hW148 hA147
  obtain rfl : k145 = 2 := Nat.le_antisymm h150 h149
  obtain ⟨he48, he102, hS151⟩ := hW148
  have e152 := hA147 14 (by decide)
  have e153 := hA147 17 (by decide)
  refine obl rfl ?_
  refine (ov_call (f := 85) (vals := [.int .i64 (a.seq), .int .i64 (b.seq)]) (cap := []) (show _ = (.func (.func 85) #[] #[] : Value) from rfl) (mapL ⟨e152, e153, trivial⟩) Try.call85 (D_cmp  hS151) ?_)
  rintro _ w154 ⟨rfl, hS155⟩
  intro vals' hv hv'
  refine ⟨?_, trivial⟩
  show (vals' 4 = (.int .i64 ((cmpI a.lam b.lam)) : Value)) ∧ (vals' 11 = (.int .i64 ((cmpI a.origin b.origin)) : Value)) ∧ (vals' 18 = (.int .i64 ((cmpI a.seq b.seq)) : Value)) ∧ Sep G W ((Blk b6 (b.cells db).toArray 36) :: (Blk b2 (a.cells da).toArray 36) :: Rs) w154
  exact ⟨(by rw [hv' 4 (by decide)]; exact he48), (by rw [hv' 11 (by decide)]; exact he102), hv, hS155⟩
 ·intro k157 vals w158 h161 h162 hW160 hA159
  obtain rfl : k157 = 3 := Nat.le_antisymm h162 h161
  obtain ⟨he48, he102, he156, hS163⟩ := hW160
  refine obl rfl ?_
  refine (ov_buildSlice (k := 1) (parts' := [(0, .int .i64 ((cmpI a.lam b.lam))), (1, .int .i64 ((cmpI a.origin b.origin))), (2, .int .i64 ((cmpI a.seq b.seq)))]) (c := #[.int .i64 ((cmpI a.lam b.lam)), .int .i64 ((cmpI a.origin b.origin)), .int .i64 ((cmpI a.seq b.seq))]) Try.underlying34 Try.sizeOf3 Try.zeroValue3 (by decide) (mapP ⟨rfl, he48, rfl, he102, rfl, he156, trivial⟩) (by kernel_rfl) ?_)
  intro w166 b165 hn164
  have hS167 : Sep G W ((Blk b165 #[.int .i64 ((cmpI a.lam b.lam)), .int .i64 ((cmpI a.origin b.origin)), .int .i64 ((cmpI a.seq b.seq))] 3) :: (Blk b6 (b.cells db).toArray 36) :: (Blk b2 (a.cells da).toArray 36) :: Rs) w166 := hS163.new hn164
  intro vals' hv hv'
  refine ⟨?_, trivial⟩
  show ∃ (b165 : Nat), (vals' 4 = (.int .i64 ((cmpI a.lam b.lam)) : Value)) ∧ (vals' 11 = (.int .i64 ((cmpI a.origin b.origin)) : Value)) ∧ (vals' 18 = (.int .i64 ((cmpI a.seq b.seq)) : Value)) ∧ (vals' 19 = ((.slice (some ⟨b165, 0, none⟩) 3 3) : Value)) ∧ Sep G W ((Blk b165 #[.int .i64 ((cmpI a.lam b.lam)), .int .i64 ((cmpI a.origin b.origin)), .int .i64 ((cmpI a.seq b.seq))] 3) :: (Blk b6 (b.cells db).toArray 36) :: (Blk b2 (a.cells da).toArray 36) :: Rs) w166
  exact ⟨b165, (by rw [hv' 4 (by decide)]; exact he48), (by rw [hv' 11 (by decide)]; exact he102), (by rw [hv' 18 (by decide)]; exact he156), hv, hS167⟩
 ·intro k169 vals w170 h173 h174 hW172 hA171
  obtain rfl : k169 = 4 := Nat.le_antisymm h174 h173
  obtain ⟨b165, he48, he102, he156, he168, hS175⟩ := hW172
  refine obl rfl ?_
  have hS176 : Sep G W ((RowE (α := Int) own 3 (.slice (some ⟨b165, 0, none⟩) 3 3) [(cmpI a.lam b.lam), (cmpI a.origin b.origin), (cmpI a.seq b.seq)]) :: (Blk b6 (b.cells db).toArray 36) :: (Blk b2 (a.cells da).toArray 36) :: Rs) w170 := Sep.blkRow (src := own) (l := [(cmpI a.lam b.lam), (cmpI a.origin b.origin), (cmpI a.seq b.seq)]) (css := [[.int .i64 ((cmpI a.lam b.lam))], [.int .i64 ((cmpI a.origin b.origin))], [.int .i64 ((cmpI a.seq b.seq))]]) hS175 rfl ⟨fun _ _ => ⟨rfl, (cmpI_in a.lam b.lam)⟩, fun _ _ => ⟨rfl, (cmpI_in a.origin b.origin)⟩, fun _ _ => ⟨rfl, (cmpI_in a.seq b.seq)⟩, trivial⟩ (by first | decide | (simp only [List.length_cons, List.length_nil]; decide)) (show 3 ≤ maxLen by decide)
  have hr177 := hS176.row (i := 0) rfl
  have hr177s : [(cmpI a.lam b.lam), (cmpI a.origin b.origin), (cmpI a.seq b.seq)].length * 8 ≤ 140737488355328 := hr177.2
  obtain ⟨G178, hA180, hB181, hS182, hk183⟩ := hS176.lend
  have hrd184 := RowE.rd hA180
  have hrd184s : [(cmpI a.lam b.lam), (cmpI a.origin b.origin), (cmpI a.seq b.seq)].length * 8 ≤ 140737488355328 := hrd184.small
  refine (ov_call (f := 84) (vals := [(.slice (some ⟨b165, 0, none⟩) 3 3)]) (cap := []) (show _ = (.func (.func 84) #[] #[] : Value) from rfl) (mapL ⟨he168, trivial⟩) Try.call84 (D_or (l := [(cmpI a.lam b.lam), (cmpI a.origin b.origin), (cmpI a.seq b.seq)]) (vl := (.slice (some ⟨b165, 0, none⟩) 3 3)) hrd184 hS182) ?_)
  rintro _ w185 ⟨rfl, hS186⟩
  have hS187 : Sep G W ((RowE (α := Int) own 3 (.slice (some ⟨b165, 0, none⟩) 3 3) [(cmpI a.lam b.lam), (cmpI a.origin b.origin), (cmpI a.seq b.seq)]) :: (Blk b6 (b.cells db).toArray 36) :: (Blk b2 (a.cells da).toArray 36) :: Rs) w185 := hk183 _ _ hS186
  intro vals' hv hv'
  refine ⟨?_, trivial⟩
  show ∃ (b165 : Nat), (vals' 4 = (.int .i64 ((cmpI a.lam b.lam)) : Value)) ∧ (vals' 11 = (.int .i64 ((cmpI a.origin b.origin)) : Value)) ∧ (vals' 18 = (.int .i64 ((cmpI a.seq b.seq)) : Value)) ∧ (vals' 19 = ((.slice (some ⟨b165, 0, none⟩) 3 3) : Value)) ∧ (vals' 20 = (.int .i64 ((orL [(cmpI a.lam b.lam), (cmpI a.origin b.origin), (cmpI a.seq b.seq)])) : Value)) ∧ Sep G W ((RowE (α := Int) own 3 (.slice (some ⟨b165, 0, none⟩) 3 3) [(cmpI a.lam b.lam), (cmpI a.origin b.origin), (cmpI a.seq b.seq)]) :: (Blk b6 (b.cells db).toArray 36) :: (Blk b2 (a.cells da).toArray 36) :: Rs) w185
  exact ⟨b165, (by rw [hv' 4 (by decide)]; exact he48), (by rw [hv' 11 (by decide)]; exact he102), (by rw [hv' 18 (by decide)]; exact he156), (by rw [hv' 19 (by decide)]; exact he168), hv, hS187⟩
 ·intro k320 vals w321 h324 h325 hW323 hA322
  obtain rfl : k320 = 5 := Nat.le_antisymm h325 h324
  obtain ⟨b165, he48, he102, he156, he168, he188, hS326⟩ := hW323
  refine obl rfl ?_
  exact ov_assign (v := .int .i64 ((orL [(cmpI a.lam b.lam), (cmpI a.origin b.origin), (cmpI a.seq b.seq)]))) he188 (fun vals' hv _ => ⟨rfl, hv⟩)
 intro vals w327 hW328 hA329
 obtain ⟨b165, he48, he102, he156, he168, he188, hS330⟩ := hW328
 have e331 := hA329 21 (by decide)
 refine st_env (kv := [(0, .agg (a.cells da).toArray), (1, .agg (b.cells db).toArray), (2, .pointer (some ⟨b2, 0, none⟩)), (3, .pointer (some ⟨b6, 0, none⟩)), (4, .int .i64 ((orL [(cmpI a.lam b.lam), (cmpI a.origin b.origin), (cmpI a.seq b.seq)])))]) ⟨rfl, rfl, rfl, rfl, (by exact e331), trivial⟩ (fun ρw327 => ?_)
 refine st_nil ?_
 refine WP_ret ?_
 refine fin1 Try.results78 (show _ = (.int .i64 ((orL [(cmpI a.lam b.lam), (cmpI a.origin b.origin), (cmpI a.seq b.seq)])) : Value) from rfl) ?_
 have hS332 : Sep G W Rs w327 := hS330.sel 3 [] (Nat.le_add_left _ _) rfl rfl
 refine ⟨rfl, hS332⟩

theorem cmpE_ret {W : World} {a b : Ev} {da db : Value} : Ret Try.prog 78 [.agg (a.cells da).toArray, .agg (b.cells db).toArray] W (fun r W' => r = .int .i64 (cmpE a b) ∧ Ext W W') :=
  Ret.mono (D_compareS (Sep.start W)) (fun v w' ⟨h1, h2⟩ => ⟨h1, h2.fin⟩)
/-- An event's cells: an event, and where its Deps lie. -/
abbrev EvP := Ev × {v : Value // v.oneCell' = true}
instance : Inhabited EvP := ⟨(default, ⟨.slice none 0 0, rfl⟩)⟩
def EvP.cells (s : EvP) : List Value := s.1.cells s.2.1
instance : Rep EvP where
  k := 10
  rd _ _ cs s := cs = s.cells
  bytes := 96
  bpos := by decide
  kpos := by decide
  len h := by rw [h]; rfl
  one h := by rw [h]; rename_i s; exact all1 ⟨rfl, rfl, rfl, s.2.2, rfl, rfl, rfl, rfl, rfl, rfl, trivial⟩
  mono h _ := h
theorem els_split {w : World} {F : Nat → Prop} : ∀ {css : List (List Value)} {l : List Ev}, Els w F css l → ∃ ls : List EvP, ls.map (·.1) = l ∧ Els w F css ls ∧ ∀ s ∈ ls, RdS w F s.2.1 s.1.deps ∧ s.1.Ok
  | [], [], _ => ⟨[], rfl, trivial, fun _ h => by cases h⟩
  | cs :: css, x :: l, h => by
    obtain ⟨⟨d, e, h1, h2⟩, h3⟩ := h
    obtain ⟨ls, h4, h5, h6⟩ := els_split h3
    refine ⟨(x, ⟨d, h1.sl.one⟩) :: ls, by simp [h4], ⟨e, h5⟩, fun s hs => ?_⟩
    rcases List.mem_cons.1 hs with rfl | hs
    · exact ⟨h1, h2⟩
    · exact h6 s hs
  | [], _ :: _, h => h.elim
  | _ :: _, [], h => h.elim
theorem els_join {w : World} {F : Nat → Prop} : ∀ {css : List (List Value)} {ls : List EvP}, Els w F css ls → (∀ s ∈ ls, RdS w F s.2.1 s.1.deps ∧ s.1.Ok) → Els w F css (ls.map (·.1))
  | [], [], _, _ => trivial
  | cs :: css, s :: ls, h, hs => by
    obtain ⟨h1, h2⟩ := h
    have h3 := hs s (List.mem_cons_self ..)
    exact ⟨⟨_, h1, h3.1, h3.2⟩, els_join h2 (fun s hs' => hs s (List.mem_cons_of_mem _ hs'))⟩
  | [], _ :: _, h, _ => h.elim
  | _ :: _, [], h, _ => h.elim
theorem cmpE_neg {a b : Ev} : cmpE a b < 0 ↔ a.lam < b.lam ∨ a.lam = b.lam ∧ (a.origin < b.origin ∨ a.origin = b.origin ∧ a.seq < b.seq) := by
  unfold cmpE orL orL orL orL cmpI
  by_cases h1 : a.lam < b.lam <;> by_cases h2 : b.lam < a.lam <;> by_cases h3 : a.origin < b.origin <;> by_cases h4 : b.origin < a.origin <;> by_cases h5 : a.seq < b.seq <;> by_cases h6 : b.seq < a.seq <;> simp only [h1, h2, h3, h4, h5, h6, if_true, if_false] <;> simp <;> omega
theorem cmpE_swo : SWO (ltOf fun a b : EvP => cmpE a.1 b.1) := by
  refine ⟨fun x => ?_, fun x y z h1 h2 => ?_, fun x y z h1 h2 => ?_⟩
  · simp only [ltOf, decide_eq_false_iff_not, cmpE_neg]; omega
  · simp only [ltOf, decide_eq_true_eq, cmpE_neg] at *; omega
  · simp only [ltOf, decide_eq_false_iff_not, cmpE_neg] at *; omega
theorem D_sortEv {G : Nat → Prop} {W w : World} {Rs : List HP} {v : Value} {l : List Ev} (hl : l.length < 4611686018427387904) (hS : Sep G W (RowE (α := Ev) own 36 v l :: Rs) w) :
    Ret Try.prog 77 [v, .func (.func 78) #[] #[]] w (fun r w' => ∃ l' : List Ev, r = (.tuple #[] : Value) ∧ l'.Perm l ∧ l'.Pairwise (fun a b => ¬ cmpE b a < 0) ∧ Sep G W (RowE (α := Ev) own 36 v l' :: Rs) w') := by
  obtain ⟨f, hA, hfl, hT⟩ := hS.take (i := 0) rfl
  have ho := RowE.toOwn hA
  obtain ⟨⟨css, hE, hown⟩, ha, hB, hs⟩ := ho
  obtain ⟨ls, rfl, hE2, hrd⟩ := els_split hE
  have ho2 : OwnS 36 0 w (fun b => (f b ∧ v.ownBlock ≠ some b) ∧ Soft w b) v ls := ⟨⟨css, hE2, by rw [List.length_map] at hown; exact hown⟩, ha, hB, by rw [List.length_map] at hs; exact hs⟩
  refine Ret.mono (own_sorted (α := EvP) (enc := EvP.cells) sortRow Try.isAgg36 Try.sizeOf36 (fun _ _ _ _ h => h) (fun _ => rfl) (fun s => all1 ⟨rfl, rfl, rfl, s.2.2, rfl, rfl, rfl, rfl, rfl, rfl, trivial⟩) cmpE_swo (cap := []) Try.call78 ho2 (fun _ _ _ => cmpE_ret) (fun _ _ _ _ h => h) (by simpa using hl)) ?_
  rintro r w' ⟨rfl, hc, ls', hp, hso, ho3⟩
  refine ⟨ls'.map (·.1), rfl, hp.map _, ?_, ?_⟩
  · rw [List.pairwise_map]
    refine hso.imp fun {a b} h => ?_
    simpa [ltOf] using h
  · obtain ⟨⟨css', hE', hown'⟩, ha', hB', hs'⟩ := ho3
    have hF : ∀ b, ((f b ∧ v.ownBlock ≠ some b) ∧ Soft w b) → b < w.heap.size → w'.heap[b]? = w.heap[b]? ∧ ((f b ∧ v.ownBlock ≠ some b) ∧ Soft w b) := fun b hb hlt => ⟨hc.block b hlt hb.1.2, hb⟩
    have hr' : ∀ s ∈ ls', RdS w' (fun b => (f b ∧ v.ownBlock ≠ some b) ∧ Soft w b) s.2.1 s.1.deps ∧ s.1.Ok := fun s hs => ⟨(hrd s (hp.subset hs)).1.mono hF, (hrd s (hp.subset hs)).2⟩
    have ho4 : OwnS (α := Ev) 36 0 w' (fun b => (f b ∧ v.ownBlock ≠ some b) ∧ Soft w b) v (ls'.map (·.1)) := ⟨⟨css', els_join hE' hr', by rw [List.length_map]; exact hown'⟩, ha', hB', by rw [List.length_map]; exact hs'⟩
    have hvf : ∀ b, v.ownBlock = some b → f b := by
      obtain ⟨_, _, _, h3, _⟩ := hA
      exact h3
    exact hT w' _ f (hc.weak fun b _ hb => hvf b hb) (RowE.ofOwn ho4 (fun b hb => ⟨hb.1.1, hc.soft b hb.2⟩) hvf) (fun _ hb => .inl hb)
end Go.Proofs.Ytgjgmojjeehieaa
