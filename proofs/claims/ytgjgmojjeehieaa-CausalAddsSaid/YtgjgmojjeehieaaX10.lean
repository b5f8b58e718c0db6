/- Texts of this claim, part 10. -/
import Derived.Test.YtgjgmojjeehieaaX9
set_option linter.unusedSimpArgs false
set_option linter.unusedVariables false
section
/- Steps of the proofs of this seat: part A17. -/
set_option linter.unusedSimpArgs false
set_option linter.unusedVariables false
set_option maxRecDepth 8000
set_option maxHeartbeats 4000000
namespace Go.Proofs.Ytgjgmojjeehieaa
open Go.Proofs Go.RowKit

section
variable {G : Nat → Prop} {W w : World} {As : List HP} {vd : Value} {e : Ev}
theorem ev_new (ho : e.Ok) (h : Sep G W (RowE (α := Int) own 3 vd e.deps :: As) w) : Sep G W (EV (.agg (e.cells vd).toArray) e :: As) w := h.impl (i := 0) rfl (fun _ h => ⟨vd, rfl, ho, h⟩)
theorem mapo_take {m : Nat} {X : Int × Int → Option Ev} {k : Int × Int} (h : Sep G W (MapO enc2 EV m X :: As) w) (hX : (X k).isSome = false) : Sep G W (MapO1 enc2 EV zeroE m X k zeroE :: As) w := by
  obtain ⟨v, hv, h1⟩ := h.mapoTake zeroE k
  have hn : X k = none := by rwa [Option.isSome_eq_false_iff, Option.isNone_iff_eq_none] at hX
  obtain rfl := hv hn
  exact h1.sel 2 [0] (Nat.le_add_left _ _) rfl rfl
end
theorem D_Add {G : Nat → Prop} {W w : World} {Rs : List HP} {b : Nat} {n : Nat} {L : List Ev} {e : Ev} {de0 : Value} (hde0 : RdS W G de0 e.deps) (oe : e.Ok) (hS0 : Sep G W ((SetO b n L) :: Rs) w) (hL : L.length ≤ 1000000) (hlen : ∀ y ∈ L, y.deps.length = n) : Ret Try.prog 21 [.pointer (some ⟨b, 0, none⟩), .agg (e.cells de0).toArray] w (fun r w' => ∃ (L1 : List Ev), r = (.int .i64 ((addE n L e)) : Value) ∧ (L1 = addL n L e) ∧ Sep G W ((SetO b n L1) :: Rs) w') := by
 have hde0s : e.deps.length * 8 ≤ 140737488355328 := hde0.small
 refine Calls_of_WP (args := [.pointer (some ⟨b, 0, none⟩), .agg (e.cells de0).toArray]) Try.func21 rfl rfl ?_
 refine WP_seq ?_
 obtain ⟨G1, hA3, hB4, hS5, hk6⟩ := hS0.lend
 obtain ⟨vv7, m8, R9, hb10, hv11, hr12⟩ := SetO.sh hA3
 have hsm13 : (vecE n L).length * 8 ≤ 140737488355328 := hv11.small
 have hvl9 : (vecE n L).length = n := vecE_len
 refine WP_region0 (by kernel_rfl) (fun _ => ?_)
 refine st (ov_box (v := .agg (e.cells de0).toArray) rfl ?_)
 intro w16 b15 hn14
 have hS17 : Sep G1 w ((Blk b15 (e.cells de0).toArray 36) :: Rs) w16 := hS5.new hn14
 refine st (ov_assign (v := .int .i64 (0)) rfl ?_)
 refine st_nil ?_
 refine WP_seq ?_
 refine WP_seq ?_
 refine WP_draw4 (WF [fun vals wq => Sep G1 w ((Blk b15 (e.cells de0).toArray 36) :: Rs) wq, fun vals wq => (vals 6 = (.int .i64 ((checkE e (((vecE n L).length : Nat) : Int))) : Value)) ∧ Sep G1 w ((Blk b15 (e.cells de0).toArray 36) :: Rs) wq]) (AF [Vl 0 (.agg (e.cells de0).toArray), Vl 1 (.pointer (some ⟨b, 0, none⟩)), Vl 2 (.pointer (some ⟨b, 0, none⟩)), Vl 3 (.pointer (some ⟨b, 0, none⟩)), Vl 4 (vv7), Vl 5 (.int .i64 (((vecE n L).length : Nat) : Int)), fun _ => True, Vl 7 (.int .i64 ((checkE e (((vecE n L).length : Nat) : Int))))]) [[], [], [1], [1, 2], [1, 2, 3], [1, 2, 3, 4], [0, 1, 2, 3, 4, 5], [0, 1, 2, 3, 4, 5, 6]] [6] [(0, 0), (0, 0), (0, 0), (0, 0), (0, 0), (0, 0), (0, 0), (1, 1)] (by kernel_rfl) (by kernel_rfl) (by kernel_rfl) rfl (by kernel_rfl) (by kernel_rfl) (fun _ h1 h2 h3 h4 _ => hS17.same h1 h2 h3 h4) ?_ (AF_loc ⟨dA, dA, dA, dA, dA, dA, dT, dA, trivial⟩) ⟨?_, ?_, ?_, ?_, ?_, ?_, ?_, ?_, trivial⟩ ?_
 ·intro k vals vals' w hv h
  have e : ∀ j ∈ ([6] : List Nat), vals' j = vals j := hv
  match k, h with
  | 0, h => exact h
  | 1, h => exact (by simpa only [WF, List.getElem?_cons_zero, List.getElem?_cons_succ, e 6 (by decide)] using h)
  | _ + 2, _ => trivial
 ·intro k80 vals w81 h84 h85 hW83 hA82
  obtain rfl : k80 = 0 := Nat.le_antisymm h85 h84
  have hS86 : Sep G1 w ((Blk b15 (e.cells de0).toArray 36) :: Rs) w81 := hW83
  refine obl rfl ?_
  exact ov_loadk (k := 10) Try.isAgg36 Try.sizeOf36 rfl rfl (CellsAt.all (hS86.blk (i := 0) rfl)) (fun vals' hv _ => ⟨rfl, hv⟩)
 ·intro k87 vals w88 h91 h92 hW90 hA89
  refine obl rfl ?_
  exact ov_move (v := .pointer (some ⟨b, 0, none⟩)) rfl (fun vals' hv _ => ⟨rfl, hv⟩)
 ·intro k93 vals w94 h97 h98 hW96 hA95
  have e99 := hA95 1 (by decide)
  refine obl rfl ?_
  exact ov_nilCheck (b := b) (o := 0) e99 (fun vals' hv _ => ⟨rfl, hv⟩)
 ·intro k100 vals w101 h104 h105 hW103 hA102
  have e106 := hA102 2 (by decide)
  refine obl rfl ?_
  exact fd73_0 e106 (fun vals' hv _ => ⟨rfl, hv⟩)
 ·intro k107 vals w108 h111 h112 hW110 hA109
  obtain rfl : k107 = 0 := Nat.le_antisymm h112 h111
  have hS113 : Sep G1 w ((Blk b15 (e.cells de0).toArray 36) :: Rs) w108 := hW110
  have e114 := hA109 3 (by decide)
  refine obl rfl ?_
  exact ov_load1 (v := vv7) Try.isAgg34 e114 (blk_cellL (hS113.gblk hb10) rfl) (fun vals' hv _ => ⟨rfl, hv⟩)
 ·intro k115 vals w116 h119 h120 hW118 hA117
  obtain rfl : k115 = 0 := Nat.le_antisymm h120 h119
  have hS121 : Sep G1 w ((Blk b15 (e.cells de0).toArray 36) :: Rs) w116 := hW118
  have e122 := hA117 4 (by decide)
  refine obl rfl ?_
  exact ov_len (n := (vecE n L).length) Try.underlying34 e122 hv11.sl (fun vals' hv _ => ⟨rfl, hv⟩)
 ·intro k61 vals w62 h65 h66 hW64 hA63
  obtain rfl : k61 = 0 := Nat.le_antisymm h66 h65
  have hS67 : Sep G1 w ((Blk b15 (e.cells de0).toArray 36) :: Rs) w62 := hW64
  have e68 := hA63 0 (by decide)
  have e69 := hA63 5 (by decide)
  refine obl rfl ?_
  refine (ov_call (f := 55) (vals := [.agg (e.cells de0).toArray, .int .i64 (((vecE n L).length : Nat) : Int)]) (cap := []) (show _ = (.func (.func 55) #[] #[] : Value) from rfl) (mapL ⟨e68, e69, trivial⟩) Try.call55 (D_check (e := e) (n := (((vecE n L).length : Nat) : Int)) (RdS.base hde0 hB4) oe (by have : (vecE n L).length * 8 ≤ 140737488355328 := hv11.small; omega) hS67) ?_)
  rintro _ w70 ⟨rfl, hS71⟩
  intro vals' hv hv'
  refine ⟨?_, trivial⟩
  show (vals' 6 = (.int .i64 ((checkE e (((vecE n L).length : Nat) : Int))) : Value)) ∧ Sep G1 w ((Blk b15 (e.cells de0).toArray 36) :: Rs) w70
  exact ⟨hv, hS71⟩
 ·intro k123 vals w124 h127 h128 hW126 hA125
  obtain rfl : k123 = 1 := Nat.le_antisymm h128 h127
  obtain ⟨he72, hS129⟩ := hW126
  refine obl rfl ?_
  exact ov_assign (v := .int .i64 ((checkE e (((vecE n L).length : Nat) : Int)))) he72 (fun vals' hv _ => ⟨rfl, hv⟩)
 intro vals w130 hW131 hA132
 obtain ⟨he72, hS133⟩ := hW131
 have e134 := hA132 7 (by decide)
 refine st_env (kv := [(0, .pointer (some ⟨b, 0, none⟩)), (1, .agg (e.cells de0).toArray), (3, .pointer (some ⟨b15, 0, none⟩)), (4, .int .i64 (0)), (5, .int .i64 ((checkE e (((vecE n L).length : Nat) : Int))))]) ⟨rfl, rfl, rfl, rfl, (by exact e134), trivial⟩ (fun ρw130 => ?_)
 refine st_nil ?_
 refine WP_seq ?_
 refine WP_region0 (by kernel_rfl) (fun _ => ?_)
 refine st (ov_move (v := .int .i64 ((checkE e (((vecE n L).length : Nat) : Int)))) rfl ?_)
 refine st (ov_neq (k := .i64) (a := (checkE e (((vecE n L).length : Nat) : Int))) (b := 0) rfl rfl ?_)
 refine st_nil ?_
 cases hc135 : !decide ((checkE e (((vecE n L).length : Nat) : Int)) = 0)
 ·skip
  have hc135 := ndec_false hc135
  rw [hvl9] at hc135
  obtain ⟨⟨ho9, ho9'⟩, ⟨hs9, hl9⟩, hd9, hq9⟩ := check_ok hc135
  have hv9 : (vecE n L).getD e.origin.toNat 0 = ((cntE L e.origin.toNat : Nat) : Int) := vecE_at (by omega)
  have hcl9 := cntE_le (L := L) (o := e.origin.toNat)
  refine WP_cond_f rfl ?_
  refine WP_skip ?_
  refine WP_seq ?_
  refine WP_seq ?_
  obtain ⟨x136, vd137, hx138, hv139, hok140, hd141, hb142⟩ := hr12.at_ (e.origin, e.seq)
  have hsm143 : x136.deps.length * 8 ≤ 140737488355328 := hd141.small
  refine WP_draw4 (WF [fun vals wq => Sep G1 w ((Blk b15 (e.cells de0).toArray 36) :: Rs) wq, fun vals wq => ∃ (b224 : Nat), (vals 10 = (.pointer (some ⟨b224, 0, none⟩) : Value)) ∧ Sep G1 w ((Blk b224 #[.int .i64 (0), .int .i64 (0), .int .i64 (0), (.slice none 0 0), .int .i64 (0), .int .i64 (0), .int .i64 (0), .int .i64 (0), .int .i64 (0), .int .i64 (0)] 36) :: (Blk b15 (e.cells de0).toArray 36) :: Rs) wq, fun vals wq => ∃ (b224 : Nat), (vals 10 = (.pointer (some ⟨b224, 0, none⟩) : Value)) ∧ Sep G1 w ((Blk b224 (x136.cells vd137).toArray 36) :: (Blk b15 (e.cells de0).toArray 36) :: Rs) wq]) (AF [Vl 0 (.pointer (some ⟨b, 0, none⟩)), Vl 1 (.pointer (some ⟨b, 0, none⟩)), Vl 2 (.pointer (some ⟨b, 1, none⟩)), Vl 3 (.map (some m8)), Vl 4 (.pointer (some ⟨b15, 0, none⟩)), Vl 5 (.agg #[.int .i64 (e.origin), .int .i64 (e.seq)]), Vl 6 (.tuple #[.agg (x136.cells vd137).toArray, .bool ((getE L (e.origin, e.seq)).isSome)]), Vl 7 (.tuple #[.agg (x136.cells vd137).toArray, .bool ((getE L (e.origin, e.seq)).isSome)]), Vl 8 (.agg (x136.cells vd137).toArray), Vl 9 (.bool ((getE L (e.origin, e.seq)).isSome)), fun _ => True, fun _ => True, Vl 12 (.bool ((getE L (e.origin, e.seq)).isSome))]) [[], [0], [0, 1], [0, 1, 2], [], [4], [0, 1, 2, 3, 4, 5], [0, 1, 2, 3, 4, 5, 6], [0, 1, 2, 3, 4, 5, 6, 7], [0, 1, 2, 3, 4, 5, 6, 7], [], [0, 1, 2, 3, 4, 5, 6, 7, 8, 10], [0, 1, 2, 3, 4, 5, 6, 7, 8, 9, 10, 11]] [10, 11] [(0, 1), (0, 1), (0, 1), (0, 1), (0, 1), (0, 1), (0, 1), (0, 1), (0, 1), (0, 2), (0, 0), (1, 1), (2, 2)] (by kernel_rfl) (by kernel_rfl) (by kernel_rfl) rfl (by kernel_rfl) (by kernel_rfl) (fun _ h1 h2 h3 h4 _ => hS133.same h1 h2 h3 h4) ?_ (AF_loc ⟨dA, dA, dA, dA, dA, dA, dA, dA, dA, dA, dT, dT, dA, trivial⟩) ⟨?_, ?_, ?_, ?_, ?_, ?_, ?_, ?_, ?_, ?_, ?_, ?_, ?_, trivial⟩ ?_
  ·intro k vals vals' w hv h
   have e : ∀ j ∈ ([10, 11] : List Nat), vals' j = vals j := hv
   match k, h with
   | 0, h => exact h
   | 1, h => exact (by simpa only [WF, List.getElem?_cons_zero, List.getElem?_cons_succ, e 10 (by decide)] using h)
   | 2, h => exact (by simpa only [WF, List.getElem?_cons_zero, List.getElem?_cons_succ, e 10 (by decide)] using h)
   | _ + 3, _ => trivial
  ·intro k246 vals w247 h250 h251 hW249 hA248
   refine obl rfl ?_
   exact ov_move (v := .pointer (some ⟨b, 0, none⟩)) rfl (fun vals' hv _ => ⟨rfl, hv⟩)
  ·intro k252 vals w253 h256 h257 hW255 hA254
   have e258 := hA254 0 (by decide)
   refine obl rfl ?_
   exact ov_nilCheck (b := b) (o := 0) e258 (fun vals' hv _ => ⟨rfl, hv⟩)
  ·intro k259 vals w260 h263 h264 hW262 hA261
   have e265 := hA261 1 (by decide)
   refine obl rfl ?_
   exact fd73_1 e265 (fun vals' hv _ => ⟨rfl, hv⟩)
  ·intro k266 vals w267 h270 h271 hW269 hA268
   have hkk : k266 = 0 ∨ k266 = 1 := by have h1 : 0 ≤ k266 := h270; have h2 : k266 ≤ 1 := h271; omega
   rcases hkk with rfl | rfl
   ·skip
    have hS272 : Sep G1 w ((Blk b15 (e.cells de0).toArray 36) :: Rs) w267 := hW269
    have e273 := hA268 2 (by decide)
    refine obl rfl ?_
    exact ov_load1 (v := .map (some m8)) Try.isAgg71 e273 (blk_cellL (hS272.gblk hb10) rfl) (fun vals' hv _ => ⟨rfl, hv⟩)
   ·skip
    obtain ⟨b224, he227, hS274⟩ := hW269
    have e275 := hA268 2 (by decide)
    refine obl rfl ?_
    exact ov_load1 (v := .map (some m8)) Try.isAgg71 e275 (blk_cellL (hS274.gblk hb10) rfl) (fun vals' hv _ => ⟨rfl, hv⟩)
  ·intro k276 vals w277 h280 h281 hW279 hA278
   refine obl rfl ?_
   exact fd36_0 rfl (fun vals' hv _ => ⟨rfl, hv⟩)
  ·intro k282 vals w283 h286 h287 hW285 hA284
   have hkk : k282 = 0 ∨ k282 = 1 := by have h1 : 0 ≤ k282 := h286; have h2 : k282 ≤ 1 := h287; omega
   rcases hkk with rfl | rfl
   ·skip
    have hS288 : Sep G1 w ((Blk b15 (e.cells de0).toArray 36) :: Rs) w283 := hW285
    have e289 := hA284 4 (by decide)
    refine obl rfl ?_
    exact ov_loadk (k := 2) (cs := [.int .i64 (e.origin), .int .i64 (e.seq)]) Try.isAgg33 Try.sizeOf33 rfl e289 (CellsAt.sub (CellsAt.all (hS288.blk (i := 0) rfl)) 0 (cs2 := [.int .i64 (e.origin), .int .i64 (e.seq)]) rfl) (fun vals' hv _ => ⟨rfl, hv⟩)
   ·skip
    obtain ⟨b224, he227, hS290⟩ := hW285
    have e291 := hA284 4 (by decide)
    refine obl rfl ?_
    exact ov_loadk (k := 2) (cs := [.int .i64 (e.origin), .int .i64 (e.seq)]) Try.isAgg33 Try.sizeOf33 rfl e291 (CellsAt.sub (CellsAt.all (hS290.blk (i := 1) rfl)) 0 (cs2 := [.int .i64 (e.origin), .int .i64 (e.seq)]) rfl) (fun vals' hv _ => ⟨rfl, hv⟩)
  ·intro k292 vals w293 h296 h297 hW295 hA294
   have hkk : k292 = 0 ∨ k292 = 1 := by have h1 : 0 ≤ k292 := h296; have h2 : k292 ≤ 1 := h297; omega
   rcases hkk with rfl | rfl
   ·skip
    have hS298 : Sep G1 w ((Blk b15 (e.cells de0).toArray 36) :: Rs) w293 := hW295
    have e299 := hA294 3 (by decide)
    have e300 := hA294 5 (by decide)
    refine obl rfl ?_
    exact ov_lookS2 (k := (e.origin, e.seq)) hS298 hr12 K2 Try.underlying71 Try.zeroValue36 e299 (show _ = (.agg #[.int .i64 (e.origin), .int .i64 (e.seq)] : Value) from e300) hv139 hb142 (fun vals' hv _ => ⟨rfl, hv⟩)
   ·skip
    obtain ⟨b224, he227, hS301⟩ := hW295
    have e302 := hA294 3 (by decide)
    have e303 := hA294 5 (by decide)
    refine obl rfl ?_
    exact ov_lookS2 (k := (e.origin, e.seq)) hS301 hr12 K2 Try.underlying71 Try.zeroValue36 e302 (show _ = (.agg #[.int .i64 (e.origin), .int .i64 (e.seq)] : Value) from e303) hv139 hb142 (fun vals' hv _ => ⟨rfl, hv⟩)
  ·intro k304 vals w305 h308 h309 hW307 hA306
   have e310 := hA306 6 (by decide)
   refine obl rfl ?_
   exact ov_move (v := .tuple #[.agg (x136.cells vd137).toArray, .bool ((getE L (e.origin, e.seq)).isSome)]) e310 (fun vals' hv _ => ⟨rfl, hv⟩)
  ·intro k311 vals w312 h315 h316 hW314 hA313
   have e317 := hA313 7 (by decide)
   refine obl rfl ?_
   exact ov_extract (vs := [.agg (x136.cells vd137).toArray, .bool ((getE L (e.origin, e.seq)).isSome)]) (i := 0) (v := .agg (x136.cells vd137).toArray) e317 rfl (fun vals' hv _ => ⟨rfl, hv⟩)
  ·intro k318 vals w319 h322 h323 hW321 hA320
   have e324 := hA320 7 (by decide)
   refine obl rfl ?_
   exact ov_extract (vs := [.agg (x136.cells vd137).toArray, .bool ((getE L (e.origin, e.seq)).isSome)]) (i := 1) (v := .bool ((getE L (e.origin, e.seq)).isSome)) e324 rfl (fun vals' hv _ => ⟨rfl, hv⟩)
  ·intro k216 vals w217 h220 h221 hW219 hA218
   obtain rfl : k216 = 0 := Nat.le_antisymm h221 h220
   have hS222 : Sep G1 w ((Blk b15 (e.cells de0).toArray 36) :: Rs) w217 := hW219
   refine obl rfl ?_
   refine (ov_alloc Try.zeroValue36 ?_)
   intro w225 b224 hn223
   have hS226 : Sep G1 w ((Blk b224 #[.int .i64 (0), .int .i64 (0), .int .i64 (0), (.slice none 0 0), .int .i64 (0), .int .i64 (0), .int .i64 (0), .int .i64 (0), .int .i64 (0), .int .i64 (0)] 36) :: (Blk b15 (e.cells de0).toArray 36) :: Rs) w225 := hS222.new hn223
   intro vals' hv hv'
   refine ⟨?_, trivial⟩
   show ∃ (b224 : Nat), (vals' 10 = (.pointer (some ⟨b224, 0, none⟩) : Value)) ∧ Sep G1 w ((Blk b224 #[.int .i64 (0), .int .i64 (0), .int .i64 (0), (.slice none 0 0), .int .i64 (0), .int .i64 (0), .int .i64 (0), .int .i64 (0), .int .i64 (0), .int .i64 (0)] 36) :: (Blk b15 (e.cells de0).toArray 36) :: Rs) w225
   exact ⟨b224, hv, hS226⟩
  ·intro k228 vals w229 h232 h233 hW231 hA230
   obtain rfl : k228 = 1 := Nat.le_antisymm h233 h232
   obtain ⟨b224, he227, hS234⟩ := hW231
   have e235 := hA230 8 (by decide)
   refine obl rfl ?_
   refine (ov_store (v := .agg (x136.cells vd137).toArray) (c' := (x136.cells vd137).toArray) Try.sizeOf36 he227 e235 (hS234.blk (i := 0) rfl) (all1 ⟨rfl, rfl, rfl, hd141.sl.one, rfl, rfl, rfl, rfl, rfl, rfl, trivial⟩) (Nat.le_of_ble_eq_true rfl) rfl ?_)
   intro w236 hp237
   have hS238 : Sep G1 w ((Blk b224 (x136.cells vd137).toArray 36) :: (Blk b15 (e.cells de0).toArray 36) :: Rs) w236 := hS234.put (i := 0) rfl hp237
   intro vals' hv hv'
   refine ⟨?_, trivial⟩
   show ∃ (b224 : Nat), (vals' 10 = (.pointer (some ⟨b224, 0, none⟩) : Value)) ∧ Sep G1 w ((Blk b224 (x136.cells vd137).toArray 36) :: (Blk b15 (e.cells de0).toArray 36) :: Rs) w236
   exact ⟨b224, (by rw [hv' 10 (by decide)]; exact he227), hS238⟩
  ·intro k325 vals w326 h329 h330 hW328 hA327
   have e331 := hA327 9 (by decide)
   refine obl rfl ?_
   exact ov_assign (v := .bool ((getE L (e.origin, e.seq)).isSome)) e331 (fun vals' hv _ => ⟨rfl, hv⟩)
  intro vals w332 hW333 hA334
  obtain ⟨b224, he227, hS335⟩ := hW333
  have e336 := hA334 12 (by decide)
  refine st_env (kv := [(0, .pointer (some ⟨b, 0, none⟩)), (1, .agg (e.cells de0).toArray), (3, .pointer (some ⟨b15, 0, none⟩)), (4, .int .i64 (0)), (5, .int .i64 ((checkE e (((vecE n L).length : Nat) : Int)))), (16, .int .i64 ((checkE e (((vecE n L).length : Nat) : Int)))), (17, .bool false), (7, .bool ((getE L (e.origin, e.seq)).isSome))]) ⟨rfl, rfl, rfl, rfl, rfl, rfl, rfl, (by exact e336), trivial⟩ (fun ρw332 => ?_)
  refine st_nil ?_
  refine WP_seq ?_
  refine WP_region0 (by kernel_rfl) (fun _ => ?_)
  refine st (ov_move (v := .bool ((getE L (e.origin, e.seq)).isSome)) rfl ?_)
  refine st_nil ?_
  cases hc337 : (getE L (e.origin, e.seq)).isSome
  ·skip
   refine WP_cond_f rfl ?_
   refine WP_skip ?_
   refine WP_seq ?_
   refine WP_seq ?_
   refine WP_draw4 (WF [fun vals wq => Sep G1 w ((Blk b224 (x136.cells vd137).toArray 36) :: (Blk b15 (e.cells de0).toArray 36) :: Rs) wq]) (AF [Vl 0 (.pointer (some ⟨b15, 0, none⟩)), Vl 1 (.pointer (some ⟨b15, 1, none⟩)), Vl 2 (.int .i64 (e.seq)), Vl 3 (.pointer (some ⟨b, 0, none⟩)), Vl 4 (.pointer (some ⟨b, 0, none⟩)), Vl 5 (.pointer (some ⟨b, 0, none⟩)), Vl 6 (vv7), Vl 7 (.pointer (some ⟨b15, 0, none⟩)), Vl 8 (.pointer (some ⟨b15, 0, none⟩)), Vl 9 (.int .i64 (e.origin)), Vl 10 (.pointer (some ⟨sb vv7, so vv7 + e.origin.toNat * 1, none⟩)), Vl 11 (.int .i64 (((vecE n L).getD e.origin.toNat 0))), Vl 12 (.int .i64 (((vecE n L).getD e.origin.toNat 0) + 1)), Vl 13 (.bool (!decide (e.seq = (((vecE n L).getD e.origin.toNat 0) + 1))))]) [[], [0], [0, 1], [], [3], [3, 4], [3, 4, 5], [], [7], [7, 8], [3, 4, 5, 6, 7, 8, 9], [3, 4, 5, 6, 7, 8, 9, 10], [3, 4, 5, 6, 7, 8, 9, 10, 11], [0, 1, 2, 3, 4, 5, 6, 7, 8, 9, 10, 11, 12]] [] [(0, 0), (0, 0), (0, 0), (0, 0), (0, 0), (0, 0), (0, 0), (0, 0), (0, 0), (0, 0), (0, 0), (0, 0), (0, 0), (0, 0)] (by kernel_rfl) (by kernel_rfl) (by kernel_rfl) rfl (by kernel_rfl) (by kernel_rfl) (fun _ h1 h2 h3 h4 _ => hS335.same h1 h2 h3 h4) ?_ (AF_loc ⟨dA, dA, dA, dA, dA, dA, dA, dA, dA, dA, dA, dA, dA, dA, trivial⟩) ⟨?_, ?_, ?_, ?_, ?_, ?_, ?_, ?_, ?_, ?_, ?_, ?_, ?_, ?_, trivial⟩ ?_
   ·intro k vals vals' w hv h
    match k, h with
    | 0, h => exact h
    | _ + 1, _ => trivial
   ·intro k447 vals w448 h451 h452 hW450 hA449
    refine obl rfl ?_
    exact fd36_0 rfl (fun vals' hv _ => ⟨rfl, hv⟩)
   ·intro k453 vals w454 h457 h458 hW456 hA455
    have e459 := hA455 0 (by decide)
    refine obl rfl ?_
    exact fd33_1 e459 (fun vals' hv _ => ⟨rfl, hv⟩)
   ·intro k460 vals w461 h464 h465 hW463 hA462
    obtain rfl : k460 = 0 := Nat.le_antisymm h465 h464
    have hS466 : Sep G1 w ((Blk b224 (x136.cells vd137).toArray 36) :: (Blk b15 (e.cells de0).toArray 36) :: Rs) w461 := hW463
    have e467 := hA462 1 (by decide)
    refine obl rfl ?_
    exact ov_load1 (v := .int .i64 (e.seq)) Try.isAgg3 e467 (blk_cellL (hS466.blk (i := 1) rfl) rfl) (fun vals' hv _ => ⟨rfl, hv⟩)
   ·intro k468 vals w469 h472 h473 hW471 hA470
    refine obl rfl ?_
    exact ov_move (v := .pointer (some ⟨b, 0, none⟩)) rfl (fun vals' hv _ => ⟨rfl, hv⟩)
   ·intro k474 vals w475 h478 h479 hW477 hA476
    have e480 := hA476 3 (by decide)
    refine obl rfl ?_
    exact ov_nilCheck (b := b) (o := 0) e480 (fun vals' hv _ => ⟨rfl, hv⟩)
   ·intro k481 vals w482 h485 h486 hW484 hA483
    have e487 := hA483 4 (by decide)
    refine obl rfl ?_
    exact fd73_0 e487 (fun vals' hv _ => ⟨rfl, hv⟩)
   ·intro k488 vals w489 h492 h493 hW491 hA490
    obtain rfl : k488 = 0 := Nat.le_antisymm h493 h492
    have hS494 : Sep G1 w ((Blk b224 (x136.cells vd137).toArray 36) :: (Blk b15 (e.cells de0).toArray 36) :: Rs) w489 := hW491
    have e495 := hA490 5 (by decide)
    refine obl rfl ?_
    exact ov_load1 (v := vv7) Try.isAgg34 e495 (blk_cellL (hS494.gblk hb10) rfl) (fun vals' hv _ => ⟨rfl, hv⟩)
   ·intro k496 vals w497 h500 h501 hW499 hA498
    refine obl rfl ?_
    exact fd36_0 rfl (fun vals' hv _ => ⟨rfl, hv⟩)
   ·intro k502 vals w503 h506 h507 hW505 hA504
    have e508 := hA504 7 (by decide)
    refine obl rfl ?_
    exact fd33_0 e508 (fun vals' hv _ => ⟨rfl, hv⟩)
   ·intro k509 vals w510 h513 h514 hW512 hA511
    obtain rfl : k509 = 0 := Nat.le_antisymm h514 h513
    have hS515 : Sep G1 w ((Blk b224 (x136.cells vd137).toArray 36) :: (Blk b15 (e.cells de0).toArray 36) :: Rs) w510 := hW512
    have e516 := hA511 8 (by decide)
    refine obl rfl ?_
    exact ov_load1 (v := .int .i64 (e.origin)) Try.isAgg3 e516 (blk_cellL (hS515.blk (i := 1) rfl) rfl) (fun vals' hv _ => ⟨rfl, hv⟩)
   ·intro k517 vals w518 h521 h522 hW520 hA519
    obtain rfl : k517 = 0 := Nat.le_antisymm h522 h521
    have hS523 : Sep G1 w ((Blk b224 (x136.cells vd137).toArray 36) :: (Blk b15 (e.cells de0).toArray 36) :: Rs) w518 := hW520
    have e524 := hA519 6 (by decide)
    have e525 := hA519 9 (by decide)
    refine obl rfl ?_
    have hi526 : e.origin.toNat < (vecE n L).length := (by first | omega | (simp only [lens]; omega))
    exact ov_indexAddr (k := 1) (i := e.origin) Try.underlying34 Try.sizeOf3 e524 hv11.sl e525 ⟨by omega, by omega⟩ (fun vals' hv _ => ⟨rfl, hv⟩)
   ·intro k527 vals w528 h531 h532 hW530 hA529
    obtain rfl : k527 = 0 := Nat.le_antisymm h532 h531
    have hS533 : Sep G1 w ((Blk b224 (x136.cells vd137).toArray 36) :: (Blk b15 (e.cells de0).toArray 36) :: Rs) w528 := hW530
    have e534 := hA529 10 (by decide)
    refine obl rfl ?_
    have hi536 : e.origin.toNat < (vecE n L).length := (by first | omega | (simp only [lens]; omega))
    obtain ⟨hce535, hxe535⟩ := hv11.int hi536
    rw [← getD_at 0 hi536] at hce535 hxe535
    have hcw537 := hS533.cells hce535 (hv11.foot (ne_of_lt hi536))
    exact ov_load1 (v := .int .i64 (((vecE n L).getD e.origin.toNat 0))) Try.isAgg3 e534 (hcw537.get (j := 0) rfl) (fun vals' hv _ => ⟨rfl, hv⟩)
   ·intro k538 vals w539 h542 h543 hW541 hA540
    obtain rfl : k538 = 0 := Nat.le_antisymm h543 h542
    have hS544 : Sep G1 w ((Blk b224 (x136.cells vd137).toArray 36) :: (Blk b15 (e.cells de0).toArray 36) :: Rs) w539 := hW541
    have e545 := hA540 11 (by decide)
    refine obl rfl ?_
    have hr546 : InR (((vecE n L).getD e.origin.toNat 0) + 1) := by omega
    exact ov_add (r := ((vecE n L).getD e.origin.toNat 0) + 1) (k := .i64) (a := ((vecE n L).getD e.origin.toNat 0)) (b := 1) e545 rfl (wrap_in hr546) (fun vals' hv _ => ⟨rfl, hv⟩)
   ·intro k547 vals w548 h551 h552 hW550 hA549
    obtain rfl : k547 = 0 := Nat.le_antisymm h552 h551
    have hS553 : Sep G1 w ((Blk b224 (x136.cells vd137).toArray 36) :: (Blk b15 (e.cells de0).toArray 36) :: Rs) w548 := hW550
    have e554 := hA549 2 (by decide)
    have e555 := hA549 12 (by decide)
    refine obl rfl ?_
    exact ov_neq (k := .i64) (a := e.seq) (b := ((vecE n L).getD e.origin.toNat 0) + 1) e554 e555 (fun vals' hv _ => ⟨rfl, hv⟩)
   intro vals w556 hW557 hA558
   have hS559 : Sep G1 w ((Blk b224 (x136.cells vd137).toArray 36) :: (Blk b15 (e.cells de0).toArray 36) :: Rs) w556 := hW557
   have e560 := hA558 13 (by decide)
   refine st_env (kv := [(0, .pointer (some ⟨b, 0, none⟩)), (1, .agg (e.cells de0).toArray), (3, .pointer (some ⟨b15, 0, none⟩)), (4, .int .i64 (0)), (5, .int .i64 ((checkE e (((vecE n L).length : Nat) : Int)))), (16, .int .i64 ((checkE e (((vecE n L).length : Nat) : Int)))), (17, .bool false), (7, .bool false), (29, .bool false), (43, .bool (!decide (e.seq = (((vecE n L).getD e.origin.toNat 0) + 1))))]) ⟨rfl, rfl, rfl, rfl, rfl, rfl, rfl, rfl, rfl, (by exact e560), trivial⟩ (fun ρw556 => ?_)
   refine st_nil ?_
   cases hc561 : !decide (e.seq = (((vecE n L).getD e.origin.toNat 0) + 1))
   ·skip
    have hc561 := ndec_false hc561
    refine WP_cond_f rfl ?_
    refine WP_skip ?_
    refine WP_seq ?_
    refine WP_seq ?_
    refine WP_region0 (by kernel_rfl) (fun _ => ?_)
    refine st (ov_move (v := .pointer (some ⟨b, 0, none⟩)) rfl ?_)
    refine st (ov_nilCheck (b := b) (o := 0) rfl ?_)
    refine st (fd73_0 rfl ?_)
    refine st (ov_load1 (v := vv7) Try.isAgg34 rfl (blk_cellL (hS559.gblk hb10) rfl) ?_)
    refine st (ov_len (n := (vecE n L).length) Try.underlying34 rfl hv11.sl ?_)
    refine st (ov_move (v := .int .i64 (0)) rfl ?_)
    refine st_nil ?_
    refine WP_block ?_
    refine WP_loop (fun mq σ wq => ∃ (k : Nat) (ρ : Env), mq = (vecE n L).length - k ∧ σ = setAll ρ [(0, .pointer (some ⟨b, 0, none⟩)), (3, .pointer (some ⟨b15, 0, none⟩)), (48, .int .i64 (((vecE n L).length : Nat) : Int)), (49, .int .i64 ((k : Nat) : Int))] ∧ (k ≤ (vecE n L).length) ∧ (∀ i, i < k → knewE L e i = true) ∧ Sep G1 w ((Blk b224 (x136.cells vd137).toArray 36) :: (Blk b15 (e.cells de0).toArray 36) :: Rs) wq) ⟨0, _, rfl, setAll_self ⟨rfl, rfl, rfl, rfl, trivial⟩, Nat.zero_le _, (fun i h => absurd h (Nat.not_lt_zero i)), hS559⟩ ?_
    rintro m563 σ564 w562 ⟨k, ρl1, rfl, rfl, hkk, hm, hS565⟩
    refine WP_seq ?_
    refine WP_region0 (by kernel_rfl) (fun _ => ?_)
    refine st (ov_lss (k := .i64) (a := ((k : Nat) : Int)) (b := (((vecE n L).length : Nat) : Int)) rfl rfl ?_)
    refine st_nil ?_
    refine WP_seq ?_
    cases hc566 : decide (((k : Nat) : Int) < (((vecE n L).length : Nat) : Int))
    ·skip
     have hc566 := of_decide_eq_false hc566
     refine WP_cond_f rfl ?_
     refine WP_exit ?_
     refine blk_exit ?_
     refine WP_seq ?_
     have hS567 : Sep G W ((SetO b n L) :: (Blk b224 (x136.cells vd137).toArray 36) :: (Blk b15 (e.cells de0).toArray 36) :: Rs) w562 := hk6 _ _ hS565
     obtain ⟨vv568, m569, hS570⟩ := SetO.open hS567
     have hr571 := hS570.row (i := 1) rfl
     have hr571s : (vecE n L).length * 8 ≤ 140737488355328 := hr571.2
     have hS572 : Sep G W ((MapO enc2 EV m569 (getE L)) :: (Blk b #[vv568, .map (some m569), .int .i64 (topE L)] 73) :: (RowE (α := Int) own 3 vv568 (vecE n L)) :: (Blk b224 (x136.cells vd137).toArray 36) :: (Blk b15 (e.cells de0).toArray 36) :: Rs) w562 := hS570.sel 5 [2, 0, 1, 3, 4] (Nat.le_add_left _ _) rfl rfl
     have hS574 : Sep G W ((MapO1 enc2 EV zeroE m569 (getE L) (e.origin, e.seq) zeroE) :: (Blk b #[vv568, .map (some m569), .int .i64 (topE L)] 73) :: (RowE (α := Int) own 3 vv568 (vecE n L)) :: (Blk b224 (x136.cells vd137).toArray 36) :: (Blk b15 (e.cells de0).toArray 36) :: Rs) w562 := mapo_take hS572 (by simpa using hc337)
     refine WP_draw4 (WF [fun vals wq => Sep G W ((MapO1 enc2 EV zeroE m569 (getE L) (e.origin, e.seq) zeroE) :: (Blk b #[vv568, .map (some m569), .int .i64 (topE L)] 73) :: (RowE (α := Int) own 3 vv568 (vecE n L)) :: (Blk b224 (x136.cells vd137).toArray 36) :: (Blk b15 (e.cells de0).toArray 36) :: Rs) wq, fun vals wq => ∃ (v632 : Value), (vals 7 = (.agg (e.cells v632).toArray : Value)) ∧ Sep G W ((RowE (α := Int) own 3 v632 e.deps) :: (MapO1 enc2 EV zeroE m569 (getE L) (e.origin, e.seq) zeroE) :: (Blk b #[vv568, .map (some m569), .int .i64 (topE L)] 73) :: (RowE (α := Int) own 3 vv568 (vecE n L)) :: (Blk b224 (x136.cells vd137).toArray 36) :: (Blk b15 (e.cells de0).toArray 36) :: Rs) wq, fun vals wq => ∃ (v632 : Value), (vals 7 = (.agg (e.cells v632).toArray : Value)) ∧ Sep G W ((MapO enc2 EV m569 (updF (getE L) (e.origin, e.seq) e)) :: (Blk b #[vv568, .map (some m569), .int .i64 (topE L)] 73) :: (RowE (α := Int) own 3 vv568 (vecE n L)) :: (Blk b224 (x136.cells vd137).toArray 36) :: (Blk b15 (e.cells de0).toArray 36) :: Rs) wq]) (AF [Vl 0 (.pointer (some ⟨b, 0, none⟩)), Vl 1 (.pointer (some ⟨b, 0, none⟩)), Vl 2 (.pointer (some ⟨b, 1, none⟩)), Vl 3 (.map (some m569)), Vl 4 (.pointer (some ⟨b15, 0, none⟩)), Vl 5 (.agg #[.int .i64 (e.origin), .int .i64 (e.seq)]), Vl 6 (.agg (e.cells de0).toArray), fun _ => True, fun _ => True]) [[], [0], [0, 1], [0, 1, 2], [], [4], [], [6], [0, 1, 2, 3, 4, 5, 6, 7]] [7, 8] [(0, 1), (0, 1), (0, 1), (0, 1), (0, 1), (0, 1), (0, 0), (0, 0), (1, 1)] (by kernel_rfl) (by kernel_rfl) (by kernel_rfl) rfl (by kernel_rfl) (by kernel_rfl) (fun _ h1 h2 h3 h4 _ => hS574.same h1 h2 h3 h4) ?_ (AF_loc ⟨dA, dA, dA, dA, dA, dA, dA, dT, dT, trivial⟩) ⟨?_, ?_, ?_, ?_, ?_, ?_, ?_, ?_, ?_, trivial⟩ ?_
     ·intro k vals vals' w hv h
      have e : ∀ j ∈ ([7, 8] : List Nat), vals' j = vals j := hv
      match k, h with
      | 0, h => exact h
      | 1, h => exact (by simpa only [WF, List.getElem?_cons_zero, List.getElem?_cons_succ, e 7 (by decide)] using h)
      | 2, h => exact (by simpa only [WF, List.getElem?_cons_zero, List.getElem?_cons_succ, e 7 (by decide)] using h)
      | _ + 3, _ => trivial
     ·intro k650 vals w651 h654 h655 hW653 hA652
      refine obl rfl ?_
      exact ov_move (v := .pointer (some ⟨b, 0, none⟩)) rfl (fun vals' hv _ => ⟨rfl, hv⟩)
     ·intro k656 vals w657 h660 h661 hW659 hA658
      have e662 := hA658 0 (by decide)
      refine obl rfl ?_
      exact ov_nilCheck (b := b) (o := 0) e662 (fun vals' hv _ => ⟨rfl, hv⟩)
     ·intro k663 vals w664 h667 h668 hW666 hA665
      have e669 := hA665 1 (by decide)
      refine obl rfl ?_
      exact fd73_1 e669 (fun vals' hv _ => ⟨rfl, hv⟩)
     ·intro k670 vals w671 h674 h675 hW673 hA672
      have hkk : k670 = 0 ∨ k670 = 1 := by have h1 : 0 ≤ k670 := h674; have h2 : k670 ≤ 1 := h675; omega
      rcases hkk with rfl | rfl
      ·skip
       have hS676 : Sep G W ((MapO1 enc2 EV zeroE m569 (getE L) (e.origin, e.seq) zeroE) :: (Blk b #[vv568, .map (some m569), .int .i64 (topE L)] 73) :: (RowE (α := Int) own 3 vv568 (vecE n L)) :: (Blk b224 (x136.cells vd137).toArray 36) :: (Blk b15 (e.cells de0).toArray 36) :: Rs) w671 := hW673
       have e677 := hA672 2 (by decide)
       refine obl rfl ?_
       exact ov_load1 (v := .map (some m569)) Try.isAgg71 e677 (blk_cellL (hS676.blk (i := 1) rfl) rfl) (fun vals' hv _ => ⟨rfl, hv⟩)
      ·skip
       obtain ⟨v632, he636, hS678⟩ := hW673
       have e679 := hA672 2 (by decide)
       refine obl rfl ?_
       exact ov_load1 (v := .map (some m569)) Try.isAgg71 e679 (blk_cellL (hS678.blk (i := 2) rfl) rfl) (fun vals' hv _ => ⟨rfl, hv⟩)
     ·intro k680 vals w681 h684 h685 hW683 hA682
      refine obl rfl ?_
      exact fd36_0 rfl (fun vals' hv _ => ⟨rfl, hv⟩)
     ·intro k686 vals w687 h690 h691 hW689 hA688
      have hkk : k686 = 0 ∨ k686 = 1 := by have h1 : 0 ≤ k686 := h690; have h2 : k686 ≤ 1 := h691; omega
      rcases hkk with rfl | rfl
      ·skip
       have hS692 : Sep G W ((MapO1 enc2 EV zeroE m569 (getE L) (e.origin, e.seq) zeroE) :: (Blk b #[vv568, .map (some m569), .int .i64 (topE L)] 73) :: (RowE (α := Int) own 3 vv568 (vecE n L)) :: (Blk b224 (x136.cells vd137).toArray 36) :: (Blk b15 (e.cells de0).toArray 36) :: Rs) w687 := hW689
       have e693 := hA688 4 (by decide)
       refine obl rfl ?_
       exact ov_loadk (k := 2) (cs := [.int .i64 (e.origin), .int .i64 (e.seq)]) Try.isAgg33 Try.sizeOf33 rfl e693 (CellsAt.sub (CellsAt.all (hS692.blk (i := 4) rfl)) 0 (cs2 := [.int .i64 (e.origin), .int .i64 (e.seq)]) rfl) (fun vals' hv _ => ⟨rfl, hv⟩)
      ·skip
       obtain ⟨v632, he636, hS694⟩ := hW689
       have e695 := hA688 4 (by decide)
       refine obl rfl ?_
       exact ov_loadk (k := 2) (cs := [.int .i64 (e.origin), .int .i64 (e.seq)]) Try.isAgg33 Try.sizeOf33 rfl e695 (CellsAt.sub (CellsAt.all (hS694.blk (i := 5) rfl)) 0 (cs2 := [.int .i64 (e.origin), .int .i64 (e.seq)]) rfl) (fun vals' hv _ => ⟨rfl, hv⟩)
     ·intro k696 vals w697 h700 h701 hW699 hA698
      obtain rfl : k696 = 0 := Nat.le_antisymm h701 h700
      have hS702 : Sep G W ((MapO1 enc2 EV zeroE m569 (getE L) (e.origin, e.seq) zeroE) :: (Blk b #[vv568, .map (some m569), .int .i64 (topE L)] 73) :: (RowE (α := Int) own 3 vv568 (vecE n L)) :: (Blk b224 (x136.cells vd137).toArray 36) :: (Blk b15 (e.cells de0).toArray 36) :: Rs) w697 := hW699
      refine obl rfl ?_
      exact ov_loadk (k := 10) Try.isAgg36 Try.sizeOf36 rfl rfl (CellsAt.all (hS702.blk (i := 4) rfl)) (fun vals' hv _ => ⟨rfl, hv⟩)
     ·intro k624 vals w625 h628 h629 hW627 hA626
      obtain rfl : k624 = 0 := Nat.le_antisymm h629 h628
      have hS630 : Sep G W ((MapO1 enc2 EV zeroE m569 (getE L) (e.origin, e.seq) zeroE) :: (Blk b #[vv568, .map (some m569), .int .i64 (topE L)] 73) :: (RowE (α := Int) own 3 vv568 (vecE n L)) :: (Blk b224 (x136.cells vd137).toArray 36) :: (Blk b15 (e.cells de0).toArray 36) :: Rs) w625 := hW627
      have e631 := hA626 6 (by decide)
      refine obl rfl ?_
      refine (ov_call (f := 57) (vals := [.agg (e.cells de0).toArray]) (cap := []) (show _ = (.func (.func 57) #[] #[] : Value) from rfl) (mapL ⟨e631, trivial⟩) Try.call57 (D_copied (e := e) hde0 oe hS630) ?_)
      rintro _ w633 ⟨v632, rfl, hS634⟩
      have hr635 := hS634.row (i := 0) rfl
      have hr635s : e.deps.length * 8 ≤ 140737488355328 := hr635.2
      intro vals' hv hv'
      refine ⟨?_, trivial⟩
      show ∃ (v632 : Value), (vals' 7 = (.agg (e.cells v632).toArray : Value)) ∧ Sep G W ((RowE (α := Int) own 3 v632 e.deps) :: (MapO1 enc2 EV zeroE m569 (getE L) (e.origin, e.seq) zeroE) :: (Blk b #[vv568, .map (some m569), .int .i64 (topE L)] 73) :: (RowE (α := Int) own 3 vv568 (vecE n L)) :: (Blk b224 (x136.cells vd137).toArray 36) :: (Blk b15 (e.cells de0).toArray 36) :: Rs) w633
      exact ⟨v632, hv, hS634⟩
     ·intro k637 vals w638 h641 h642 hW640 hA639
      obtain rfl : k637 = 1 := Nat.le_antisymm h642 h641
      obtain ⟨v632, he636, hS643⟩ := hW640
      have e644 := hA639 3 (by decide)
      have e645 := hA639 5 (by decide)
      refine obl rfl ?_
      have hS647 : Sep G W ((EV (.agg (e.cells v632).toArray) e) :: (MapO1 enc2 EV zeroE m569 (getE L) (e.origin, e.seq) zeroE) :: (Blk b #[vv568, .map (some m569), .int .i64 (topE L)] 73) :: (RowE (α := Int) own 3 vv568 (vecE n L)) :: (Blk b224 (x136.cells vd137).toArray 36) :: (Blk b15 (e.cells de0).toArray 36) :: Rs) w638 := ev_new oe hS643
      have hS648 : Sep G W ((MapO1 enc2 EV zeroE m569 (getE L) (e.origin, e.seq) zeroE) :: (EV (.agg (e.cells v632).toArray) e) :: (Blk b #[vv568, .map (some m569), .int .i64 (topE L)] 73) :: (RowE (α := Int) own 3 vv568 (vecE n L)) :: (Blk b224 (x136.cells vd137).toArray 36) :: (Blk b15 (e.cells de0).toArray 36) :: Rs) w638 := hS647.sel 6 [1, 0, 2, 3, 4, 5] (Nat.le_add_left _ _) rfl rfl
      refine (ov_mapUpdateO (k := (e.origin, e.seq)) hS648 K2 Try.underlying71 e644 (show _ = (.agg #[.int .i64 (e.origin), .int .i64 (e.seq)] : Value) from e645) he636 ?_)
      intro w646 hS649
      have hS649t : Sep G W ((MapO enc2 EV m569 (updF (getE L) (e.origin, e.seq) e)) :: (Blk b #[vv568, .map (some m569), .int .i64 (topE L)] 73) :: (RowE (α := Int) own 3 vv568 (vecE n L)) :: (Blk b224 (x136.cells vd137).toArray 36) :: (Blk b15 (e.cells de0).toArray 36) :: Rs) w646 := hS649
      intro vals' hv hv'
      refine ⟨?_, trivial⟩
      show ∃ (v632 : Value), (vals' 7 = (.agg (e.cells v632).toArray : Value)) ∧ Sep G W ((MapO enc2 EV m569 (updF (getE L) (e.origin, e.seq) e)) :: (Blk b #[vv568, .map (some m569), .int .i64 (topE L)] 73) :: (RowE (α := Int) own 3 vv568 (vecE n L)) :: (Blk b224 (x136.cells vd137).toArray 36) :: (Blk b15 (e.cells de0).toArray 36) :: Rs) w646
      exact ⟨v632, (by rw [hv' 7 (by decide)]; exact he636), hS649t⟩
     intro vals w703 hW704 hA705
     obtain ⟨v632, he636, hS706⟩ := hW704
     refine st_env (kv := [(0, .pointer (some ⟨b, 0, none⟩)), (3, .pointer (some ⟨b15, 0, none⟩)), (48, .int .i64 (((vecE n L).length : Nat) : Int)), (49, .int .i64 ((k : Nat) : Int)), (50, .bool false)]) ⟨rfl, rfl, rfl, rfl, rfl, trivial⟩ (fun ρw703 => ?_)
     refine st_nil ?_
     refine WP_seq ?_
     refine WP_draw4 (WF [fun vals wq => Sep G W ((MapO enc2 EV m569 (updF (getE L) (e.origin, e.seq) e)) :: (Blk b #[vv568, .map (some m569), .int .i64 (topE L)] 73) :: (RowE (α := Int) own 3 vv568 (vecE n L)) :: (Blk b224 (x136.cells vd137).toArray 36) :: (Blk b15 (e.cells de0).toArray 36) :: Rs) wq, fun vals wq => Sep G W ((RowE (α := Int) own 3 vv568 ((vecE n L).set e.origin.toNat (((vecE n L).getD e.origin.toNat 0) + 1))) :: (MapO enc2 EV m569 (updF (getE L) (e.origin, e.seq) e)) :: (Blk b #[vv568, .map (some m569), .int .i64 (topE L)] 73) :: (Blk b224 (x136.cells vd137).toArray 36) :: (Blk b15 (e.cells de0).toArray 36) :: Rs) wq]) (AF [Vl 0 (.pointer (some ⟨b, 0, none⟩)), Vl 1 (.pointer (some ⟨b, 0, none⟩)), Vl 2 (.pointer (some ⟨b, 0, none⟩)), Vl 3 (vv568), Vl 4 (.pointer (some ⟨b15, 0, none⟩)), Vl 5 (.pointer (some ⟨b15, 0, none⟩)), Vl 6 (.int .i64 (e.origin)), Vl 7 (.pointer (some ⟨sb vv568, so vv568 + e.origin.toNat * 1, none⟩)), Vl 8 (.int .i64 (((vecE n L).getD e.origin.toNat 0))), Vl 9 (.int .i64 (((vecE n L).getD e.origin.toNat 0) + 1)), Vl 10 (.pointer (some ⟨sb vv568, so vv568 + e.origin.toNat * 1, none⟩)), fun _ => True]) [[], [0], [0, 1], [0, 1, 2], [], [4], [4, 5], [0, 1, 2, 3, 4, 5, 6], [0, 1, 2, 3, 4, 5, 6, 7], [0, 1, 2, 3, 4, 5, 6, 7, 8], [0, 1, 2, 3, 4, 5, 6, 7, 8, 9], [0, 1, 2, 3, 4, 5, 6, 7, 8, 9, 10]] [11] [(0, 0), (0, 0), (0, 0), (0, 0), (0, 0), (0, 0), (0, 0), (0, 0), (0, 0), (0, 0), (0, 0), (0, 0)] (by kernel_rfl) (by kernel_rfl) (by kernel_rfl) rfl (by kernel_rfl) (by kernel_rfl) (fun _ h1 h2 h3 h4 _ => hS706.same h1 h2 h3 h4) ?_ (AF_loc ⟨dA, dA, dA, dA, dA, dA, dA, dA, dA, dA, dA, dT, trivial⟩) ⟨?_, ?_, ?_, ?_, ?_, ?_, ?_, ?_, ?_, ?_, ?_, ?_, trivial⟩ ?_
     ·intro k vals vals' w hv h
      have e : ∀ j ∈ ([11] : List Nat), vals' j = vals j := hv
      match k, h with
      | 0, h => exact h
      | 1, h => exact h
      | _ + 2, _ => trivial
     ·intro k809 vals w810 h813 h814 hW812 hA811
      refine obl rfl ?_
      exact ov_move (v := .pointer (some ⟨b, 0, none⟩)) rfl (fun vals' hv _ => ⟨rfl, hv⟩)
     ·intro k815 vals w816 h819 h820 hW818 hA817
      have e821 := hA817 0 (by decide)
      refine obl rfl ?_
      exact ov_nilCheck (b := b) (o := 0) e821 (fun vals' hv _ => ⟨rfl, hv⟩)
     ·intro k822 vals w823 h826 h827 hW825 hA824
      have e828 := hA824 1 (by decide)
      refine obl rfl ?_
      exact fd73_0 e828 (fun vals' hv _ => ⟨rfl, hv⟩)
     ·intro k829 vals w830 h833 h834 hW832 hA831
      obtain rfl : k829 = 0 := Nat.le_antisymm h834 h833
      have hS835 : Sep G W ((MapO enc2 EV m569 (updF (getE L) (e.origin, e.seq) e)) :: (Blk b #[vv568, .map (some m569), .int .i64 (topE L)] 73) :: (RowE (α := Int) own 3 vv568 (vecE n L)) :: (Blk b224 (x136.cells vd137).toArray 36) :: (Blk b15 (e.cells de0).toArray 36) :: Rs) w830 := hW832
      have e836 := hA831 2 (by decide)
      refine obl rfl ?_
      exact ov_load1 (v := vv568) Try.isAgg34 e836 (blk_cellL (hS835.blk (i := 1) rfl) rfl) (fun vals' hv _ => ⟨rfl, hv⟩)
     ·intro k837 vals w838 h841 h842 hW840 hA839
      refine obl rfl ?_
      exact fd36_0 rfl (fun vals' hv _ => ⟨rfl, hv⟩)
     ·intro k843 vals w844 h847 h848 hW846 hA845
      have e849 := hA845 4 (by decide)
      refine obl rfl ?_
      exact fd33_0 e849 (fun vals' hv _ => ⟨rfl, hv⟩)
     ·intro k850 vals w851 h854 h855 hW853 hA852
      obtain rfl : k850 = 0 := Nat.le_antisymm h855 h854
      have hS856 : Sep G W ((MapO enc2 EV m569 (updF (getE L) (e.origin, e.seq) e)) :: (Blk b #[vv568, .map (some m569), .int .i64 (topE L)] 73) :: (RowE (α := Int) own 3 vv568 (vecE n L)) :: (Blk b224 (x136.cells vd137).toArray 36) :: (Blk b15 (e.cells de0).toArray 36) :: Rs) w851 := hW853
      have e857 := hA852 5 (by decide)
      refine obl rfl ?_
      exact ov_load1 (v := .int .i64 (e.origin)) Try.isAgg3 e857 (blk_cellL (hS856.blk (i := 4) rfl) rfl) (fun vals' hv _ => ⟨rfl, hv⟩)
     ·intro k858 vals w859 h862 h863 hW861 hA860
      obtain rfl : k858 = 0 := Nat.le_antisymm h863 h862
      have hS864 : Sep G W ((MapO enc2 EV m569 (updF (getE L) (e.origin, e.seq) e)) :: (Blk b #[vv568, .map (some m569), .int .i64 (topE L)] 73) :: (RowE (α := Int) own 3 vv568 (vecE n L)) :: (Blk b224 (x136.cells vd137).toArray 36) :: (Blk b15 (e.cells de0).toArray 36) :: Rs) w859 := hW861
      have e865 := hA860 3 (by decide)
      have e866 := hA860 6 (by decide)
      refine obl rfl ?_
      have hi867 : e.origin.toNat < (vecE n L).length := (by first | omega | (simp only [lens]; omega))
      exact ov_indexAddr (k := 1) (i := e.origin) Try.underlying34 Try.sizeOf3 e865 hr571.1 e866 ⟨by omega, by omega⟩ (fun vals' hv _ => ⟨rfl, hv⟩)
     ·intro k868 vals w869 h872 h873 hW871 hA870
      obtain rfl : k868 = 0 := Nat.le_antisymm h873 h872
      have hS874 : Sep G W ((MapO enc2 EV m569 (updF (getE L) (e.origin, e.seq) e)) :: (Blk b #[vv568, .map (some m569), .int .i64 (topE L)] 73) :: (RowE (α := Int) own 3 vv568 (vecE n L)) :: (Blk b224 (x136.cells vd137).toArray 36) :: (Blk b15 (e.cells de0).toArray 36) :: Rs) w869 := hW871
      have e875 := hA870 7 (by decide)
      refine obl rfl ?_
      have hi877 : e.origin.toNat < (vecE n L).length := (by first | omega | (simp only [lens]; omega))
      obtain ⟨_, _, hce876, rfl, hxe876⟩ := hS874.rowAt (i := 2) (j := e.origin.toNat) rfl hi877
      rw [← getD_at 0 hi877] at hce876 hxe876
      exact ov_load1 (v := .int .i64 (((vecE n L).getD e.origin.toNat 0))) Try.isAgg3 e875 (hce876.get (j := 0) rfl) (fun vals' hv _ => ⟨rfl, hv⟩)
     ·intro k878 vals w879 h882 h883 hW881 hA880
      obtain rfl : k878 = 0 := Nat.le_antisymm h883 h882
      have hS884 : Sep G W ((MapO enc2 EV m569 (updF (getE L) (e.origin, e.seq) e)) :: (Blk b #[vv568, .map (some m569), .int .i64 (topE L)] 73) :: (RowE (α := Int) own 3 vv568 (vecE n L)) :: (Blk b224 (x136.cells vd137).toArray 36) :: (Blk b15 (e.cells de0).toArray 36) :: Rs) w879 := hW881
      have e885 := hA880 8 (by decide)
      refine obl rfl ?_
      have hr886 : InR (((vecE n L).getD e.origin.toNat 0) + 1) := by omega
      exact ov_add (r := ((vecE n L).getD e.origin.toNat 0) + 1) (k := .i64) (a := ((vecE n L).getD e.origin.toNat 0)) (b := 1) e885 rfl (wrap_in hr886) (fun vals' hv _ => ⟨rfl, hv⟩)
     ·intro k887 vals w888 h891 h892 hW890 hA889
      obtain rfl : k887 = 0 := Nat.le_antisymm h892 h891
      have hS893 : Sep G W ((MapO enc2 EV m569 (updF (getE L) (e.origin, e.seq) e)) :: (Blk b #[vv568, .map (some m569), .int .i64 (topE L)] 73) :: (RowE (α := Int) own 3 vv568 (vecE n L)) :: (Blk b224 (x136.cells vd137).toArray 36) :: (Blk b15 (e.cells de0).toArray 36) :: Rs) w888 := hW890
      have e894 := hA889 3 (by decide)
      have e895 := hA889 6 (by decide)
      refine obl rfl ?_
      have hi896 : e.origin.toNat < (vecE n L).length := (by first | omega | (simp only [lens]; omega))
      exact ov_indexAddr (k := 1) (i := e.origin) Try.underlying34 Try.sizeOf3 e894 hr571.1 e895 ⟨by omega, by omega⟩ (fun vals' hv _ => ⟨rfl, hv⟩)
     ·intro k795 vals w796 h799 h800 hW798 hA797
      obtain rfl : k795 = 0 := Nat.le_antisymm h800 h799
      have hS801 : Sep G W ((MapO enc2 EV m569 (updF (getE L) (e.origin, e.seq) e)) :: (Blk b #[vv568, .map (some m569), .int .i64 (topE L)] 73) :: (RowE (α := Int) own 3 vv568 (vecE n L)) :: (Blk b224 (x136.cells vd137).toArray 36) :: (Blk b15 (e.cells de0).toArray 36) :: Rs) w796 := hW798
      have e802 := hA797 9 (by decide)
      have e803 := hA797 10 (by decide)
      refine obl rfl ?_
      have hS805 : Sep G W ((RowE (α := Int) own 3 vv568 (vecE n L)) :: (MapO enc2 EV m569 (updF (getE L) (e.origin, e.seq) e)) :: (Blk b #[vv568, .map (some m569), .int .i64 (topE L)] 73) :: (Blk b224 (x136.cells vd137).toArray 36) :: (Blk b15 (e.cells de0).toArray 36) :: Rs) w796 := hS801.sel 5 [2, 0, 1, 3, 4] (Nat.le_add_left _ _) rfl rfl
      have hS806 : Sep G W ((RowE (α := Int) own 3 vv568 (vecE n L)) :: Emp :: (MapO enc2 EV m569 (updF (getE L) (e.origin, e.seq) e)) :: (Blk b #[vv568, .map (some m569), .int .i64 (topE L)] 73) :: (Blk b224 (x136.cells vd137).toArray 36) :: (Blk b15 (e.cells de0).toArray 36) :: Rs) w796 := hS805.emp1
      refine (ov_storeS (α := Int) (j := e.origin.toNat) (o := 0) (u := .int .i64 (((vecE n L).getD e.origin.toNat 0) + 1)) (us := [.int .i64 (((vecE n L).getD e.origin.toNat 0) + 1)]) (x1 := ((vecE n L).getD e.origin.toNat 0) + 1) hS806 Try.sizeOf3 (by first | omega | (simp only [lens]; omega)) e803 e802 rfl (Nat.le_of_ble_eq_true rfl) (all1 ⟨rfl, trivial⟩) (fun _ _ cs0 hel _ => (by have hl0 := Src.len _ hel; have e0 : cs0.take 0 ++ (([.int .i64 (((vecE n L).getD e.origin.toNat 0) + 1)] : List Value)) ++ cs0.drop (0 + (([.int .i64 (((vecE n L).getD e.origin.toNat 0) + 1)] : List Value)).length) = (([.int .i64 (((vecE n L).getD e.origin.toNat 0) + 1)] : List Value)) := (by rw [List.drop_eq_nil_of_le (by rw [hl0]; exact Nat.le_of_ble_eq_true rfl)]; simp); rw [e0]; exact (show _ from ⟨rfl, (by omega)⟩))) ?_)
      intro w804 hS807
      have hr808 := hS807.row (i := 0) rfl
      have hr808s : ((vecE n L).set e.origin.toNat (((vecE n L).getD e.origin.toNat 0) + 1)).length * 8 ≤ 140737488355328 := hr808.2
      intro vals' hv hv'
      refine ⟨?_, trivial⟩
      show Sep G W ((RowE (α := Int) own 3 vv568 ((vecE n L).set e.origin.toNat (((vecE n L).getD e.origin.toNat 0) + 1))) :: (MapO enc2 EV m569 (updF (getE L) (e.origin, e.seq) e)) :: (Blk b #[vv568, .map (some m569), .int .i64 (topE L)] 73) :: (Blk b224 (x136.cells vd137).toArray 36) :: (Blk b15 (e.cells de0).toArray 36) :: Rs) w804
      exact hS807
     intro vals w897 hW898 hA899
     have hS900 : Sep G W ((RowE (α := Int) own 3 vv568 ((vecE n L).set e.origin.toNat (((vecE n L).getD e.origin.toNat 0) + 1))) :: (MapO enc2 EV m569 (updF (getE L) (e.origin, e.seq) e)) :: (Blk b #[vv568, .map (some m569), .int .i64 (topE L)] 73) :: (Blk b224 (x136.cells vd137).toArray 36) :: (Blk b15 (e.cells de0).toArray 36) :: Rs) w897 := hW898
     refine st_env (kv := [(0, .pointer (some ⟨b, 0, none⟩)), (3, .pointer (some ⟨b15, 0, none⟩)), (48, .int .i64 (((vecE n L).length : Nat) : Int)), (49, .int .i64 ((k : Nat) : Int)), (50, .bool false)]) ⟨rfl, rfl, rfl, rfl, rfl, trivial⟩ (fun ρw897 => ?_)
     refine st_nil ?_
     refine WP_seq ?_
     refine WP_draw4 (WF [fun vals wq => Sep G W ((RowE (α := Int) own 3 vv568 ((vecE n L).set e.origin.toNat (((vecE n L).getD e.origin.toNat 0) + 1))) :: (MapO enc2 EV m569 (updF (getE L) (e.origin, e.seq) e)) :: (Blk b #[vv568, .map (some m569), .int .i64 (topE L)] 73) :: (Blk b224 (x136.cells vd137).toArray 36) :: (Blk b15 (e.cells de0).toArray 36) :: Rs) wq, fun vals wq => Sep G W ((RowE (α := Int) own 3 vv568 ((vecE n L).set e.origin.toNat (((vecE n L).getD e.origin.toNat 0) + 1))) :: (MapO enc2 EV m569 (updF (getE L) (e.origin, e.seq) e)) :: (Blk b #[vv568, .map (some m569), .int .i64 (max (topE L) e.lam)] 73) :: (Blk b224 (x136.cells vd137).toArray 36) :: (Blk b15 (e.cells de0).toArray 36) :: Rs) wq]) (AF [Vl 0 (.pointer (some ⟨b, 0, none⟩)), Vl 1 (.pointer (some ⟨b, 0, none⟩)), Vl 2 (.pointer (some ⟨b, 0, none⟩)), Vl 3 (.pointer (some ⟨b, 2, none⟩)), Vl 4 (.int .i64 (topE L)), Vl 5 (.pointer (some ⟨b15, 2, none⟩)), Vl 6 (.int .i64 (e.lam)), Vl 7 (.int .i64 (max (topE L) e.lam)), Vl 8 (.pointer (some ⟨b, 0, none⟩)), Vl 9 (.pointer (some ⟨b, 2, none⟩)), fun _ => True]) [[], [], [1], [1, 2], [1, 2, 3], [], [5], [1, 2, 3, 4, 5, 6], [0, 1, 2, 3, 4, 5, 6, 7], [0, 1, 2, 3, 4, 5, 6, 7, 8], [0, 1, 2, 3, 4, 5, 6, 7, 8, 9]] [10] [(0, 0), (0, 0), (0, 0), (0, 0), (0, 0), (0, 0), (0, 0), (0, 0), (0, 0), (0, 0), (0, 0)] (by kernel_rfl) (by kernel_rfl) (by kernel_rfl) rfl (by kernel_rfl) (by kernel_rfl) (fun _ h1 h2 h3 h4 _ => hS900.same h1 h2 h3 h4) ?_ (AF_loc ⟨dA, dA, dA, dA, dA, dA, dA, dA, dA, dA, dT, trivial⟩) ⟨?_, ?_, ?_, ?_, ?_, ?_, ?_, ?_, ?_, ?_, ?_, trivial⟩ ?_
     ·intro k vals vals' w hv h
      have e : ∀ j ∈ ([10] : List Nat), vals' j = vals j := hv
      match k, h with
      | 0, h => exact h
      | 1, h => exact h
      | _ + 2, _ => trivial
     ·intro k984 vals w985 h988 h989 hW987 hA986
      refine obl rfl ?_
      exact ov_move (v := .pointer (some ⟨b, 0, none⟩)) rfl (fun vals' hv _ => ⟨rfl, hv⟩)
     ·intro k990 vals w991 h994 h995 hW993 hA992
      refine obl rfl ?_
      exact ov_move (v := .pointer (some ⟨b, 0, none⟩)) rfl (fun vals' hv _ => ⟨rfl, hv⟩)
     ·intro k996 vals w997 h1000 h1001 hW999 hA998
      have e1002 := hA998 1 (by decide)
      refine obl rfl ?_
      exact ov_nilCheck (b := b) (o := 0) e1002 (fun vals' hv _ => ⟨rfl, hv⟩)
     ·intro k1003 vals w1004 h1007 h1008 hW1006 hA1005
      have e1009 := hA1005 2 (by decide)
      refine obl rfl ?_
      exact fd73_2 e1009 (fun vals' hv _ => ⟨rfl, hv⟩)
     ·intro k1010 vals w1011 h1014 h1015 hW1013 hA1012
      obtain rfl : k1010 = 0 := Nat.le_antisymm h1015 h1014
      have hS1016 : Sep G W ((RowE (α := Int) own 3 vv568 ((vecE n L).set e.origin.toNat (((vecE n L).getD e.origin.toNat 0) + 1))) :: (MapO enc2 EV m569 (updF (getE L) (e.origin, e.seq) e)) :: (Blk b #[vv568, .map (some m569), .int .i64 (topE L)] 73) :: (Blk b224 (x136.cells vd137).toArray 36) :: (Blk b15 (e.cells de0).toArray 36) :: Rs) w1011 := hW1013
      have e1017 := hA1012 3 (by decide)
      refine obl rfl ?_
      exact ov_load1 (v := .int .i64 (topE L)) Try.isAgg3 e1017 (blk_cellL (hS1016.blk (i := 2) rfl) rfl) (fun vals' hv _ => ⟨rfl, hv⟩)
     ·intro k1018 vals w1019 h1022 h1023 hW1021 hA1020
      refine obl rfl ?_
      exact fd36_1 rfl (fun vals' hv _ => ⟨rfl, hv⟩)
     ·intro k1024 vals w1025 h1028 h1029 hW1027 hA1026
      obtain rfl : k1024 = 0 := Nat.le_antisymm h1029 h1028
      have hS1030 : Sep G W ((RowE (α := Int) own 3 vv568 ((vecE n L).set e.origin.toNat (((vecE n L).getD e.origin.toNat 0) + 1))) :: (MapO enc2 EV m569 (updF (getE L) (e.origin, e.seq) e)) :: (Blk b #[vv568, .map (some m569), .int .i64 (topE L)] 73) :: (Blk b224 (x136.cells vd137).toArray 36) :: (Blk b15 (e.cells de0).toArray 36) :: Rs) w1025 := hW1027
      have e1031 := hA1026 5 (by decide)
      refine obl rfl ?_
      exact ov_load1 (v := .int .i64 (e.lam)) Try.isAgg3 e1031 (blk_cellL (hS1030.blk (i := 4) rfl) rfl) (fun vals' hv _ => ⟨rfl, hv⟩)
     ·intro k1032 vals w1033 h1036 h1037 hW1035 hA1034
      obtain rfl : k1032 = 0 := Nat.le_antisymm h1037 h1036
      have hS1038 : Sep G W ((RowE (α := Int) own 3 vv568 ((vecE n L).set e.origin.toNat (((vecE n L).getD e.origin.toNat 0) + 1))) :: (MapO enc2 EV m569 (updF (getE L) (e.origin, e.seq) e)) :: (Blk b #[vv568, .map (some m569), .int .i64 (topE L)] 73) :: (Blk b224 (x136.cells vd137).toArray 36) :: (Blk b15 (e.cells de0).toArray 36) :: Rs) w1033 := hW1035
      have e1039 := hA1034 4 (by decide)
      have e1040 := hA1034 6 (by decide)
      refine obl rfl ?_
      exact ov_max (k := .i64) (a := topE L) (b := e.lam) e1039 e1040 (fun vals' hv _ => ⟨rfl, hv⟩)
     ·intro k1041 vals w1042 h1045 h1046 hW1044 hA1043
      have e1047 := hA1043 0 (by decide)
      refine obl rfl ?_
      exact ov_nilCheck (b := b) (o := 0) e1047 (fun vals' hv _ => ⟨rfl, hv⟩)
     ·intro k1048 vals w1049 h1052 h1053 hW1051 hA1050
      have e1054 := hA1050 8 (by decide)
      refine obl rfl ?_
      exact fd73_2 e1054 (fun vals' hv _ => ⟨rfl, hv⟩)
     ·intro k972 vals w973 h976 h977 hW975 hA974
      obtain rfl : k972 = 0 := Nat.le_antisymm h977 h976
      have hS978 : Sep G W ((RowE (α := Int) own 3 vv568 ((vecE n L).set e.origin.toNat (((vecE n L).getD e.origin.toNat 0) + 1))) :: (MapO enc2 EV m569 (updF (getE L) (e.origin, e.seq) e)) :: (Blk b #[vv568, .map (some m569), .int .i64 (topE L)] 73) :: (Blk b224 (x136.cells vd137).toArray 36) :: (Blk b15 (e.cells de0).toArray 36) :: Rs) w973 := hW975
      have e979 := hA974 7 (by decide)
      have e980 := hA974 9 (by decide)
      refine obl rfl ?_
      refine (ov_store1 (v := .int .i64 (max (topE L) e.lam)) (c := [vv568, .map (some m569), .int .i64 (topE L)]) (c' := [vv568, .map (some m569), .int .i64 (max (topE L) e.lam)]) Try.sizeOf3 e980 e979 (hS978.blk (i := 2) rfl) rfl rfl rfl ?_)
      intro w981 hp982
      have hS983 : Sep G W ((RowE (α := Int) own 3 vv568 ((vecE n L).set e.origin.toNat (((vecE n L).getD e.origin.toNat 0) + 1))) :: (MapO enc2 EV m569 (updF (getE L) (e.origin, e.seq) e)) :: (Blk b #[vv568, .map (some m569), .int .i64 (max (topE L) e.lam)] 73) :: (Blk b224 (x136.cells vd137).toArray 36) :: (Blk b15 (e.cells de0).toArray 36) :: Rs) w981 := hS978.put (i := 2) rfl hp982
      intro vals' hv hv'
      refine ⟨?_, trivial⟩
      show Sep G W ((RowE (α := Int) own 3 vv568 ((vecE n L).set e.origin.toNat (((vecE n L).getD e.origin.toNat 0) + 1))) :: (MapO enc2 EV m569 (updF (getE L) (e.origin, e.seq) e)) :: (Blk b #[vv568, .map (some m569), .int .i64 (max (topE L) e.lam)] 73) :: (Blk b224 (x136.cells vd137).toArray 36) :: (Blk b15 (e.cells de0).toArray 36) :: Rs) w981
      exact hS983
     intro vals w1055 hW1056 hA1057
     have hS1058 : Sep G W ((RowE (α := Int) own 3 vv568 ((vecE n L).set e.origin.toNat (((vecE n L).getD e.origin.toNat 0) + 1))) :: (MapO enc2 EV m569 (updF (getE L) (e.origin, e.seq) e)) :: (Blk b #[vv568, .map (some m569), .int .i64 (max (topE L) e.lam)] 73) :: (Blk b224 (x136.cells vd137).toArray 36) :: (Blk b15 (e.cells de0).toArray 36) :: Rs) w1055 := hW1056
     refine st_env (kv := [(0, .pointer (some ⟨b, 0, none⟩)), (3, .pointer (some ⟨b15, 0, none⟩)), (48, .int .i64 (((vecE n L).length : Nat) : Int)), (49, .int .i64 ((k : Nat) : Int)), (50, .bool false)]) ⟨rfl, rfl, rfl, rfl, rfl, trivial⟩ (fun ρw1055 => ?_)
     refine st_nil ?_
     refine WP_seq ?_
     refine WP_region0 (by kernel_rfl) (fun _ => ?_)
     refine st (ov_assign (v := .int .i64 (0)) rfl ?_)
     refine st_nil ?_
     refine WP_ret ?_
     refine fin1 Try.results21 (show _ = (.int .i64 (0) : Value) from rfl) ?_
     have hS1059 : Sep G W ((Blk b #[vv568, .map (some m569), .int .i64 (max (topE L) e.lam)] 73) :: (RowE (α := Int) own 3 vv568 ((vecE n L).set e.origin.toNat (((vecE n L).getD e.origin.toNat 0) + 1))) :: (MapO enc2 EV m569 (updF (getE L) (e.origin, e.seq) e)) :: (Blk b224 (x136.cells vd137).toArray 36) :: (Blk b15 (e.cells de0).toArray 36) :: Rs) w1055 := hS1058.sel 5 [2, 0, 1, 3, 4] (Nat.le_add_left _ _) rfl rfl
     have hS1060 : Sep G W ((SetO b n (insE e L)) :: (Blk b224 (x136.cells vd137).toArray 36) :: (Blk b15 (e.cells de0).toArray 36) :: Rs) w1055 := SetO.close hS1059 top_ins (by rw [hv9]; exact vec_ins ho9 ho9') (getE_ins (by simpa using hc337))
     have hS1061 : Sep G W ((SetO b n (insE e L)) :: Rs) w1055 := hS1060.sel 3 [0] (Nat.le_add_left _ _) rfl rfl
     refine ⟨(insE e L), ?_, ?_, hS1061⟩
     · rw [add_0 hc135 hc337 (by rw [hv9] at hc561; exact hc561) (fun i hi => hm i (by omega))]
     · rw [addL_yes (add_0 hc135 hc337 (by rw [hv9] at hc561; exact hc561) (fun i hi => hm i (by omega)))]
    ·skip
     have hc566 := of_decide_eq_true hc566
     refine WP_cond_t rfl ?_
     refine WP_skip ?_
     refine WP_seq ?_
     refine WP_block ?_
     refine WP_seq ?_
     refine WP_region0 (by kernel_rfl) (fun _ => ?_)
     refine st (ov_move (v := .int .i64 ((k : Nat) : Int)) rfl ?_)
     refine st (ov_assign (v := .int .i64 ((k : Nat) : Int)) rfl ?_)
     refine st_nil ?_
     refine WP_seq ?_
     refine WP_region0 (by kernel_rfl) (fun _ => ?_)
     refine st (ov_move (v := .pointer (some ⟨b, 0, none⟩)) rfl ?_)
     refine st (ov_loadk (k := 10) Try.isAgg36 Try.sizeOf36 rfl rfl (CellsAt.all (hS565.blk (i := 1) rfl)) ?_)
     refine st (ov_move (v := .int .i64 ((k : Nat) : Int)) rfl ?_)
     refine st (ov_call (f := 56) (vals := [.pointer (some ⟨b, 0, none⟩), .agg (e.cells de0).toArray, .int .i64 ((k : Nat) : Int)]) (cap := []) (show _ = (.func (.func 56) #[] #[] : Value) from rfl) rfl Try.call56 (D_knew (e := e) (o := k) hA3 (RdS.base hde0 hB4) oe (by first | omega | (refine ⟨?_, ?_⟩ <;> omega)) hS565 (hd9) (hlen)) ?_)
     rintro _ w1062 ⟨rfl, hS1063⟩
     refine st (ov_not (a := (knewE L e k)) rfl ?_)
     refine st_nil ?_
     cases hc1064 : !(knewE L e k)
     ·skip
      try simp only [bools] at hc1064
      refine WP_cond_f rfl ?_
      refine WP_skip ?_
      refine WP_region0 (by kernel_rfl) (fun _ => ?_)
      have hr1065 : InR ((k + 1 : Nat) : Int) := by first | omega | (simp only [lens]; omega)
      refine st (ov_add (r := ((k + 1 : Nat) : Int)) (k := .i64) (a := ((k : Nat) : Int)) (b := 1) rfl rfl (by rw [show (((k : Nat) : Int) + 1 : Int) = ((k + 1 : Nat) : Int) by first | omega | (simp only [lens]; omega)]; exact wrap_in hr1065) ?_)
      refine st (ov_move (v := .int .i64 ((k + 1 : Nat) : Int)) rfl ?_)
      refine st_nil ?_
      exact ⟨_, by omega, k + 1, _, rfl, setAll_self ⟨rfl, rfl, rfl, rfl, trivial⟩, by omega, (all_step hm (by simpa using hc1064)), hS1063⟩
     ·skip
      try simp only [bools] at hc1064
      refine WP_cond_t rfl ?_
      refine WP_seq ?_
      refine WP_region0 (by kernel_rfl) (fun _ => ?_)
      refine st (ov_assign (v := .int .i64 (9)) rfl ?_)
      refine st_nil ?_
      refine WP_ret ?_
      refine fin1 Try.results21 (show _ = (.int .i64 (9) : Value) from rfl) ?_
      have hS1066 : Sep G W ((SetO b n L) :: (Blk b224 (x136.cells vd137).toArray 36) :: (Blk b15 (e.cells de0).toArray 36) :: Rs) w1062 := hk6 _ _ hS1063
      have hS1067 : Sep G W ((SetO b n L) :: Rs) w1062 := hS1066.sel 3 [0] (Nat.le_add_left _ _) rfl rfl
      refine ⟨L, ?_, ?_, hS1067⟩
      · rw [add_k hc135 hc337 (by rw [hv9] at hc561; exact hc561) (k := k) (by omega) (by simpa using hc1064)]
      · rw [addL_no (by rw [add_k hc135 hc337 (by rw [hv9] at hc561; exact hc561) (k := k) (by omega) (by simpa using hc1064)]; decide)]
   ·skip
    have hc561 := ndec_true hc561
    refine WP_cond_t rfl ?_
    refine WP_seq ?_
    refine WP_region0 (by kernel_rfl) (fun _ => ?_)
    refine st (ov_assign (v := .int .i64 (9)) rfl ?_)
    refine st_nil ?_
    refine WP_ret ?_
    refine fin1 Try.results21 (show _ = (.int .i64 (9) : Value) from rfl) ?_
    have hS1068 : Sep G W ((SetO b n L) :: (Blk b224 (x136.cells vd137).toArray 36) :: (Blk b15 (e.cells de0).toArray 36) :: Rs) w556 := hk6 _ _ hS559
    have hS1069 : Sep G W ((SetO b n L) :: Rs) w556 := hS1068.sel 3 [0] (Nat.le_add_left _ _) rfl rfl
    refine ⟨L, ?_, ?_, hS1069⟩
    · rw [add_s hc135 hc337 (by rw [hv9] at hc561; exact hc561)]
    · rw [addL_no (by rw [add_s hc135 hc337 (by rw [hv9] at hc561; exact hc561)]; decide)]
  ·skip
   refine WP_cond_t rfl ?_
   refine WP_seq ?_
   refine WP_region0 (by kernel_rfl) (fun _ => ?_)
   refine st (ov_assign (v := .int .i64 (16)) rfl ?_)
   refine st_nil ?_
   refine WP_ret ?_
   refine fin1 Try.results21 (show _ = (.int .i64 (16) : Value) from rfl) ?_
   have hS1070 : Sep G W ((SetO b n L) :: (Blk b224 (x136.cells vd137).toArray 36) :: (Blk b15 (e.cells de0).toArray 36) :: Rs) w332 := hk6 _ _ hS335
   have hS1071 : Sep G W ((SetO b n L) :: Rs) w332 := hS1070.sel 3 [0] (Nat.le_add_left _ _) rfl rfl
   refine ⟨L, ?_, ?_, hS1071⟩
   · rw [add_t hc135 hc337]
   · rw [addL_no (by rw [add_t hc135 hc337]; decide)]
 ·skip
  have hc135 := ndec_true hc135
  refine WP_cond_t rfl ?_
  refine WP_seq ?_
  refine WP_region0 (by kernel_rfl) (fun _ => ?_)
  refine st (ov_move (v := .int .i64 ((checkE e (((vecE n L).length : Nat) : Int)))) rfl ?_)
  refine st (ov_assign (v := .int .i64 ((checkE e (((vecE n L).length : Nat) : Int)))) rfl ?_)
  refine st_nil ?_
  refine WP_ret ?_
  refine fin1 Try.results21 (show _ = (.int .i64 ((checkE e (((vecE n L).length : Nat) : Int))) : Value) from rfl) ?_
  have hS1072 : Sep G W ((SetO b n L) :: (Blk b15 (e.cells de0).toArray 36) :: Rs) w130 := hk6 _ _ hS133
  have hS1073 : Sep G W ((SetO b n L) :: Rs) w130 := hS1072.sel 2 [0] (Nat.le_add_left _ _) rfl rfl
  refine ⟨L, ?_, ?_, hS1073⟩
  · rw [hvl9] at *; rw [add_c hc135]
  · rw [hvl9] at *; rw [addL_no (by rw [add_c hc135]; exact hc135)]

end Go.Proofs.Ytgjgmojjeehieaa
end

section
/- Plain laws of sets of events: what is known is there; parts of a set. -/
set_option linter.unusedSimpArgs false
set_option linter.unusedVariables false
namespace Go.Proofs.Ytgjgmojjeehieaa

theorem lt_cmp {a b : Ev} : ltE a b = true ↔ cmpE a b < 0 := by
  rw [cmpE_neg]
  unfold ltE
  by_cases h1 : a.lam = b.lam
  · by_cases h2 : a.origin = b.origin
    · simp [h1, h2]
    · simp [h1, h2]
  · simp [h1]
theorem cmp_trans {a b c : Ev} (h1 : cmpE a b < 0) (h2 : cmpE b c < 0) : cmpE a c < 0 := by rw [cmpE_neg] at *; omega
theorem cmp_asym {a b : Ev} (h1 : cmpE a b < 0) : ¬ cmpE b a < 0 := by rw [cmpE_neg] at *; omega
theorem cmp_total {a b : Ev} (h : idE a ≠ idE b) : cmpE a b < 0 ∨ cmpE b a < 0 := by
  rw [cmpE_neg, cmpE_neg]
  have h' : ¬ (a.origin = b.origin ∧ a.seq = b.seq) := fun e => h (by unfold idE; rw [e.1, e.2])
  omega
theorem cmp_lam {a b : Ev} (h : a.lam < b.lam) : cmpE a b < 0 := by rw [cmpE_neg]; omega

section
variable {n : Nat} {L T : List Ev} {e x y : Ev}
theorem insE_mem : x ∈ insE e L ↔ x = e ∨ x ∈ L := by rw [insE_perm.mem_iff, List.mem_cons]
theorem insE_srt (hs : Srt L) (hn : idE e ∉ L.map idE) : Srt (insE e L) := by
  induction L with
  | nil => exact List.pairwise_singleton _ _
  | cons x l ih =>
    unfold Srt at hs ⊢
    rw [List.pairwise_cons] at hs
    have hne : idE e ≠ idE x := fun h => hn (by rw [h]; exact List.mem_map.2 ⟨x, List.mem_cons_self .., rfl⟩)
    simp only [insE]
    split
    · rename_i hlt
      have h1 := lt_cmp.1 hlt
      rw [List.pairwise_cons, List.pairwise_cons]
      refine ⟨fun y hy => ?_, hs.1, hs.2⟩
      rcases List.mem_cons.1 hy with rfl | hy
      · exact h1
      · exact cmp_trans h1 (hs.1 y hy)
    · rename_i hlt
      rw [List.pairwise_cons]
      refine ⟨fun y hy => ?_, ih hs.2 (fun h => hn (List.mem_cons_of_mem _ h))⟩
      rcases insE_mem.1 hy with rfl | hy
      · rcases cmp_total hne with h | h
        · exact absurd (lt_cmp.2 h) hlt
        · exact h
      · exact hs.1 y hy

/-- A set of events as it may be. -/
structure Good (n : Nat) (L : List Ev) : Prop where
  chk : ∀ e ∈ L, checkE e n = 0
  ids : (L.map idE).Nodup
  srt : Srt L
  knw : ∀ e ∈ L, ∀ o, o < n → knewE L e o = true
  seqle : ∀ e ∈ L, e.seq ≤ ((cntE L e.origin.toNat : Nat) : Int)
  fill : ∀ (o : Nat) (q : Int), 1 ≤ q → q ≤ ((cntE L o : Nat) : Int) → (getE L ((o : Int), q)).isSome = true
theorem Good.nil : Good n [] := by
  refine ⟨fun _ h => by simp at h, List.nodup_nil, List.Pairwise.nil, fun _ h => by simp at h, fun _ h => by simp at h, fun o q h1 h2 => ?_⟩
  have h3 : cntE [] o = 0 := rfl
  omega
theorem Good.nodup (h : Good n L) : L.Nodup := (List.pairwise_map.1 h.ids).imp fun hab e => hab (congrArg idE e)
theorem Good.len (h : Good n L) : ∀ y ∈ L, y.deps.length = n := fun y hy => (check_ok (h.chk y hy)).2.2.1
theorem Good.org (h : Good n L) (hx : x ∈ L) : ((x.origin.toNat : Nat) : Int) = x.origin := by
  have := (check_ok (h.chk x hx)).1.1; omega
theorem Good.uniq (h : Good n L) (hx : x ∈ L) (hy : y ∈ L) (he : idE x = idE y) : x = y := by
  have h1 := getE_self h.ids hx
  have h2 := getE_self h.ids hy
  rw [he, h2] at h1
  exact (Option.some.inj h1).symm
theorem Good.get (h : Good n L) (hx : x ∈ L) : getE L (x.origin, x.seq) = some x := getE_self h.ids hx
theorem getE_some {k : Int × Int} (h : (getE L k).isSome = true) : ∃ x, getE L k = some x ∧ x ∈ L ∧ idE x = k := by
  obtain ⟨x, hx⟩ := Option.isSome_iff_exists.1 h
  obtain ⟨h1, h2, h3⟩ := getE_mem hx
  exact ⟨x, hx, h1, by unfold idE; rw [h2, h3]⟩
theorem knew_iff {o : Nat} : knewE L e o = true ↔ e.deps.getD o 0 = 0 ∨ ∃ x, getE L ((o : Int), e.deps.getD o 0) = some x ∧ x.lam < e.lam ∧ ∀ i, i < x.deps.length → x.deps.getD i 0 ≤ e.deps.getD i 0 := by
  unfold knewE
  by_cases h : e.deps.getD o 0 = 0
  · rw [decide_eq_true h, Bool.true_or]; exact ⟨fun _ => .inl h, fun _ => rfl⟩
  · rw [decide_eq_false h, Bool.false_or]
    constructor
    · intro h1
      cases hg : getE L ((o : Int), e.deps.getD o 0) with
      | none => rw [hg] at h1; cases h1
      | some x =>
        rw [hg] at h1
        simp only [Bool.and_eq_true, decide_eq_true_eq, List.all_eq_true, List.mem_range] at h1
        exact .inr ⟨x, rfl, h1.1, fun i hi => h1.2 i hi⟩
    · rintro (h1 | ⟨x, hg, h1, h2⟩)
      · exact absurd h1 h
      · rw [hg]
        simp only [Bool.and_eq_true, decide_eq_true_eq, List.all_eq_true, List.mem_range]
        exact ⟨h1, fun i hi => h2 i hi⟩
/-- What an event knew of its own replica: the one ahead of it. -/
theorem Good.pred (h : Good n L) (hx : x ∈ L) (h1 : 1 < x.seq) : ∃ z ∈ L, z.origin = x.origin ∧ z.seq = x.seq - 1 ∧ z.lam < x.lam := by
  obtain ⟨⟨ho, ho'⟩, _, _, hd⟩ := check_ok (h.chk x hx)
  have hk := h.knw x hx x.origin.toNat (by omega)
  rw [knew_iff, hd] at hk
  rcases hk with hk | ⟨z, hz, hl, _⟩
  · omega
  · obtain ⟨h2, h3, h4⟩ := getE_mem hz
    exact ⟨z, h2, by rw [h3]; exact h.org hx, h4, hl⟩
theorem Good.order (h : Good n L) : ∀ (k : Nat) {x y : Ev}, x ∈ L → y ∈ L → x.origin = y.origin → y.seq = x.seq + (k : Int) + 1 → x.lam < y.lam
  | k, x, y, hx, hy, ho, hk => by
    have h1 : 1 < y.seq := by have := (check_ok (h.chk x hx)).2.1.1; omega
    obtain ⟨z, hz, hzo, hzs, hzl⟩ := h.pred hy h1
    cases k with
    | zero =>
      have : x = z := h.uniq hx hz (by unfold idE; rw [ho, hzo, hzs]; congr 1; omega)
      rw [this]; exact hzl
    | succ k =>
      have := Good.order h k hx hz (ho.trans hzo.symm) (by rw [hzs, hk]; omega)
      omega
theorem Good.ahead (h : Good n L) (hx : x ∈ L) (hy : y ∈ L) (ho : x.origin = y.origin) (hs : x.seq < y.seq) : cmpE x y < 0 :=
  cmp_lam (h.order (y.seq - x.seq - 1).toNat hx hy ho (by omega))

theorem add_zero (h : addE n L e = 0) : checkE e n = 0 ∧ (getE L (e.origin, e.seq)).isSome = false ∧ e.seq = ((cntE L e.origin.toNat : Nat) : Int) + 1 ∧ ∀ o, o < n → knewE L e o = true := by
  unfold addE at h
  split at h
  · rename_i h1; exact absurd h h1
  · rename_i h1
    split at h
    · cases h
    · rename_i h2
      split at h
      · cases h
      · rename_i h3
        split at h
        · rename_i h4
          refine ⟨by simpa using h1, by simpa using h2, by simpa using h3, fun o ho => ?_⟩
          exact (List.all_eq_true.1 h4) o (List.mem_range.2 ho)
        · cases h
theorem getE_insE {k : Int × Int} (h : (getE L (e.origin, e.seq)).isSome = false) : getE (insE e L) k = if (e.origin, e.seq) = k then some e else getE L k := by
  rw [← getE_ins h]; rfl
theorem Good.add (h : Good n L) (h0 : addE n L e = 0) : Good n (insE e L) := by
  obtain ⟨hc, hg, hs, hk⟩ := add_zero h0
  obtain ⟨⟨ho, ho'⟩, ⟨hs1, _⟩, hdl, hdq⟩ := check_ok hc
  have hid : idE e ∉ L.map idE := fun hm => by
    have := getE_iff.2 hm
    unfold idE at this
    rw [hg] at this; cases this
  have hkn : ∀ {x : Ev} {o : Nat}, knewE L x o = true → knewE (insE e L) x o = true := fun {x o} hx => by
    rw [knew_iff] at hx ⊢
    rcases hx with hx | ⟨z, hz, h1, h2⟩
    · exact .inl hx
    · refine .inr ⟨z, ?_, h1, h2⟩
      rw [getE_insE hg, if_neg, hz]
      intro he
      rw [he, hz] at hg; cases hg
  refine ⟨fun x hx => ?_, ?_, insE_srt h.srt hid, fun x hx o hlt => ?_, fun x hx => ?_, fun o q h1 h2 => ?_⟩
  · rcases insE_mem.1 hx with rfl | hx
    · exact hc
    · exact h.chk x hx
  · have hp : ((insE e L).map idE).Perm (idE e :: L.map idE) := insE_perm.map idE
    exact hp.nodup_iff.2 (List.nodup_cons.2 ⟨hid, h.ids⟩)
  · rcases insE_mem.1 hx with rfl | hx
    · exact hkn (hk o hlt)
    · exact hkn (h.knw x hx o hlt)
  · rw [cnt_ins]
    rcases insE_mem.1 hx with rfl | hx
    · rw [if_pos (by omega)]; omega
    · have := h.seqle x hx; omega
  · rw [cnt_ins] at h2
    rw [getE_insE hg]
    by_cases he : (e.origin, e.seq) = ((o : Int), q)
    · rw [if_pos he]; rfl
    · rw [if_neg he]
      refine h.fill o q h1 ?_
      by_cases hoe : e.origin = (o : Int)
      · rw [if_pos hoe] at h2
        have : e.seq ≠ q := fun hq => he (by rw [hoe, hq])
        have h3 : e.origin.toNat = o := by omega
        rw [h3] at hs
        omega
      · rw [if_neg hoe] at h2; simpa using h2
theorem Good.addL (h : Good n L) : Good n (addL n L e) := by
  unfold Go.Proofs.Ytgjgmojjeehieaa.addL
  split
  · rename_i h0; exact h.add h0
  · exact h
def laidL (n : Nat) (l : List Ev) : List Ev := l.foldl (addL n) []
theorem laidL_snoc {l : List Ev} : laidL n (l ++ [e]) = addL n (laidL n l) e := by unfold laidL; rw [List.foldl_append]; rfl
theorem foldl_good : ∀ {l : List Ev} {L : List Ev}, Good n L → Good n (l.foldl (addL n) L)
  | [], _, h => h
  | _ :: l, _, h => foldl_good (l := l) h.addL
theorem laidL_good {l : List Ev} : Good n (laidL n l) := foldl_good Good.nil
theorem addL_len : (addL n L e).length ≤ L.length + 1 := by
  unfold addL
  split
  · rw [insE_len]; omega
  · omega
theorem foldl_len : ∀ {l : List Ev} {L : List Ev}, (l.foldl (addL n) L).length ≤ L.length + l.length
  | [], _ => Nat.le_refl _
  | x :: l, L => by
    have := foldl_len (l := l) (L := addL n L x)
    have h2 := addL_len (n := n) (L := L) (e := x)
    simp only [List.foldl_cons, List.length_cons]
    omega
theorem laidL_len {l : List Ev} : (laidL n l).length ≤ l.length := by have := foldl_len (n := n) (l := l) (L := []); simpa [laidL] using this

/-- An event of a set can be added to a part of it that has all that stands ahead of the event. -/
theorem Good.sub_add (h : Good n L) (ht : Good n T) (hsub : ∀ x ∈ T, x ∈ L) (he : e ∈ L) (hne : e ∉ T) (hall : ∀ x ∈ L, cmpE x e < 0 → x ∈ T) : addE n T e = 0 := by
  have hc := h.chk e he
  obtain ⟨⟨ho, ho'⟩, ⟨hs1, _⟩, _, _⟩ := check_ok hc
  have hg : (getE T (e.origin, e.seq)).isSome = false := by
    cases hb : (getE T (e.origin, e.seq)).isSome with
    | false => rfl
    | true =>
      obtain ⟨x, _, hx, hid⟩ := getE_some hb
      exact absurd (h.uniq (hsub x hx) he hid ▸ hx) hne
  have horg := h.org he
  have hseq : e.seq = ((cntE T e.origin.toNat : Nat) : Int) + 1 := by
    rcases Int.lt_trichotomy e.seq (((cntE T e.origin.toNat : Nat) : Int) + 1) with h1 | h1 | h1
    · have := ht.fill e.origin.toNat e.seq hs1 (by omega)
      rw [horg, hg] at this; cases this
    · exact h1
    · exfalso
      have h2 := h.seqle e he
      have h3 := h.fill e.origin.toNat (((cntE T e.origin.toNat : Nat) : Int) + 1) (by omega) (by omega)
      obtain ⟨y, _, hy, hid⟩ := getE_some h3
      have hyo : y.origin = e.origin := by have := congrArg Prod.fst hid; simpa [idE, horg] using this
      have hys : y.seq = ((cntE T e.origin.toNat : Nat) : Int) + 1 := congrArg Prod.snd hid
      have hyt := hall y hy (h.ahead hy he hyo (by omega))
      have := ht.seqle y hyt
      rw [hyo] at this
      omega
  refine add_0 hc hg hseq fun o hlt => ?_
  have hk := h.knw e he o hlt
  rw [knew_iff] at hk ⊢
  rcases hk with hk | ⟨x, hx, hl, hd⟩
  · exact .inl hk
  · obtain ⟨hx1, hx2, hx3⟩ := getE_mem hx
    have hxt := hall x hx1 (cmp_lam hl)
    refine .inr ⟨x, ?_, hl, hd⟩
    have := ht.get hxt
    rw [hx2, hx3] at this
    exact this
theorem Good.of_mem (h : Good n L) (ht : Good n T) (hsub : ∀ x, x ∈ T ↔ x ∈ L) : T = L := by
  have hp : T.Perm L := (List.perm_ext_iff_of_nodup ht.nodup h.nodup).2 hsub
  exact pairwise_uniq hp h.srt (ht.srt.imp fun hab => cmp_asym hab)
end
end Go.Proofs.Ytgjgmojjeehieaa
end

section
/- Steps of the proofs of this seat: part B1. -/
set_option linter.unusedSimpArgs false
set_option linter.unusedVariables false
set_option maxRecDepth 8000
set_option maxHeartbeats 4000000
namespace Go.Proofs.Ytgjgmojjeehieaa
open Go.Proofs Go.RowKit

theorem D_sameEvents {G : Nat → Prop} {W w : World} {Rs : List HP} {va : Value} {a : List Ev} (ha : RdS W G va a) {vb : Value} {b : List Ev} (hb : RdS W G vb b) (hS0 : Sep G W Rs w) : Ret Try.prog 22 [va, vb] w (fun r w' => r = (.bool (decide (a = b)) : Value) ∧ Sep G W Rs w') := by
 have has : a.length * 96 ≤ 140737488355328 := ha.small
 have hbs : b.length * 96 ≤ 140737488355328 := hb.small
 refine Calls_of_WP (args := [va, vb]) Try.func22 rfl rfl ?_
 refine WP_seq ?_
 refine WP_region0 (by kernel_rfl) (fun _ => ?_)
 refine st (ov_assign (v := .bool false) rfl ?_)
 refine st_nil ?_
 refine WP_seq ?_
 refine WP_seq ?_
 refine WP_region0 (by kernel_rfl) (fun _ => ?_)
 refine st (ov_move (v := va) rfl ?_)
 refine st (ov_len (n := a.length) Try.underlying22 rfl ha.sl ?_)
 refine st (ov_move (v := vb) rfl ?_)
 refine st (ov_len (n := b.length) Try.underlying22 rfl hb.sl ?_)
 refine st (ov_neq (k := .i64) (a := ((a.length : Nat) : Int)) (b := ((b.length : Nat) : Int)) rfl rfl ?_)
 refine st_nil ?_
 cases hc1 : !decide (((a.length : Nat) : Int) = ((b.length : Nat) : Int))
 ·skip
  have hc1 := ndec_false hc1
  refine WP_cond_f rfl ?_
  refine WP_skip ?_
  refine WP_seq ?_
  refine WP_seq ?_
  refine WP_region0 (by kernel_rfl) (fun _ => ?_)
  refine st (ov_assign (v := .int .i64 (0)) rfl ?_)
  refine st_nil ?_
  refine WP_block ?_
  refine WP_loop (fun mq σ wq => ∃ (k : Nat) (ρ : Env), mq = a.length - k ∧ σ = setAll ρ [(0, va), (1, vb), (5, .int .i64 ((k : Nat) : Int))] ∧ (k ≤ a.length) ∧ (∀ i, i < k → a.getD i default = b.getD i default) ∧ Sep G W Rs wq) ⟨0, _, rfl, setAll_self ⟨rfl, rfl, rfl, trivial⟩, Nat.zero_le _, (fun i h => absurd h (Nat.not_lt_zero i)), hS0⟩ ?_
  rintro m3 σ4 w2 ⟨k, ρl1, rfl, rfl, hkk, hm, hS5⟩
  refine WP_seq ?_
  refine WP_seq ?_
  refine WP_region0 (by kernel_rfl) (fun _ => ?_)
  refine st (ov_move (v := .int .i64 ((k : Nat) : Int)) rfl ?_)
  refine st (ov_move (v := va) rfl ?_)
  refine st (ov_len (n := a.length) Try.underlying22 rfl ha.sl ?_)
  refine st (ov_lss (k := .i64) (a := ((k : Nat) : Int)) (b := ((a.length : Nat) : Int)) rfl rfl ?_)
  refine st_nil ?_
  cases hc6 : decide (((k : Nat) : Int) < ((a.length : Nat) : Int))
  ·skip
   have hc6 := of_decide_eq_false hc6
   refine WP_cond_f rfl ?_
   refine WP_exit ?_
   refine blk_exit ?_
   refine WP_seq ?_
   refine WP_region0 (by kernel_rfl) (fun _ => ?_)
   refine st (ov_assign (v := .bool true) rfl ?_)
   refine st_nil ?_
   refine WP_ret ?_
   refine fin1 Try.results22 (show _ = (.bool true : Value) from rfl) ?_
   refine ⟨?_, hS5⟩
   rw [decide_eq_true (ext_getD (by omega) (fun i hi => hm i (by omega)))]
  ·skip
   have hc6 := of_decide_eq_true hc6
   refine WP_cond_t rfl ?_
   refine WP_skip ?_
   refine WP_seq ?_
   refine WP_block ?_
   refine WP_seq ?_
   refine WP_draw4 (WF [fun vals wq => Sep G W Rs wq, fun vals wq => (vals 8 = (.bool (decide ((a.getD k default) = (b.getD k default))) : Value)) ∧ Sep G W Rs wq]) (AF [Vl 0 (va), Vl 1 (.int .i64 ((k : Nat) : Int)), Vl 2 (.pointer (some ⟨sb va, so va + k * 10, none⟩)), Vl 3 (.agg ((a.getD k default).cells (cellV W (sb va) (so va + k * 10 + 3))).toArray), Vl 4 (vb), Vl 5 (.int .i64 ((k : Nat) : Int)), Vl 6 (.pointer (some ⟨sb vb, so vb + k * 10, none⟩)), Vl 7 (.agg ((b.getD k default).cells (cellV W (sb vb) (so vb + k * 10 + 3))).toArray), fun _ => True, Vl 9 (.bool (!(decide ((a.getD k default) = (b.getD k default)))))]) [[], [], [0, 1], [0, 1, 2], [], [], [4, 5], [4, 5, 6], [0, 1, 2, 3, 4, 5, 6, 7], [0, 1, 2, 3, 4, 5, 6, 7, 8]] [8] [(0, 0), (0, 0), (0, 0), (0, 0), (0, 0), (0, 0), (0, 0), (0, 0), (0, 0), (1, 1)] (by kernel_rfl) (by kernel_rfl) (by kernel_rfl) rfl (by kernel_rfl) (by kernel_rfl) (fun _ h1 h2 h3 h4 _ => hS5.same h1 h2 h3 h4) ?_ (AF_loc ⟨dA, dA, dA, dA, dA, dA, dA, dA, dT, dA, trivial⟩) ⟨?_, ?_, ?_, ?_, ?_, ?_, ?_, ?_, ?_, ?_, trivial⟩ ?_
   ·intro k vals vals' w hv h
    have e : ∀ j ∈ ([8] : List Nat), vals' j = vals j := hv
    match k, h with
    | 0, h => exact h
    | 1, h => exact (by simpa only [WF, List.getElem?_cons_zero, List.getElem?_cons_succ, e 8 (by decide)] using h)
    | _ + 2, _ => trivial
   ·intro k102 vals w103 h106 h107 hW105 hA104
    refine obl rfl ?_
    exact ov_move (v := va) rfl (fun vals' hv _ => ⟨rfl, hv⟩)
   ·intro k108 vals w109 h112 h113 hW111 hA110
    refine obl rfl ?_
    exact ov_move (v := .int .i64 ((k : Nat) : Int)) rfl (fun vals' hv _ => ⟨rfl, hv⟩)
   ·intro k114 vals w115 h118 h119 hW117 hA116
    obtain rfl : k114 = 0 := Nat.le_antisymm h119 h118
    have hS120 : Sep G W Rs w115 := hW117
    have e121 := hA116 0 (by decide)
    have e122 := hA116 1 (by decide)
    refine obl rfl ?_
    have hi123 : k < a.length := (by first | omega | (simp only [lens]; omega))
    exact ov_indexAddrN (k := 10) (i := k) Try.underlying22 Try.sizeOf36 e121 ha.sl e122 hi123 (fun vals' hv _ => ⟨rfl, hv⟩)
   ·intro k124 vals w125 h128 h129 hW127 hA126
    obtain rfl : k124 = 0 := Nat.le_antisymm h129 h128
    have hS130 : Sep G W Rs w125 := hW127
    have e131 := hA126 2 (by decide)
    refine obl rfl ?_
    have hi133 : k < a.length := (by first | omega | (simp only [lens]; omega))
    obtain ⟨hce132, hde132_0, hoke132⟩ := ha.ev hi133
    rw [← getD_at default hi133] at hce132 hde132_0 hoke132
    have hsm134 : ((a.getD k default).deps).length * 8 ≤ 140737488355328 := hde132_0.small
    have hcw135 := hS130.cells hce132 (ha.foot (ne_of_lt hi133))
    exact ov_loadk (k := 10) Try.isAgg36 Try.sizeOf36 rfl e131 hcw135 (fun vals' hv _ => ⟨rfl, hv⟩)
   ·intro k136 vals w137 h140 h141 hW139 hA138
    refine obl rfl ?_
    exact ov_move (v := vb) rfl (fun vals' hv _ => ⟨rfl, hv⟩)
   ·intro k142 vals w143 h146 h147 hW145 hA144
    refine obl rfl ?_
    exact ov_move (v := .int .i64 ((k : Nat) : Int)) rfl (fun vals' hv _ => ⟨rfl, hv⟩)
   ·intro k148 vals w149 h152 h153 hW151 hA150
    obtain rfl : k148 = 0 := Nat.le_antisymm h153 h152
    have hS154 : Sep G W Rs w149 := hW151
    have e155 := hA150 4 (by decide)
    have e156 := hA150 5 (by decide)
    refine obl rfl ?_
    have hi157 : k < b.length := (by first | omega | (simp only [lens]; omega))
    exact ov_indexAddrN (k := 10) (i := k) Try.underlying22 Try.sizeOf36 e155 hb.sl e156 hi157 (fun vals' hv _ => ⟨rfl, hv⟩)
   ·intro k158 vals w159 h162 h163 hW161 hA160
    obtain rfl : k158 = 0 := Nat.le_antisymm h163 h162
    have hS164 : Sep G W Rs w159 := hW161
    have e165 := hA160 6 (by decide)
    refine obl rfl ?_
    have hi167 : k < b.length := (by first | omega | (simp only [lens]; omega))
    obtain ⟨hce166, hde166_0, hoke166⟩ := hb.ev hi167
    rw [← getD_at default hi167] at hce166 hde166_0 hoke166
    have hsm168 : ((b.getD k default).deps).length * 8 ≤ 140737488355328 := hde166_0.small
    have hcw169 := hS164.cells hce166 (hb.foot (ne_of_lt hi167))
    exact ov_loadk (k := 10) Try.isAgg36 Try.sizeOf36 rfl e165 hcw169 (fun vals' hv _ => ⟨rfl, hv⟩)
   ·intro k75 vals w76 h79 h80 hW78 hA77
    obtain rfl : k75 = 0 := Nat.le_antisymm h80 h79
    have hS81 : Sep G W Rs w76 := hW78
    have e82 := hA77 3 (by decide)
    have e83 := hA77 7 (by decide)
    refine obl rfl ?_
    have hi85 : k < a.length := (by first | omega | (simp only [lens]; omega))
    obtain ⟨hce84, hde84_0, hoke84⟩ := ha.ev hi85
    rw [← getD_at default hi85] at hce84 hde84_0 hoke84
    have hsm86 : ((a.getD k default).deps).length * 8 ≤ 140737488355328 := hde84_0.small
    have hcw87 := hS81.cells hce84 (ha.foot (ne_of_lt hi85))
    have hi89 : k < b.length := (by first | omega | (simp only [lens]; omega))
    obtain ⟨hce88, hde88_0, hoke88⟩ := hb.ev hi89
    rw [← getD_at default hi89] at hce88 hde88_0 hoke88
    have hsm90 : ((b.getD k default).deps).length * 8 ≤ 140737488355328 := hde88_0.small
    have hcw91 := hS81.cells hce88 (hb.foot (ne_of_lt hi89))
    refine (ov_call (f := 30) (vals := [.agg ((a.getD k default).cells (cellV W (sb va) (so va + k * 10 + 3))).toArray, .agg ((b.getD k default).cells (cellV W (sb vb) (so vb + k * 10 + 3))).toArray]) (cap := []) (show _ = (.func (.func 30) #[] #[] : Value) from rfl) (mapL ⟨e82, e83, trivial⟩) Try.call30 (D_sameEvent (a := (a.getD k default)) (b := (b.getD k default)) hde84_0 hoke84 hde88_0 hoke88 hS81) ?_)
    rintro _ w92 ⟨rfl, hS93⟩
    intro vals' hv hv'
    refine ⟨?_, trivial⟩
    show (vals' 8 = (.bool (decide ((a.getD k default) = (b.getD k default))) : Value)) ∧ Sep G W Rs w92
    exact ⟨hv, hS93⟩
   ·intro k170 vals w171 h174 h175 hW173 hA172
    obtain rfl : k170 = 1 := Nat.le_antisymm h175 h174
    obtain ⟨he94, hS176⟩ := hW173
    refine obl rfl ?_
    exact ov_not (a := decide ((a.getD k default) = (b.getD k default))) he94 (fun vals' hv _ => ⟨rfl, hv⟩)
   intro vals w177 hW178 hA179
   obtain ⟨he94, hS180⟩ := hW178
   have e181 := hA179 9 (by decide)
   refine st_env (kv := [(0, va), (1, vb), (5, .int .i64 ((k : Nat) : Int)), (11, .int .i64 ((k : Nat) : Int)), (12, va), (13, .int .i64 ((a.length : Nat) : Int)), (14, .bool true), (26, .bool (!(decide ((a.getD k default) = (b.getD k default)))))]) ⟨rfl, rfl, rfl, rfl, rfl, rfl, rfl, (by exact e181), trivial⟩ (fun ρw177 => ?_)
   refine st_nil ?_
   cases hc182 : !(decide ((a.getD k default) = (b.getD k default)))
   ·skip
    have hc182 := ndec_false hc182
    refine WP_cond_f rfl ?_
    refine WP_skip ?_
    refine WP_region0 (by kernel_rfl) (fun _ => ?_)
    refine st (ov_move (v := .int .i64 ((k : Nat) : Int)) rfl ?_)
    have hr183 : InR ((k + 1 : Nat) : Int) := by first | omega | (simp only [lens]; omega)
    refine st (ov_add (r := ((k + 1 : Nat) : Int)) (k := .i64) (a := ((k : Nat) : Int)) (b := 1) rfl rfl (by rw [show (((k : Nat) : Int) + 1 : Int) = ((k + 1 : Nat) : Int) by first | omega | (simp only [lens]; omega)]; exact wrap_in hr183) ?_)
    refine st (ov_assign (v := .int .i64 ((k + 1 : Nat) : Int)) rfl ?_)
    refine st_nil ?_
    exact ⟨_, by omega, k + 1, _, rfl, setAll_self ⟨rfl, rfl, rfl, trivial⟩, by omega, (all_step hm (by simpa using hc182)), hS180⟩
   ·skip
    have hc182 := ndec_true hc182
    refine WP_cond_t rfl ?_
    refine WP_seq ?_
    refine WP_region0 (by kernel_rfl) (fun _ => ?_)
    refine st (ov_assign (v := .bool false) rfl ?_)
    refine st_nil ?_
    refine WP_ret ?_
    refine fin1 Try.results22 (show _ = (.bool false : Value) from rfl) ?_
    refine ⟨?_, hS180⟩
    rw [decide_eq_false (fun e => by subst e; first | omega | (simp at hc182))]
 ·skip
  have hc1 := ndec_true hc1
  refine WP_cond_t rfl ?_
  refine WP_seq ?_
  refine WP_region0 (by kernel_rfl) (fun _ => ?_)
  refine st (ov_assign (v := .bool false) rfl ?_)
  refine st_nil ?_
  refine WP_ret ?_
  refine fin1 Try.results22 (show _ = (.bool false : Value) from rfl) ?_
  refine ⟨?_, hS0⟩
  rw [decide_eq_false (fun e => by subst e; first | omega | (simp at hc1))]

theorem laid_step {n : Nat} {l : List Ev} {k : Nat} (hk : k < l.length) : addL n (laidL n (l.take k)) (l.getD k default) = laidL n (l.take (k + 1)) := by
  rw [List.take_succ_eq_append_getElem hk, laidL_snoc, getD_at _ hk]
theorem laid_take {n : Nat} {l : List Ev} {k : Nat} : (laidL n (l.take k)).length ≤ l.length := Nat.le_trans laidL_len (List.length_take_le' ..)
def evA : Ev := ⟨0, 1, 1, [0, 0], 0, 0, 0, 1, 1, 4⟩
def evB : Ev := ⟨1, 1, 2, [1, 0], 0, 0, 0, 1, 1, 0⟩
theorem D_a {G : Nat → Prop} {W w : World} {Rs : List HP}  (hS0 : Sep G W Rs w) : Ret Try.prog 32 [] w (fun r w' => ∃ (v : Value), r = (.agg (evA.cells v).toArray : Value) ∧ Sep G W ((RowE (α := Int) own 3 v evA.deps) :: Rs) w') := by
 refine Calls_of_WP (args := []) Try.func32 rfl rfl ?_
 refine WP_seq ?_
 refine WP_region0 (by kernel_rfl) (fun _ => ?_)
 refine st (ov_alloc Try.zeroValue36 ?_)
 intro w3 b2 hn1
 have hS4 : Sep G W ((Blk b2 #[.int .i64 (0), .int .i64 (0), .int .i64 (0), (.slice none 0 0), .int .i64 (0), .int .i64 (0), .int .i64 (0), .int .i64 (0), .int .i64 (0), .int .i64 (0)] 36) :: Rs) w3 := hS0.new hn1
 refine st_nil ?_
 refine WP_seq ?_
 refine WP_region0 (by kernel_rfl) (fun _ => ?_)
 refine st (ov_build (parts' := [(0, .int .i64 (0)), (1, .int .i64 (1))]) (v := .agg #[.int .i64 (0), .int .i64 (1)]) rfl (by simp [Instr.build, Instr.fill, go_sem, Ev.cells]) ?_)
 refine st (ov_buildSlice (k := 1) (parts' := [(0, .int .i64 (0)), (1, .int .i64 (0))]) (c := #[.int .i64 (0), .int .i64 (0)]) Try.underlying34 Try.sizeOf3 Try.zeroValue3 (by decide) rfl (by kernel_rfl) ?_)
 intro w7 b6 hn5
 have hS8 : Sep G W ((Blk b6 #[.int .i64 (0), .int .i64 (0)] 3) :: (Blk b2 #[.int .i64 (0), .int .i64 (0), .int .i64 (0), (.slice none 0 0), .int .i64 (0), .int .i64 (0), .int .i64 (0), .int .i64 (0), .int .i64 (0), .int .i64 (0)] 36) :: Rs) w7 := hS4.new hn5
 have hS9 : Sep G W ((RowE (α := Int) own 3 (.slice (some ⟨b6, 0, none⟩) 2 2) [0, 0]) :: (Blk b2 #[.int .i64 (0), .int .i64 (0), .int .i64 (0), (.slice none 0 0), .int .i64 (0), .int .i64 (0), .int .i64 (0), .int .i64 (0), .int .i64 (0), .int .i64 (0)] 36) :: Rs) w7 := Sep.blkRow (src := own) (l := [0, 0]) (css := [[.int .i64 (0)], [.int .i64 (0)]]) hS8 rfl ⟨fun _ _ => ⟨rfl, (by decide)⟩, fun _ _ => ⟨rfl, (by decide)⟩, trivial⟩ (by first | decide | (simp only [List.length_cons, List.length_nil]; decide))
 have hr10 := hS9.row (i := 0) rfl
 have hr10s : [0, 0].length * 8 ≤ 140737488355328 := hr10.2
 have ok11 : Ev.Ok (⟨0, 1, 1, [0, 0], 0, 0, 0, 1, 1, 4⟩ : Ev) := ⟨(show InR (0) from (by decide)), (show InR (1) from (by decide)), (show InR (1) from (by decide)), (show InR (0) from (by decide)), (show InR (0) from (by decide)), (show InR (0) from (by decide)), (show InR (1) from (by decide)), (show InR (1) from (by decide)), (show InR (4) from (by decide))⟩
 refine st (ov_build (parts' := [(0, .agg #[.int .i64 (0), .int .i64 (1)]), (1, .int .i64 (1)), (2, (.slice (some ⟨b6, 0, none⟩) 2 2)), (6, .int .i64 (1)), (7, .int .i64 (1)), (8, .int .i64 (4))]) (v := .agg ((⟨0, 1, 1, [0, 0], 0, 0, 0, 1, 1, 4⟩ : Ev).cells (.slice (some ⟨b6, 0, none⟩) 2 2)).toArray) rfl (by simp [Instr.build, Instr.fill, go_sem, Ev.cells]) ?_)
 refine stn (ov_store (v := .agg ((⟨0, 1, 1, [0, 0], 0, 0, 0, 1, 1, 4⟩ : Ev).cells (.slice (some ⟨b6, 0, none⟩) 2 2)).toArray) (c' := ((⟨0, 1, 1, [0, 0], 0, 0, 0, 1, 1, 4⟩ : Ev).cells (.slice (some ⟨b6, 0, none⟩) 2 2)).toArray) Try.sizeOf36 rfl rfl (hS9.blk (i := 1) rfl) (all1 ⟨rfl, rfl, rfl, rfl, rfl, rfl, rfl, rfl, rfl, rfl, trivial⟩) (Nat.le_of_ble_eq_true rfl) rfl ?_)
 intro w12 hp13
 have hS14 : Sep G W ((RowE (α := Int) own 3 (.slice (some ⟨b6, 0, none⟩) 2 2) [0, 0]) :: (Blk b2 ((⟨0, 1, 1, [0, 0], 0, 0, 0, 1, 1, 4⟩ : Ev).cells (.slice (some ⟨b6, 0, none⟩) 2 2)).toArray 36) :: Rs) w12 := hS9.put (i := 1) rfl hp13
 refine st_nil ?_
 refine WP_ret ?_
 refine finc (b := b2) Try.results32 Try.isAgg36 Try.sizeOf36 rfl rfl (CellsAt.all (hS14.blk (i := 1) rfl)) ?_
 have hS15 : Sep G W ((RowE (α := Int) own 3 (.slice (some ⟨b6, 0, none⟩) 2 2) [0, 0]) :: Rs) w12 := hS14.sel 2 [0] (Nat.le_add_left _ _) rfl rfl
 refine ⟨(.slice (some ⟨b6, 0, none⟩) 2 2), rfl, hS15⟩

theorem D_b {G : Nat → Prop} {W w : World} {Rs : List HP}  (hS0 : Sep G W Rs w) : Ret Try.prog 33 [] w (fun r w' => ∃ (v : Value), r = (.agg (evB.cells v).toArray : Value) ∧ Sep G W ((RowE (α := Int) own 3 v evB.deps) :: Rs) w') := by
 refine Calls_of_WP (args := []) Try.func33 rfl rfl ?_
 refine WP_seq ?_
 refine WP_region0 (by kernel_rfl) (fun _ => ?_)
 refine st (ov_alloc Try.zeroValue36 ?_)
 intro w3 b2 hn1
 have hS4 : Sep G W ((Blk b2 #[.int .i64 (0), .int .i64 (0), .int .i64 (0), (.slice none 0 0), .int .i64 (0), .int .i64 (0), .int .i64 (0), .int .i64 (0), .int .i64 (0), .int .i64 (0)] 36) :: Rs) w3 := hS0.new hn1
 refine st_nil ?_
 refine WP_seq ?_
 refine WP_region0 (by kernel_rfl) (fun _ => ?_)
 refine st (ov_build (parts' := [(0, .int .i64 (1)), (1, .int .i64 (1))]) (v := .agg #[.int .i64 (1), .int .i64 (1)]) rfl (by simp [Instr.build, Instr.fill, go_sem, Ev.cells]) ?_)
 refine st (ov_buildSlice (k := 1) (parts' := [(0, .int .i64 (1)), (1, .int .i64 (0))]) (c := #[.int .i64 (1), .int .i64 (0)]) Try.underlying34 Try.sizeOf3 Try.zeroValue3 (by decide) rfl (by kernel_rfl) ?_)
 intro w7 b6 hn5
 have hS8 : Sep G W ((Blk b6 #[.int .i64 (1), .int .i64 (0)] 3) :: (Blk b2 #[.int .i64 (0), .int .i64 (0), .int .i64 (0), (.slice none 0 0), .int .i64 (0), .int .i64 (0), .int .i64 (0), .int .i64 (0), .int .i64 (0), .int .i64 (0)] 36) :: Rs) w7 := hS4.new hn5
 have hS9 : Sep G W ((RowE (α := Int) own 3 (.slice (some ⟨b6, 0, none⟩) 2 2) [1, 0]) :: (Blk b2 #[.int .i64 (0), .int .i64 (0), .int .i64 (0), (.slice none 0 0), .int .i64 (0), .int .i64 (0), .int .i64 (0), .int .i64 (0), .int .i64 (0), .int .i64 (0)] 36) :: Rs) w7 := Sep.blkRow (src := own) (l := [1, 0]) (css := [[.int .i64 (1)], [.int .i64 (0)]]) hS8 rfl ⟨fun _ _ => ⟨rfl, (by decide)⟩, fun _ _ => ⟨rfl, (by decide)⟩, trivial⟩ (by first | decide | (simp only [List.length_cons, List.length_nil]; decide))
 have hr10 := hS9.row (i := 0) rfl
 have hr10s : [1, 0].length * 8 ≤ 140737488355328 := hr10.2
 have ok11 : Ev.Ok (⟨1, 1, 2, [1, 0], 0, 0, 0, 1, 1, 0⟩ : Ev) := ⟨(show InR (1) from (by decide)), (show InR (1) from (by decide)), (show InR (2) from (by decide)), (show InR (0) from (by decide)), (show InR (0) from (by decide)), (show InR (0) from (by decide)), (show InR (1) from (by decide)), (show InR (1) from (by decide)), (show InR (0) from (by decide))⟩
 refine st (ov_build (parts' := [(0, .agg #[.int .i64 (1), .int .i64 (1)]), (1, .int .i64 (2)), (2, (.slice (some ⟨b6, 0, none⟩) 2 2)), (6, .int .i64 (1)), (7, .int .i64 (1))]) (v := .agg ((⟨1, 1, 2, [1, 0], 0, 0, 0, 1, 1, 0⟩ : Ev).cells (.slice (some ⟨b6, 0, none⟩) 2 2)).toArray) rfl (by simp [Instr.build, Instr.fill, go_sem, Ev.cells]) ?_)
 refine stn (ov_store (v := .agg ((⟨1, 1, 2, [1, 0], 0, 0, 0, 1, 1, 0⟩ : Ev).cells (.slice (some ⟨b6, 0, none⟩) 2 2)).toArray) (c' := ((⟨1, 1, 2, [1, 0], 0, 0, 0, 1, 1, 0⟩ : Ev).cells (.slice (some ⟨b6, 0, none⟩) 2 2)).toArray) Try.sizeOf36 rfl rfl (hS9.blk (i := 1) rfl) (all1 ⟨rfl, rfl, rfl, rfl, rfl, rfl, rfl, rfl, rfl, rfl, trivial⟩) (Nat.le_of_ble_eq_true rfl) rfl ?_)
 intro w12 hp13
 have hS14 : Sep G W ((RowE (α := Int) own 3 (.slice (some ⟨b6, 0, none⟩) 2 2) [1, 0]) :: (Blk b2 ((⟨1, 1, 2, [1, 0], 0, 0, 0, 1, 1, 0⟩ : Ev).cells (.slice (some ⟨b6, 0, none⟩) 2 2)).toArray 36) :: Rs) w12 := hS9.put (i := 1) rfl hp13
 refine st_nil ?_
 refine WP_ret ?_
 refine finc (b := b2) Try.results33 Try.isAgg36 Try.sizeOf36 rfl rfl (CellsAt.all (hS14.blk (i := 1) rfl)) ?_
 have hS15 : Sep G W ((RowE (α := Int) own 3 (.slice (some ⟨b6, 0, none⟩) 2 2) [1, 0]) :: Rs) w12 := hS14.sel 2 [0] (Nat.le_add_left _ _) rfl rfl
 refine ⟨(.slice (some ⟨b6, 0, none⟩) 2 2), rfl, hS15⟩

end Go.Proofs.Ytgjgmojjeehieaa
end

section
/- Steps of the proofs of this seat: part B2. -/
set_option linter.unusedSimpArgs false
set_option linter.unusedVariables false
set_option maxRecDepth 8000
set_option maxHeartbeats 4000000
namespace Go.Proofs.Ytgjgmojjeehieaa
open Go.Proofs Go.RowKit

theorem evA_ok : evA.Ok := by constructor <;> decide
theorem evB_ok : evB.Ok := by constructor <;> decide
theorem kx1 : addL 2 [] evB = [] := by decide +kernel
theorem kx2 : addL 2 [] evA = [evA] := by decide +kernel
theorem kx3 : addL 2 [evA] evA = [evA] := by decide +kernel
theorem kx4 : addL 2 [evA] evB = [evA, evB] := by decide +kernel
theorem kg : Good 2 [evA, evB] := by
  have h1 : Good 2 [evA] := by rw [← kx2]; exact Good.nil.addL
  rw [← kx4]; exact h1.addL
theorem kg1 : Good 2 [evA] := by rw [← kx2]; exact Good.nil.addL
theorem D_known9 {G : Nat → Prop} {W w : World} {Rs : List HP}  (hS0 : Sep G W Rs w) : Ret Try.prog 16 [] w (fun r w' => r = (.bool true : Value) ∧ Sep G W Rs w') := by
 refine Calls_of_WP (args := []) Try.func16 rfl rfl ?_
 refine WP_seq ?_
 refine WP_region0 (by kernel_rfl) (fun _ => ?_)
 refine st (ov_assign (v := .bool false) rfl ?_)
 refine st_nil ?_
 refine WP_seq ?_
 refine WP_region0 (by kernel_rfl) (fun _ => ?_)
 refine st (ov_call (f := 20) (vals := [.int .i64 (2)]) (cap := []) (show _ = (.func (.func 20) #[] #[] : Value) from rfl) rfl Try.call20 (D_NewSet (n := 2) (by first | omega | (refine ⟨?_, ?_⟩ <;> omega)) hS0) ?_)
 rintro _ w2 ⟨b1, rfl, hS3⟩
 refine st (ov_assign (v := .pointer (some ⟨b1, 0, none⟩)) rfl ?_)
 refine st_nil ?_
 refine WP_seq ?_
 refine WP_region (by kernel_rfl) ?_
 refine st (ov_move (v := .pointer (some ⟨b1, 0, none⟩)) rfl ?_)
 refine st (ov_neqPtr (b := b1) (o := 0) Try.underlying26 rfl ?_)
 refine st (ov_move (v := .bool true) rfl ?_)
 refine sty rfl rfl (ov_move (v := .pointer (some ⟨b1, 0, none⟩)) rfl ?_)
 refine sty rfl rfl (ov_call (f := 33) (vals := []) (cap := []) (show _ = (.func (.func 33) #[] #[] : Value) from rfl) rfl Try.call33 (D_b  hS3) ?_)
 rintro _ w5 ⟨v4, rfl, hS6⟩
 have hr7 := hS6.row (i := 0) rfl
 have hr7s : evB.deps.length * 8 ≤ 140737488355328 := hr7.2
 obtain ⟨G8, hA10, hB11, hS12, hk13⟩ := hS6.lend
 have hrd14 := RowE.rd hA10
 have hrd14s : evB.deps.length * 8 ≤ 140737488355328 := hrd14.small
 refine sty rfl rfl (ov_call (f := 21) (vals := [.pointer (some ⟨b1, 0, none⟩), .agg (evB.cells v4).toArray]) (cap := []) (show _ = (.func (.func 21) #[] #[] : Value) from rfl) rfl Try.call21 (D_Add (e := evB) hrd14 evB_ok hS12 ((by decide)) (by first | exact Good.nil.len | exact kg1.len | exact kg.len)) ?_)
 rintro _ w17 ⟨L115, rfl, hL116, hS18⟩
 have hS19 : Sep G W ((RowE (α := Int) own 3 v4 evB.deps) :: (SetO b1 2 L115) :: Rs) w17 := hk13 _ _ hS18
 obtain rfl := hL116.trans kx1
 refine sty rfl rfl (ov_eql (k := .i64) (a := (addE 2 ([] : List Ev) evB)) (b := 9) rfl rfl ?_)
 have hkn20 : (decide ((addE 2 ([] : List Ev) evB) = 9)) = true := (by decide +kernel)
 rw [hkn20]
 refine st (ov_pick_t (v := .bool true) rfl rfl ?_)
 refine st (ov_move (v := .bool true) rfl ?_)
 refine sty rfl rfl (ov_move (v := .pointer (some ⟨b1, 0, none⟩)) rfl ?_)
 refine sty rfl rfl (ov_call (f := 32) (vals := []) (cap := []) (show _ = (.func (.func 32) #[] #[] : Value) from rfl) rfl Try.call32 (D_a  hS19) ?_)
 rintro _ w22 ⟨v21, rfl, hS23⟩
 have hr24 := hS23.row (i := 0) rfl
 have hr24s : evA.deps.length * 8 ≤ 140737488355328 := hr24.2
 obtain ⟨G25, hA27, hB28, hS29, hk30⟩ := hS23.lend
 have hrd31 := RowE.rd hA27
 have hrd31s : evA.deps.length * 8 ≤ 140737488355328 := hrd31.small
 have hS32 : Sep G25 w22 ((SetO b1 2 ([] : List Ev)) :: (RowE (α := Int) own 3 v4 evB.deps) :: Rs) w22 := hS29.sel 2 [1, 0] (Nat.le_add_left _ _) rfl rfl
 refine sty rfl rfl (ov_call (f := 21) (vals := [.pointer (some ⟨b1, 0, none⟩), .agg (evA.cells v21).toArray]) (cap := []) (show _ = (.func (.func 21) #[] #[] : Value) from rfl) rfl Try.call21 (D_Add (e := evA) hrd31 evA_ok hS32 ((by decide)) (by first | exact Good.nil.len | exact kg1.len | exact kg.len)) ?_)
 rintro _ w35 ⟨L133, rfl, hL134, hS36⟩
 have hS37 : Sep G W ((RowE (α := Int) own 3 v21 evA.deps) :: (SetO b1 2 L133) :: (RowE (α := Int) own 3 v4 evB.deps) :: Rs) w35 := hk30 _ _ hS36
 obtain rfl := hL134.trans kx2
 refine sty rfl rfl (ov_eql (k := .i64) (a := (addE 2 ([] : List Ev) evA)) (b := 0) rfl rfl ?_)
 have hkn38 : (decide ((addE 2 ([] : List Ev) evA) = 0)) = true := (by decide +kernel)
 rw [hkn38]
 refine st (ov_pick_t (v := .bool true) rfl rfl ?_)
 refine st (ov_move (v := .bool true) rfl ?_)
 refine sty rfl rfl (ov_move (v := .pointer (some ⟨b1, 0, none⟩)) rfl ?_)
 refine sty rfl rfl (ov_call (f := 32) (vals := []) (cap := []) (show _ = (.func (.func 32) #[] #[] : Value) from rfl) rfl Try.call32 (D_a  hS37) ?_)
 rintro _ w40 ⟨v39, rfl, hS41⟩
 have hr42 := hS41.row (i := 0) rfl
 have hr42s : evA.deps.length * 8 ≤ 140737488355328 := hr42.2
 obtain ⟨G43, hA45, hB46, hS47, hk48⟩ := hS41.lend
 have hrd49 := RowE.rd hA45
 have hrd49s : evA.deps.length * 8 ≤ 140737488355328 := hrd49.small
 have hS50 : Sep G43 w40 ((SetO b1 2 [evA]) :: (RowE (α := Int) own 3 v21 evA.deps) :: (RowE (α := Int) own 3 v4 evB.deps) :: Rs) w40 := hS47.sel 3 [1, 0, 2] (Nat.le_add_left _ _) rfl rfl
 refine sty rfl rfl (ov_call (f := 21) (vals := [.pointer (some ⟨b1, 0, none⟩), .agg (evA.cells v39).toArray]) (cap := []) (show _ = (.func (.func 21) #[] #[] : Value) from rfl) rfl Try.call21 (D_Add (e := evA) hrd49 evA_ok hS50 ((by decide)) (by first | exact Good.nil.len | exact kg1.len | exact kg.len)) ?_)
 rintro _ w53 ⟨L151, rfl, hL152, hS54⟩
 have hS55 : Sep G W ((RowE (α := Int) own 3 v39 evA.deps) :: (SetO b1 2 L151) :: (RowE (α := Int) own 3 v21 evA.deps) :: (RowE (α := Int) own 3 v4 evB.deps) :: Rs) w53 := hk48 _ _ hS54
 obtain rfl := hL152.trans kx3
 refine sty rfl rfl (ov_eql (k := .i64) (a := (addE 2 [evA] evA)) (b := 16) rfl rfl ?_)
 have hkn56 : (decide ((addE 2 [evA] evA) = 16)) = true := (by decide +kernel)
 rw [hkn56]
 refine st (ov_pick_t (v := .bool true) rfl rfl ?_)
 refine st (ov_move (v := .bool true) rfl ?_)
 refine sty rfl rfl (ov_move (v := .pointer (some ⟨b1, 0, none⟩)) rfl ?_)
 refine sty rfl rfl (ov_call (f := 33) (vals := []) (cap := []) (show _ = (.func (.func 33) #[] #[] : Value) from rfl) rfl Try.call33 (D_b  hS55) ?_)
 rintro _ w58 ⟨v57, rfl, hS59⟩
 have hr60 := hS59.row (i := 0) rfl
 have hr60s : evB.deps.length * 8 ≤ 140737488355328 := hr60.2
 obtain ⟨G61, hA63, hB64, hS65, hk66⟩ := hS59.lend
 have hrd67 := RowE.rd hA63
 have hrd67s : evB.deps.length * 8 ≤ 140737488355328 := hrd67.small
 have hS68 : Sep G61 w58 ((SetO b1 2 [evA]) :: (RowE (α := Int) own 3 v39 evA.deps) :: (RowE (α := Int) own 3 v21 evA.deps) :: (RowE (α := Int) own 3 v4 evB.deps) :: Rs) w58 := hS65.sel 4 [1, 0, 2, 3] (Nat.le_add_left _ _) rfl rfl
 refine sty rfl rfl (ov_call (f := 21) (vals := [.pointer (some ⟨b1, 0, none⟩), .agg (evB.cells v57).toArray]) (cap := []) (show _ = (.func (.func 21) #[] #[] : Value) from rfl) rfl Try.call21 (D_Add (e := evB) hrd67 evB_ok hS68 ((by decide)) (by first | exact Good.nil.len | exact kg1.len | exact kg.len)) ?_)
 rintro _ w71 ⟨L169, rfl, hL170, hS72⟩
 have hS73 : Sep G W ((RowE (α := Int) own 3 v57 evB.deps) :: (SetO b1 2 L169) :: (RowE (α := Int) own 3 v39 evA.deps) :: (RowE (α := Int) own 3 v21 evA.deps) :: (RowE (α := Int) own 3 v4 evB.deps) :: Rs) w71 := hk66 _ _ hS72
 obtain rfl := hL170.trans kx4
 refine sty rfl rfl (ov_eql (k := .i64) (a := (addE 2 [evA] evB)) (b := 0) rfl rfl ?_)
 have hkn74 : (decide ((addE 2 [evA] evB) = 0)) = true := (by decide +kernel)
 rw [hkn74]
 refine st (ov_pick_t (v := .bool true) rfl rfl ?_)
 refine st (ov_move (v := .bool true) rfl ?_)
 refine sty rfl rfl (ov_move (v := .pointer (some ⟨b1, 0, none⟩)) rfl ?_)
 have hS75 : Sep G W ((SetO b1 2 [evA, evB]) :: (RowE (α := Int) own 3 v57 evB.deps) :: (RowE (α := Int) own 3 v39 evA.deps) :: (RowE (α := Int) own 3 v21 evA.deps) :: (RowE (α := Int) own 3 v4 evB.deps) :: Rs) w71 := hS73.sel 5 [1, 0, 2, 3, 4] (Nat.le_add_left _ _) rfl rfl
 obtain ⟨G76, hA78, hB79, hS80, hk81⟩ := hS75.lend
 obtain ⟨vv82, m83, R84, hb85, hv86, hr87⟩ := SetO.sh hA78
 have hsm88 : (vecE 2 [evA, evB]).length * 8 ≤ 140737488355328 := hv86.small
 refine sty rfl rfl (ov_call (f := 26) (vals := [.pointer (some ⟨b1, 0, none⟩)]) (cap := []) (show _ = (.func (.func 26) #[] #[] : Value) from rfl) rfl Try.call26 (D_Vec  hA78 hS80) ?_)
 rintro v89 w90 ⟨_, rfl, hS91⟩
 have hr92 := hS91.row (i := 0) rfl
 have hr92s : (vecE 2 [evA, evB]).length * 8 ≤ 140737488355328 := hr92.2
 have hS93 : Sep G W ((SetO b1 2 [evA, evB]) :: (RowE (α := Int) own 3 v89 (vecE 2 [evA, evB])) :: (RowE (α := Int) own 3 v57 evB.deps) :: (RowE (α := Int) own 3 v39 evA.deps) :: (RowE (α := Int) own 3 v21 evA.deps) :: (RowE (α := Int) own 3 v4 evB.deps) :: Rs) w90 := hk81 _ _ hS91
 refine sty rfl rfl (ov_buildSlice (k := 1) (parts' := [(0, .int .i64 (1)), (1, .int .i64 (1))]) (c := #[.int .i64 (1), .int .i64 (1)]) Try.underlying34 Try.sizeOf3 Try.zeroValue3 (by decide) rfl (by kernel_rfl) ?_)
 intro w96 b95 hn94
 have hS97 : Sep G W ((Blk b95 #[.int .i64 (1), .int .i64 (1)] 3) :: (SetO b1 2 [evA, evB]) :: (RowE (α := Int) own 3 v89 (vecE 2 [evA, evB])) :: (RowE (α := Int) own 3 v57 evB.deps) :: (RowE (α := Int) own 3 v39 evA.deps) :: (RowE (α := Int) own 3 v21 evA.deps) :: (RowE (α := Int) own 3 v4 evB.deps) :: Rs) w96 := hS93.new hn94
 have hS98 : Sep G W ((RowE (α := Int) own 3 v89 (vecE 2 [evA, evB])) :: (Blk b95 #[.int .i64 (1), .int .i64 (1)] 3) :: (SetO b1 2 [evA, evB]) :: (RowE (α := Int) own 3 v57 evB.deps) :: (RowE (α := Int) own 3 v39 evA.deps) :: (RowE (α := Int) own 3 v21 evA.deps) :: (RowE (α := Int) own 3 v4 evB.deps) :: Rs) w96 := hS97.sel 7 [2, 0, 1, 3, 4, 5, 6] (Nat.le_add_left _ _) rfl rfl
 obtain ⟨G99, hA101, hB102, hS103, hk104⟩ := hS98.lend
 have hrd105 := RowE.rd hA101
 have hrd105s : (vecE 2 [evA, evB]).length * 8 ≤ 140737488355328 := hrd105.small
 have hS106 : Sep G99 w96 ((RowE (α := Int) own 3 (.slice (some ⟨b95, 0, none⟩) 2 2) [1, 1]) :: (SetO b1 2 [evA, evB]) :: (RowE (α := Int) own 3 v57 evB.deps) :: (RowE (α := Int) own 3 v39 evA.deps) :: (RowE (α := Int) own 3 v21 evA.deps) :: (RowE (α := Int) own 3 v4 evB.deps) :: Rs) w96 := Sep.blkRow (src := own) (l := [1, 1]) (css := [[.int .i64 (1)], [.int .i64 (1)]]) hS103 rfl ⟨fun _ _ => ⟨rfl, (by decide)⟩, fun _ _ => ⟨rfl, (by decide)⟩, trivial⟩ (by first | decide | (simp only [List.length_cons, List.length_nil]; decide))
 have hr107 := hS106.row (i := 0) rfl
 have hr107s : [1, 1].length * 8 ≤ 140737488355328 := hr107.2
 obtain ⟨G108, hA110, hB111, hS112, hk113⟩ := hS106.lend
 have hrd114 := RowE.rd hA110
 have hrd114s : [1, 1].length * 8 ≤ 140737488355328 := hrd114.small
 refine sty rfl rfl (ov_call (f := 27) (vals := [v89, (.slice (some ⟨b95, 0, none⟩) 2 2)]) (cap := []) (show _ = (.func (.func 27) #[] #[] : Value) from rfl) rfl Try.call27 (D_SameInts (a := vecE 2 [evA, evB]) (va := v89) (b := [1, 1]) (vb := (.slice (some ⟨b95, 0, none⟩) 2 2)) (RdS.base hrd105 hB111) hrd114 hS112) ?_)
 rintro _ w115 ⟨rfl, hS116⟩
 have hS117 : Sep G99 w96 ((RowE (α := Int) own 3 (.slice (some ⟨b95, 0, none⟩) 2 2) [1, 1]) :: (SetO b1 2 [evA, evB]) :: (RowE (α := Int) own 3 v57 evB.deps) :: (RowE (α := Int) own 3 v39 evA.deps) :: (RowE (α := Int) own 3 v21 evA.deps) :: (RowE (α := Int) own 3 v4 evB.deps) :: Rs) w115 := hk113 _ _ hS116
 have hS118 : Sep G W ((RowE (α := Int) own 3 v89 (vecE 2 [evA, evB])) :: (RowE (α := Int) own 3 (.slice (some ⟨b95, 0, none⟩) 2 2) [1, 1]) :: (SetO b1 2 [evA, evB]) :: (RowE (α := Int) own 3 v57 evB.deps) :: (RowE (α := Int) own 3 v39 evA.deps) :: (RowE (α := Int) own 3 v21 evA.deps) :: (RowE (α := Int) own 3 v4 evB.deps) :: Rs) w115 := hk104 _ _ hS117
 have hkn119 : (decide ((vecE 2 [evA, evB]) = [1, 1])) = true := (by decide +kernel)
 rw [hkn119]
 refine st (ov_pick_t (v := .bool true) rfl rfl ?_)
 refine st (ov_move (v := .bool true) rfl ?_)
 refine sty rfl rfl (ov_move (v := .pointer (some ⟨b1, 0, none⟩)) rfl ?_)
 have hS120 : Sep G W ((SetO b1 2 [evA, evB]) :: (RowE (α := Int) own 3 v89 (vecE 2 [evA, evB])) :: (RowE (α := Int) own 3 (.slice (some ⟨b95, 0, none⟩) 2 2) [1, 1]) :: (RowE (α := Int) own 3 v57 evB.deps) :: (RowE (α := Int) own 3 v39 evA.deps) :: (RowE (α := Int) own 3 v21 evA.deps) :: (RowE (α := Int) own 3 v4 evB.deps) :: Rs) w115 := hS118.sel 7 [2, 0, 1, 3, 4, 5, 6] (Nat.le_add_left _ _) rfl rfl
 obtain ⟨G121, hA123, hB124, hS125, hk126⟩ := hS120.lend
 obtain ⟨vv127, m128, R129, hb130, hv131, hr132⟩ := SetO.sh hA123
 have hsm133 : (vecE 2 [evA, evB]).length * 8 ≤ 140737488355328 := hv131.small
 refine sty rfl rfl (ov_call (f := 23) (vals := [.pointer (some ⟨b1, 0, none⟩)]) (cap := []) (show _ = (.func (.func 23) #[] #[] : Value) from rfl) rfl Try.call23 (D_Top  hA123 hS125) ?_)
 rintro _ w134 ⟨rfl, hS135⟩
 have hS136 : Sep G W ((SetO b1 2 [evA, evB]) :: (RowE (α := Int) own 3 v89 (vecE 2 [evA, evB])) :: (RowE (α := Int) own 3 (.slice (some ⟨b95, 0, none⟩) 2 2) [1, 1]) :: (RowE (α := Int) own 3 v57 evB.deps) :: (RowE (α := Int) own 3 v39 evA.deps) :: (RowE (α := Int) own 3 v21 evA.deps) :: (RowE (α := Int) own 3 v4 evB.deps) :: Rs) w134 := hk126 _ _ hS135
 refine sty rfl rfl (ov_eql (k := .i64) (a := topE [evA, evB]) (b := 2) rfl rfl ?_)
 have hkn137 : (decide ((topE [evA, evB]) = 2)) = true := (by decide +kernel)
 rw [hkn137]
 refine st (ov_pick_t (v := .bool true) rfl rfl ?_)
 refine st (ov_move (v := .bool true) rfl ?_)
 refine sty rfl rfl (ov_move (v := .pointer (some ⟨b1, 0, none⟩)) rfl ?_)
 refine sty rfl rfl (ov_buildSlice (k := 1) (parts' := [(0, .int .i64 (1)), (1, .int .i64 (0))]) (c := #[.int .i64 (1), .int .i64 (0)]) Try.underlying34 Try.sizeOf3 Try.zeroValue3 (by decide) rfl (by kernel_rfl) ?_)
 intro w140 b139 hn138
 have hS141 : Sep G W ((Blk b139 #[.int .i64 (1), .int .i64 (0)] 3) :: (SetO b1 2 [evA, evB]) :: (RowE (α := Int) own 3 v89 (vecE 2 [evA, evB])) :: (RowE (α := Int) own 3 (.slice (some ⟨b95, 0, none⟩) 2 2) [1, 1]) :: (RowE (α := Int) own 3 v57 evB.deps) :: (RowE (α := Int) own 3 v39 evA.deps) :: (RowE (α := Int) own 3 v21 evA.deps) :: (RowE (α := Int) own 3 v4 evB.deps) :: Rs) w140 := hS136.new hn138
 have hS142 : Sep G W ((SetO b1 2 [evA, evB]) :: (Blk b139 #[.int .i64 (1), .int .i64 (0)] 3) :: (RowE (α := Int) own 3 v89 (vecE 2 [evA, evB])) :: (RowE (α := Int) own 3 (.slice (some ⟨b95, 0, none⟩) 2 2) [1, 1]) :: (RowE (α := Int) own 3 v57 evB.deps) :: (RowE (α := Int) own 3 v39 evA.deps) :: (RowE (α := Int) own 3 v21 evA.deps) :: (RowE (α := Int) own 3 v4 evB.deps) :: Rs) w140 := hS141.sel 8 [1, 0, 2, 3, 4, 5, 6, 7] (Nat.le_add_left _ _) rfl rfl
 obtain ⟨G143, hA145, hB146, hS147, hk148⟩ := hS142.lend
 obtain ⟨vv149, m150, R151, hb152, hv153, hr154⟩ := SetO.sh hA145
 have hsm155 : (vecE 2 [evA, evB]).length * 8 ≤ 140737488355328 := hv153.small
 have hS156 : Sep G143 w140 ((RowE (α := Int) own 3 (.slice (some ⟨b139, 0, none⟩) 2 2) [1, 0]) :: (RowE (α := Int) own 3 v89 (vecE 2 [evA, evB])) :: (RowE (α := Int) own 3 (.slice (some ⟨b95, 0, none⟩) 2 2) [1, 1]) :: (RowE (α := Int) own 3 v57 evB.deps) :: (RowE (α := Int) own 3 v39 evA.deps) :: (RowE (α := Int) own 3 v21 evA.deps) :: (RowE (α := Int) own 3 v4 evB.deps) :: Rs) w140 := Sep.blkRow (src := own) (l := [1, 0]) (css := [[.int .i64 (1)], [.int .i64 (0)]]) hS147 rfl ⟨fun _ _ => ⟨rfl, (by decide)⟩, fun _ _ => ⟨rfl, (by decide)⟩, trivial⟩ (by first | decide | (simp only [List.length_cons, List.length_nil]; decide))
 have hr157 := hS156.row (i := 0) rfl
 have hr157s : [1, 0].length * 8 ≤ 140737488355328 := hr157.2
 obtain ⟨G158, hA160, hB161, hS162, hk163⟩ := hS156.lend
 have hrd164 := RowE.rd hA160
 have hrd164s : [1, 0].length * 8 ≤ 140737488355328 := hrd164.small
 refine sty rfl rfl (ov_call (f := 25) (vals := [.pointer (some ⟨b1, 0, none⟩), (.slice (some ⟨b139, 0, none⟩) 2 2), .int .i64 (5)]) (cap := []) (show _ = (.func (.func 25) #[] #[] : Value) from rfl) rfl Try.call25 (D_Missing (l := [1, 0]) (vl := (.slice (some ⟨b139, 0, none⟩) 2 2)) (most := 5) (HP.base hA145 hB161) hrd164 (by decide) hS162 (kg.ids) (kg.srt) ((by decide))) ?_)
 rintro v165 w166 ⟨_, rfl, hS167⟩
 have hr168 := hS167.row (i := 0) rfl
 have hr168s : (missL [evA, evB] [1, 0] 5).length * 96 ≤ 140737488355328 := hr168.2
 have hS169 : Sep G143 w140 ((RowE (α := Int) own 3 (.slice (some ⟨b139, 0, none⟩) 2 2) [1, 0]) :: (RowE (α := Ev) own 36 v165 (missL [evA, evB] [1, 0] 5)) :: (RowE (α := Int) own 3 v89 (vecE 2 [evA, evB])) :: (RowE (α := Int) own 3 (.slice (some ⟨b95, 0, none⟩) 2 2) [1, 1]) :: (RowE (α := Int) own 3 v57 evB.deps) :: (RowE (α := Int) own 3 v39 evA.deps) :: (RowE (α := Int) own 3 v21 evA.deps) :: (RowE (α := Int) own 3 v4 evB.deps) :: Rs) w166 := hk163 _ _ hS167
 have hS170 : Sep G W ((SetO b1 2 [evA, evB]) :: (RowE (α := Int) own 3 (.slice (some ⟨b139, 0, none⟩) 2 2) [1, 0]) :: (RowE (α := Ev) own 36 v165 (missL [evA, evB] [1, 0] 5)) :: (RowE (α := Int) own 3 v89 (vecE 2 [evA, evB])) :: (RowE (α := Int) own 3 (.slice (some ⟨b95, 0, none⟩) 2 2) [1, 1]) :: (RowE (α := Int) own 3 v57 evB.deps) :: (RowE (α := Int) own 3 v39 evA.deps) :: (RowE (α := Int) own 3 v21 evA.deps) :: (RowE (α := Int) own 3 v4 evB.deps) :: Rs) w166 := hk148 _ _ hS169
 refine sty rfl rfl (ov_call (f := 33) (vals := []) (cap := []) (show _ = (.func (.func 33) #[] #[] : Value) from rfl) rfl Try.call33 (D_b  hS170) ?_)
 rintro _ w172 ⟨v171, rfl, hS173⟩
 have hr174 := hS173.row (i := 0) rfl
 have hr174s : evB.deps.length * 8 ≤ 140737488355328 := hr174.2
 refine sty rfl rfl (ov_buildSlice (k := 10) (parts' := [(0, .agg (evB.cells v171).toArray)]) (c := (evB.cells v171).toArray) Try.underlying22 Try.sizeOf36 Try.zeroValue36 (by decide) rfl (by kernel_rfl) ?_)
 intro w177 b176 hn175
 have hS178 : Sep G W ((Blk b176 (evB.cells v171).toArray 36) :: (RowE (α := Int) own 3 v171 evB.deps) :: (SetO b1 2 [evA, evB]) :: (RowE (α := Int) own 3 (.slice (some ⟨b139, 0, none⟩) 2 2) [1, 0]) :: (RowE (α := Ev) own 36 v165 (missL [evA, evB] [1, 0] 5)) :: (RowE (α := Int) own 3 v89 (vecE 2 [evA, evB])) :: (RowE (α := Int) own 3 (.slice (some ⟨b95, 0, none⟩) 2 2) [1, 1]) :: (RowE (α := Int) own 3 v57 evB.deps) :: (RowE (α := Int) own 3 v39 evA.deps) :: (RowE (α := Int) own 3 v21 evA.deps) :: (RowE (α := Int) own 3 v4 evB.deps) :: Rs) w177 := hS173.new hn175
 have hS179 : Sep G W ((RowE (α := Int) own 3 v171 evB.deps) :: (Blk b176 (evB.cells v171).toArray 36) :: (SetO b1 2 [evA, evB]) :: (RowE (α := Int) own 3 (.slice (some ⟨b139, 0, none⟩) 2 2) [1, 0]) :: (RowE (α := Ev) own 36 v165 (missL [evA, evB] [1, 0] 5)) :: (RowE (α := Int) own 3 v89 (vecE 2 [evA, evB])) :: (RowE (α := Int) own 3 (.slice (some ⟨b95, 0, none⟩) 2 2) [1, 1]) :: (RowE (α := Int) own 3 v57 evB.deps) :: (RowE (α := Int) own 3 v39 evA.deps) :: (RowE (α := Int) own 3 v21 evA.deps) :: (RowE (α := Int) own 3 v4 evB.deps) :: Rs) w177 := hS178.sel 11 [1, 0, 2, 3, 4, 5, 6, 7, 8, 9, 10] (Nat.le_add_left _ _) rfl rfl
 obtain ⟨G180, hA182, hB183, hS184, hk185⟩ := hS179.lend
 have hrd186 := RowE.rd hA182
 have hrd186s : evB.deps.length * 8 ≤ 140737488355328 := hrd186.small
 have hS187 : Sep G180 w177 ((RowE (α := Int) own 3 (.slice (some ⟨b139, 0, none⟩) 2 2) [1, 0]) :: (Blk b176 (evB.cells v171).toArray 36) :: (SetO b1 2 [evA, evB]) :: (RowE (α := Ev) own 36 v165 (missL [evA, evB] [1, 0] 5)) :: (RowE (α := Int) own 3 v89 (vecE 2 [evA, evB])) :: (RowE (α := Int) own 3 (.slice (some ⟨b95, 0, none⟩) 2 2) [1, 1]) :: (RowE (α := Int) own 3 v57 evB.deps) :: (RowE (α := Int) own 3 v39 evA.deps) :: (RowE (α := Int) own 3 v21 evA.deps) :: (RowE (α := Int) own 3 v4 evB.deps) :: Rs) w177 := hS184.sel 10 [2, 0, 1, 3, 4, 5, 6, 7, 8, 9] (Nat.le_add_left _ _) rfl rfl
 obtain ⟨G188, hA190, hB191, hS192, hk193⟩ := hS187.lend
 have hrd194 := RowE.rd hA190
 have hrd194s : [1, 0].length * 8 ≤ 140737488355328 := hrd194.small
 have hS195 : Sep G188 w177 ((RowE (α := Int) own 3 v89 (vecE 2 [evA, evB])) :: (Blk b176 (evB.cells v171).toArray 36) :: (SetO b1 2 [evA, evB]) :: (RowE (α := Ev) own 36 v165 (missL [evA, evB] [1, 0] 5)) :: (RowE (α := Int) own 3 (.slice (some ⟨b95, 0, none⟩) 2 2) [1, 1]) :: (RowE (α := Int) own 3 v57 evB.deps) :: (RowE (α := Int) own 3 v39 evA.deps) :: (RowE (α := Int) own 3 v21 evA.deps) :: (RowE (α := Int) own 3 v4 evB.deps) :: Rs) w177 := hS192.sel 9 [3, 0, 1, 2, 4, 5, 6, 7, 8] (Nat.le_add_left _ _) rfl rfl
 obtain ⟨G196, hA198, hB199, hS200, hk201⟩ := hS195.lend
 have hrd202 := RowE.rd hA198
 have hrd202s : (vecE 2 [evA, evB]).length * 8 ≤ 140737488355328 := hrd202.small
 have hS203 : Sep G196 w177 ((RowE (α := Int) own 3 (.slice (some ⟨b95, 0, none⟩) 2 2) [1, 1]) :: (Blk b176 (evB.cells v171).toArray 36) :: (SetO b1 2 [evA, evB]) :: (RowE (α := Ev) own 36 v165 (missL [evA, evB] [1, 0] 5)) :: (RowE (α := Int) own 3 v57 evB.deps) :: (RowE (α := Int) own 3 v39 evA.deps) :: (RowE (α := Int) own 3 v21 evA.deps) :: (RowE (α := Int) own 3 v4 evB.deps) :: Rs) w177 := hS200.sel 8 [3, 0, 1, 2, 4, 5, 6, 7] (Nat.le_add_left _ _) rfl rfl
 obtain ⟨G204, hA206, hB207, hS208, hk209⟩ := hS203.lend
 have hrd210 := RowE.rd hA206
 have hrd210s : [1, 1].length * 8 ≤ 140737488355328 := hrd210.small
 have hS211 : Sep G204 w177 ((RowE (α := Int) own 3 v57 evB.deps) :: (Blk b176 (evB.cells v171).toArray 36) :: (SetO b1 2 [evA, evB]) :: (RowE (α := Ev) own 36 v165 (missL [evA, evB] [1, 0] 5)) :: (RowE (α := Int) own 3 v39 evA.deps) :: (RowE (α := Int) own 3 v21 evA.deps) :: (RowE (α := Int) own 3 v4 evB.deps) :: Rs) w177 := hS208.sel 7 [3, 0, 1, 2, 4, 5, 6] (Nat.le_add_left _ _) rfl rfl
 obtain ⟨G212, hA214, hB215, hS216, hk217⟩ := hS211.lend
 have hrd218 := RowE.rd hA214
 have hrd218s : evB.deps.length * 8 ≤ 140737488355328 := hrd218.small
 have hS219 : Sep G212 w177 ((RowE (α := Int) own 3 v39 evA.deps) :: (Blk b176 (evB.cells v171).toArray 36) :: (SetO b1 2 [evA, evB]) :: (RowE (α := Ev) own 36 v165 (missL [evA, evB] [1, 0] 5)) :: (RowE (α := Int) own 3 v21 evA.deps) :: (RowE (α := Int) own 3 v4 evB.deps) :: Rs) w177 := hS216.sel 6 [3, 0, 1, 2, 4, 5] (Nat.le_add_left _ _) rfl rfl
 obtain ⟨G220, hA222, hB223, hS224, hk225⟩ := hS219.lend
 have hrd226 := RowE.rd hA222
 have hrd226s : evA.deps.length * 8 ≤ 140737488355328 := hrd226.small
 have hS227 : Sep G220 w177 ((RowE (α := Int) own 3 v21 evA.deps) :: (Blk b176 (evB.cells v171).toArray 36) :: (SetO b1 2 [evA, evB]) :: (RowE (α := Ev) own 36 v165 (missL [evA, evB] [1, 0] 5)) :: (RowE (α := Int) own 3 v4 evB.deps) :: Rs) w177 := hS224.sel 5 [3, 0, 1, 2, 4] (Nat.le_add_left _ _) rfl rfl
 obtain ⟨G228, hA230, hB231, hS232, hk233⟩ := hS227.lend
 have hrd234 := RowE.rd hA230
 have hrd234s : evA.deps.length * 8 ≤ 140737488355328 := hrd234.small
 have hS235 : Sep G228 w177 ((RowE (α := Int) own 3 v4 evB.deps) :: (Blk b176 (evB.cells v171).toArray 36) :: (SetO b1 2 [evA, evB]) :: (RowE (α := Ev) own 36 v165 (missL [evA, evB] [1, 0] 5)) :: Rs) w177 := hS232.sel 4 [3, 0, 1, 2] (Nat.le_add_left _ _) rfl rfl
 obtain ⟨G236, hA238, hB239, hS240, hk241⟩ := hS235.lend
 have hrd242 := RowE.rd hA238
 have hrd242s : evB.deps.length * 8 ≤ 140737488355328 := hrd242.small
 have hS243 : Sep G236 w177 ((RowE (α := Ev) own 36 v165 (missL [evA, evB] [1, 0] 5)) :: (Blk b176 (evB.cells v171).toArray 36) :: (SetO b1 2 [evA, evB]) :: Rs) w177 := hS240.sel 3 [2, 0, 1] (Nat.le_add_left _ _) rfl rfl
 obtain ⟨G244, hA246, hB247, hS248, hk249⟩ := hS243.lend
 have hrd250 := RowE.rd hA246
 have hrd250s : (missL [evA, evB] [1, 0] 5).length * 96 ≤ 140737488355328 := hrd250.small
 have hS251 : Sep G244 w177 ((RowE (α := Ev) (shr G244 w177) 36 (.slice (some ⟨b176, 0, none⟩) 1 1) [evB]) :: (SetO b1 2 [evA, evB]) :: Rs) w177 := Sep.blkRow (src := (shr G244 w177)) (l := [evB]) (css := [evB.cells v171]) hS248 rfl ⟨fun _ _ => ⟨_, rfl, (RdS.base (RdS.base (RdS.base (RdS.base (RdS.base (RdS.base (RdS.base (RdS.base hrd186 hB191) hB199) hB207) hB215) hB223) hB231) hB239) hB247), evB_ok⟩, trivial⟩ (by first | decide | (simp only [List.length_cons, List.length_nil]; decide))
 have hr252 := hS251.row (i := 0) rfl
 have hr252s : [evB].length * 96 ≤ 140737488355328 := hr252.2
 obtain ⟨G253, hA255, hB256, hS257, hk258⟩ := hS251.lend
 have hrd259 := RowE.rdB hA255 hB256
 have hrd259s : [evB].length * 96 ≤ 140737488355328 := hrd259.small
 refine sty rfl rfl (ov_call (f := 22) (vals := [v165, (.slice (some ⟨b176, 0, none⟩) 1 1)]) (cap := []) (show _ = (.func (.func 22) #[] #[] : Value) from rfl) rfl Try.call22 (D_sameEvents (a := missL [evA, evB] [1, 0] 5) (va := v165) (b := [evB]) (vb := (.slice (some ⟨b176, 0, none⟩) 1 1)) (RdS.base hrd250 hB256) hrd259 hS257) ?_)
 rintro _ w260 ⟨rfl, hS261⟩
 have hS262 : Sep G244 w177 ((RowE (α := Ev) (shr G244 w177) 36 (.slice (some ⟨b176, 0, none⟩) 1 1) [evB]) :: (SetO b1 2 [evA, evB]) :: Rs) w260 := hk258 _ _ hS261
 have hS263 : Sep G236 w177 ((RowE (α := Ev) own 36 v165 (missL [evA, evB] [1, 0] 5)) :: (RowE (α := Ev) (shr G244 w177) 36 (.slice (some ⟨b176, 0, none⟩) 1 1) [evB]) :: (SetO b1 2 [evA, evB]) :: Rs) w260 := hk249 _ _ hS262
 have hS264 : Sep G236 w177 ((RowE (α := Ev) own 36 v165 (missL [evA, evB] [1, 0] 5)) :: (SetO b1 2 [evA, evB]) :: Rs) w260 := hS263.sel 3 [0, 2] (Nat.le_add_left _ _) rfl rfl
 have hkn265 : (decide ((missL [evA, evB] [1, 0] 5) = [evB])) = true := (by decide +kernel)
 rw [hkn265]
 refine st (ov_pick_t (v := .bool true) rfl rfl ?_)
 refine st (ov_assign (v := .bool true) rfl ?_)
 refine st_nil ?_
 refine WP_ret ?_
 refine fin1 Try.results16 (show _ = (.bool true : Value) from rfl) ?_
 have hS266 : Sep G228 w177 ((RowE (α := Int) own 3 v4 evB.deps) :: (RowE (α := Ev) own 36 v165 (missL [evA, evB] [1, 0] 5)) :: (SetO b1 2 [evA, evB]) :: Rs) w260 := hk241 _ _ hS264
 have hS267 : Sep G220 w177 ((RowE (α := Int) own 3 v21 evA.deps) :: (RowE (α := Int) own 3 v4 evB.deps) :: (RowE (α := Ev) own 36 v165 (missL [evA, evB] [1, 0] 5)) :: (SetO b1 2 [evA, evB]) :: Rs) w260 := hk233 _ _ hS266
 have hS268 : Sep G212 w177 ((RowE (α := Int) own 3 v39 evA.deps) :: (RowE (α := Int) own 3 v21 evA.deps) :: (RowE (α := Int) own 3 v4 evB.deps) :: (RowE (α := Ev) own 36 v165 (missL [evA, evB] [1, 0] 5)) :: (SetO b1 2 [evA, evB]) :: Rs) w260 := hk225 _ _ hS267
 have hS269 : Sep G204 w177 ((RowE (α := Int) own 3 v57 evB.deps) :: (RowE (α := Int) own 3 v39 evA.deps) :: (RowE (α := Int) own 3 v21 evA.deps) :: (RowE (α := Int) own 3 v4 evB.deps) :: (RowE (α := Ev) own 36 v165 (missL [evA, evB] [1, 0] 5)) :: (SetO b1 2 [evA, evB]) :: Rs) w260 := hk217 _ _ hS268
 have hS270 : Sep G196 w177 ((RowE (α := Int) own 3 (.slice (some ⟨b95, 0, none⟩) 2 2) [1, 1]) :: (RowE (α := Int) own 3 v57 evB.deps) :: (RowE (α := Int) own 3 v39 evA.deps) :: (RowE (α := Int) own 3 v21 evA.deps) :: (RowE (α := Int) own 3 v4 evB.deps) :: (RowE (α := Ev) own 36 v165 (missL [evA, evB] [1, 0] 5)) :: (SetO b1 2 [evA, evB]) :: Rs) w260 := hk209 _ _ hS269
 have hS271 : Sep G188 w177 ((RowE (α := Int) own 3 v89 (vecE 2 [evA, evB])) :: (RowE (α := Int) own 3 (.slice (some ⟨b95, 0, none⟩) 2 2) [1, 1]) :: (RowE (α := Int) own 3 v57 evB.deps) :: (RowE (α := Int) own 3 v39 evA.deps) :: (RowE (α := Int) own 3 v21 evA.deps) :: (RowE (α := Int) own 3 v4 evB.deps) :: (RowE (α := Ev) own 36 v165 (missL [evA, evB] [1, 0] 5)) :: (SetO b1 2 [evA, evB]) :: Rs) w260 := hk201 _ _ hS270
 have hS272 : Sep G180 w177 ((RowE (α := Int) own 3 (.slice (some ⟨b139, 0, none⟩) 2 2) [1, 0]) :: (RowE (α := Int) own 3 v89 (vecE 2 [evA, evB])) :: (RowE (α := Int) own 3 (.slice (some ⟨b95, 0, none⟩) 2 2) [1, 1]) :: (RowE (α := Int) own 3 v57 evB.deps) :: (RowE (α := Int) own 3 v39 evA.deps) :: (RowE (α := Int) own 3 v21 evA.deps) :: (RowE (α := Int) own 3 v4 evB.deps) :: (RowE (α := Ev) own 36 v165 (missL [evA, evB] [1, 0] 5)) :: (SetO b1 2 [evA, evB]) :: Rs) w260 := hk193 _ _ hS271
 have hS273 : Sep G W ((RowE (α := Int) own 3 v171 evB.deps) :: (RowE (α := Int) own 3 (.slice (some ⟨b139, 0, none⟩) 2 2) [1, 0]) :: (RowE (α := Int) own 3 v89 (vecE 2 [evA, evB])) :: (RowE (α := Int) own 3 (.slice (some ⟨b95, 0, none⟩) 2 2) [1, 1]) :: (RowE (α := Int) own 3 v57 evB.deps) :: (RowE (α := Int) own 3 v39 evA.deps) :: (RowE (α := Int) own 3 v21 evA.deps) :: (RowE (α := Int) own 3 v4 evB.deps) :: (RowE (α := Ev) own 36 v165 (missL [evA, evB] [1, 0] 5)) :: (SetO b1 2 [evA, evB]) :: Rs) w260 := hk185 _ _ hS272
 have hS274 : Sep G W Rs w260 := hS273.sel 10 [] (Nat.le_add_left _ _) rfl rfl
 refine ⟨rfl, hS274⟩

end Go.Proofs.Ytgjgmojjeehieaa
end

section
/- Steps of the proofs of this seat: part B5. -/
set_option linter.unusedSimpArgs false
set_option linter.unusedVariables false
set_option maxRecDepth 8000
set_option maxHeartbeats 4000000
namespace Go.Proofs.Ytgjgmojjeehieaa
open Go.Proofs Go.RowKit

section
variable {n : Nat} {L : List Ev} {e : Ev}
theorem top_ge : ∀ {L : List Ev} {x : Ev}, x ∈ L → x.lam ≤ topE L
  | y :: l, x, hx => by
    show x.lam ≤ max (topE l) y.lam
    rcases List.mem_cons.1 hx with rfl | hx
    · omega
    · have := top_ge hx; omega
theorem top_at : ∀ {L : List Ev}, L ≠ [] → (∀ x ∈ L, 1 ≤ x.lam) → ∃ x ∈ L, topE L = x.lam
  | [y], _, h => ⟨y, List.mem_cons_self .., by have := h y (List.mem_cons_self ..); show max 0 y.lam = y.lam; omega⟩
  | y :: z :: l, _, h => by
    obtain ⟨x, hx, he⟩ := top_at (L := z :: l) (by simp) (fun x hx => h x (List.mem_cons_of_mem _ hx))
    have e : topE (y :: z :: l) = max (topE (z :: l)) y.lam := rfl
    rcases Int.le_total (topE (z :: l)) y.lam with h1 | h1
    · exact ⟨y, List.mem_cons_self .., by rw [e]; omega⟩
    · exact ⟨x, List.mem_cons_of_mem _ hx, by rw [e]; omega⟩
theorem top_last (h : Good n L) (hne : 0 < L.length) : topE L = (L.getD (L.length - 1) default).lam := by
  have hl : L.length - 1 < L.length := by omega
  rw [getD_at _ hl]
  obtain ⟨x, hx, he⟩ := top_at (L := L) (fun e => by rw [e] at hne; exact absurd hne (Nat.lt_irrefl 0)) (fun x hx => (check_ok (h.chk x hx)).2.1.2)
  have h1 := top_ge (List.getElem_mem hl)
  obtain ⟨i, hi, rfl⟩ := List.getElem_of_mem hx
  by_cases hil : i = L.length - 1
  · subst hil; exact he
  · have := List.pairwise_iff_getElem.1 h.srt i (L.length - 1) hi hl (by omega)
    rw [cmpE_neg] at this
    omega
end
end Go.Proofs.Ytgjgmojjeehieaa
end

section
/- Steps of the proofs of this seat: part B6. -/
set_option linter.unusedSimpArgs false
set_option linter.unusedVariables false
set_option maxRecDepth 8000
set_option maxHeartbeats 4000000
namespace Go.Proofs.Ytgjgmojjeehieaa
open Go.Proofs Go.RowKit

section
variable {n : Nat} {L T : List Ev} {e x : Ev}
theorem ins_end : ∀ {T : List Ev}, (∀ x ∈ T, cmpE x e < 0) → insE e T = T ++ [e]
  | [], _ => rfl
  | x :: l, h => by
    have h1 := h x (List.mem_cons_self ..)
    have h2 : ¬ ltE e x = true := fun h3 => cmp_asym h1 (lt_cmp.1 h3)
    simp only [insE]
    rw [if_neg h2, ins_end fun y hy => h y (List.mem_cons_of_mem _ hy)]; rfl
theorem Good.at_lt (h : Good n L) {i j : Nat} (hij : i < j) (hj : j < L.length) : cmpE (L.getD i default) (L.getD j default) < 0 := by
  rw [getD_at _ (by omega), getD_at _ hj]
  exact List.pairwise_iff_getElem.1 h.srt i j (by omega) hj hij
theorem mem_take {i : Nat} (hx : x ∈ L.take i) : ∃ j, j < i ∧ j < L.length ∧ x = L.getD j default := by
  obtain ⟨j, hj, rfl⟩ := List.getElem_of_mem hx
  rw [List.length_take] at hj
  refine ⟨j, by omega, by omega, ?_⟩
  rw [getD_at _ (by omega), List.getElem_take]
theorem getD_mem {i : Nat} (hi : i < L.length) : L.getD i default ∈ L := by rw [getD_at _ hi]; exact List.getElem_mem hi
theorem take_mem {i j : Nat} (hi : i < j) (hj : i < L.length) : L.getD i default ∈ L.take j := by
  rw [getD_at _ hj]
  exact List.mem_take_iff_getElem.2 ⟨i, by omega, rfl⟩
theorem take_snoc {i : Nat} (hi : i < L.length) : L.take (i + 1) = L.take i ++ [L.getD i default] := by
  rw [List.take_succ_eq_append_getElem hi, getD_at _ hi]
theorem Good.ins_take (h : Good n L) {i : Nat} (hi : i < L.length) : insE (L.getD i default) (L.take i) = L.take (i + 1) := by
  rw [take_snoc hi]
  refine ins_end fun x hx => ?_
  obtain ⟨j, h1, h2, rfl⟩ := mem_take hx
  exact h.at_lt h1 hi
theorem vec_snoc (h : Good n L) {i : Nat} (hi : i < L.length) : (vecE n (L.take i)).set (L.getD i default).origin.toNat ((vecE n (L.take i)).getD (L.getD i default).origin.toNat 0 + 1) = vecE n (L.take (i + 1)) := by
  obtain ⟨⟨h0, h1⟩, _⟩ := check_ok (h.chk _ (getD_mem hi))
  rw [vecE_at (by omega), vec_ins h0 h1, h.ins_take hi]
theorem Good.chk_at (h : Good n L) {i : Nat} (hi : i < L.length) : (0 ≤ (L.getD i default).origin ∧ (L.getD i default).origin < n) ∧ (L.getD i default).deps.length = n := by
  obtain ⟨h0, _, h2, _⟩ := check_ok (h.chk _ (getD_mem hi))
  exact ⟨h0, h2⟩
end
end Go.Proofs.Ytgjgmojjeehieaa
end

section
/- Rows, of whose elements some have memory of their own, and others lie in what is lent. -/
set_option linter.unusedSimpArgs false
set_option linter.unusedVariables false
set_option linter.unusedSectionVars false
namespace Go.Proofs.Ytgjgmojjeehieaa
open Go.RowKit

def alt {α : Type} [Rep α] (F : Nat → Prop) (W : World) : Src α :=
  ⟨fun cs x => ⟨fun w f => ((own (α := α)).el cs x).p w f ∨ Rep.rd W F cs x, fun h hf => h.imp (fun h => ((own (α := α)).el cs x).loc h hf) id⟩, fun {w f cs x} h => h.elim (fun h => (own (α := α)).len (w := w) (f := f) h) Rep.len, fun {w f cs x} h => h.elim (fun h => (own (α := α)).one (w := w) (f := f) h) Rep.one⟩
section
variable {α : Type} [Rep α] {G : Nat → Prop} {W w : World} {As : List HP} {T : TypeId} {v : Value} {l : List α}
/-- A row is lent, and a row that has some of its elements takes its place. -/
theorem Sep.lendA (h : Sep G W (RowE (own (α := α)) T v l :: As) w) : ∃ F G' : Nat → Prop, RdS w F v l ∧ Base F w G' w ∧ Base G W G' w ∧ Sep G' w As w ∧
    (∀ (T' : TypeId) (v' : Value) (l' : List α) (Cs : List HP) (w' : World), Sep G' w (RowE (alt F w) T' v' l' :: Cs) w' → Sep G W (RowE (own (α := α)) T' v' l' :: Cs) w') := by
  obtain ⟨fs, h1, h2⟩ := h.parts
  obtain ⟨hA, hl⟩ := h1 0 _ rfl
  refine ⟨fun b => fs 0 b ∧ Soft w b, fun b => G b ∨ fs 0 b, RowE.soft hA, fun b hb _ => ⟨rfl, .inr hb.1⟩, fun b hb hlt => ⟨(h.kept.keep b hb).2, .inl hb⟩, ⟨Kept.refl (fun b hb => ?_), fun i => fs (i + 1), fun i C hC => ?_, fun i j hi hj hne => ?_⟩, fun T' v' l' Cs w' hC => ?_⟩
  · rcases hb with hb | hb
    · have := (h.kept.keep b hb).1; have := h.kept.size; omega
    · exact (hl b hb).2
  · obtain ⟨h3, h4⟩ := h1 (i + 1) C (by simpa using hC)
    have hi := (List.getElem?_eq_some_iff.1 hC).1
    exact ⟨h3, fun b hb => ⟨fun hg => hg.elim (h4 b hb).1 (fun h0 => h2 0 (i + 1) (by simp) (by simp; omega) (by omega) b h0 hb), (h4 b hb).2⟩⟩
  · exact h2 _ _ (by simp; omega) (by simp; omega) (by omega)
  · obtain ⟨gs, g1, g2⟩ := hC.parts
    have hkA : ∀ b, fs 0 b → w'.heap[b]? = w.heap[b]? := fun b hb => (hC.kept.keep b (.inr hb)).2
    have old : ∀ j, j < Cs.length + 1 → ∀ b, gs j b → ¬ fs 0 b := fun j hj b hb h0 => ((g1 j _ (List.getElem?_eq_getElem (by simpa using hj))).2 b hb).1 (.inr h0)
    refine ⟨⟨hC.kept.os.trans h.kept.os, hC.kept.tape.trans h.kept.tape, hC.kept.output.trans h.kept.output, Nat.le_trans h.kept.size hC.kept.size, Nat.le_trans h.kept.drawn hC.kept.drawn, fun b hb => ⟨(h.kept.keep b hb).1, ((hC.kept.keep b (.inl hb)).2).trans (h.kept.keep b hb).2⟩⟩,
      fun i b => match i with | 0 => gs 0 b ∨ fs 0 b | i + 1 => gs (i + 1) b, fun i D hD => ?_, fun i j hi hj hne b hb => ?_⟩
    · cases i with
      | zero =>
        simp only [List.getElem?_cons_zero, Option.some.injEq] at hD
        subst hD
        obtain ⟨⟨css, hE, hown, hrow, hsm⟩, h4⟩ := g1 0 _ rfl
        refine ⟨⟨css, hE.mono (fun cs x hx => ?_), hown, fun b hb => .inl (hrow b hb), hsm⟩, fun b hb => ?_⟩
        · rcases hx with hx | hx
          · exact ((own (α := α)).el cs x).weak hx (fun b hb _ => ⟨.inl hb.1, hb.2⟩)
          · exact Rep.mono hx (fun b hb hlt => ⟨hkA b hb.1, ⟨.inr hb.1, fun e => old 0 (Nat.succ_pos _) b (hrow b e) hb.1⟩, hb.2.keep (hkA b hb.1)⟩)
        · rcases hb with hb | hb
          · exact ⟨fun hg => (h4 b hb).1 (.inl hg), (h4 b hb).2⟩
          · exact ⟨(hl b hb).1, Nat.lt_of_lt_of_le (hl b hb).2 hC.kept.size⟩
      | succ i =>
        obtain ⟨h3, h4⟩ := g1 (i + 1) D hD
        exact ⟨h3, fun b hb => ⟨fun hg => (h4 b hb).1 (.inl hg), (h4 b hb).2⟩⟩
    · simp only [List.length_cons] at hi hj
      cases i with
      | zero =>
        cases j with
        | zero => exact (hne rfl).elim
        | succ j =>
          intro hb2
          rcases hb with hb | hb
          · exact g2 0 (j + 1) (by simp) (by simpa using hj) (by omega) b hb hb2
          · exact old (j + 1) hj b hb2 hb
      | succ i =>
        cases j with
        | zero =>
          rintro (hb2 | hb2)
          · exact g2 (i + 1) 0 (by simpa using hi) (by simp) (by omega) b hb hb2
          · exact old (i + 1) hi b hb hb2
        | succ j => exact g2 (i + 1) (j + 1) (by simpa using hi) (by simpa using hj) hne b hb
end
theorem RdS.evD {w : World} {F : Nat → Prop} {v : Value} {l : List Ev} {i : Nat} (h : RdS w F v l) (hi : i < l.length) : Rep.rd w F ((l.getD i default).cells (cellV w (sb v) (so v + i * 10 + 3))) (l.getD i default) := by
  obtain ⟨_, h1, h2⟩ := h.ev hi
  rw [getD_at default hi]
  exact ⟨_, rfl, h1, h2⟩
end Go.Proofs.Ytgjgmojjeehieaa
end
