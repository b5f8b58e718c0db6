/- Steps of the proofs of this seat: part A17. -/
import Derived.Test.YtgjgmojjeehieaaA16
set_option linter.unusedSimpArgs false
set_option linter.unusedVariables false
set_option maxRecDepth 8000
set_option maxHeartbeats 4000000
namespace Go.Proofs.Ytgjgmojjeehieaa
open Go.Proofs Go.RowKit

section
variable {G : Nat → Prop} {W w : World} {As : List HP} {vd : Value} {e : Ev}
theorem ev_new (ho : e.Ok) (h : Sep G W (RowE (α := Int) own 3 vd e.deps :: As) w) : Sep G W (EV (.agg (e.cells vd).toArray) e :: As) w := h.impl (i := 0) rfl (fun _ h => ⟨vd, rfl, ho, h⟩)
theorem mapo_take {m : Nat} {X : Int × Int → Option Ev} {k : Int × Int} (h : Sep G W (MapO enc2 EV m X :: As) w) (hX : (X k).isSome = false) : Sep G W (MapO1 enc2 EV zeroE m X k zeroE :: As) w := by
  obtain ⟨v, hv, h1⟩ := h.mapoTake zeroE k
  have hn : X k = none := by rwa [Option.isSome_eq_false_iff, Option.isNone_iff_eq_none] at hX
  obtain rfl := hv hn
  exact h1.sel 2 [0] (Nat.le_add_left _ _) rfl rfl
end
theorem D_Add {G : Nat → Prop} {W w : World} {Rs : List HP} {b : Nat} {n : Nat} {L : List Ev} {e : Ev} {de0 : Value} (hde0 : RdS W G de0 e.deps) (oe : e.Ok) (hS0 : Sep G W ((SetO b n L) :: Rs) w) (hL : L.length ≤ 1000000) (hlen : ∀ y ∈ L, y.deps.length = n) : Ret Try.prog 21 [.pointer (some ⟨b, 0, none⟩), .agg (e.cells de0).toArray] w (fun r w' => ∃ (L1 : List Ev), r = (.int .i64 ((addE n L e)) : Value) ∧ (L1 = addL n L e) ∧ Sep G W ((SetO b n L1) :: Rs) w') := by
 have hde0s : e.deps.length * 8 ≤ 140737488355328 := hde0.small
 refine Calls_of_WP (args := [.pointer (some ⟨b, 0, none⟩), .agg (e.cells de0).toArray]) Try.func21 rfl rfl ?_
 refine WP_seq ?_
 obtain ⟨G1, hA3, hB4, hS5, hk6⟩ := hS0.lend
 obtain ⟨vv7, m8, R9, hb10, hv11, hr12⟩ := SetO.sh hA3
 have hsm13 : (vecE n L).length * 8 ≤ 140737488355328 := hv11.small
 have hvl9 : (vecE n L).length = n := vecE_len
 refine WP_region0 (by kernel_rfl) (fun _ => ?_)
 refine st (ov_box (v := .agg (e.cells de0).toArray) rfl ?_)
 intro w16 b15 hn14
 have hS17 : Sep G1 w ((Blk b15 (e.cells de0).toArray 36) :: Rs) w16 := hS5.new hn14
 refine st (ov_assign (v := .int .i64 (0)) rfl ?_)
 refine st_nil ?_
 refine WP_seq ?_
 refine WP_seq ?_
 refine WP_draw4 (WF [fun vals wq => Sep G1 w ((Blk b15 (e.cells de0).toArray 36) :: Rs) wq, fun vals wq => (vals 6 = (.int .i64 ((checkE e (((vecE n L).length : Nat) : Int))) : Value)) ∧ Sep G1 w ((Blk b15 (e.cells de0).toArray 36) :: Rs) wq]) (AF [Vl 0 (.agg (e.cells de0).toArray), Vl 1 (.pointer (some ⟨b, 0, none⟩)), Vl 2 (.pointer (some ⟨b, 0, none⟩)), Vl 3 (.pointer (some ⟨b, 0, none⟩)), Vl 4 (vv7), Vl 5 (.int .i64 (((vecE n L).length : Nat) : Int)), fun _ => True, Vl 7 (.int .i64 ((checkE e (((vecE n L).length : Nat) : Int))))]) [[], [], [1], [1, 2], [1, 2, 3], [1, 2, 3, 4], [0, 1, 2, 3, 4, 5], [0, 1, 2, 3, 4, 5, 6]] [6] [(0, 0), (0, 0), (0, 0), (0, 0), (0, 0), (0, 0), (0, 0), (1, 1)] (by kernel_rfl) (by kernel_rfl) (by kernel_rfl) rfl (by kernel_rfl) (by kernel_rfl) (fun _ h1 h2 h3 h4 _ => hS17.same h1 h2 h3 h4) ?_ (AF_loc ⟨dA, dA, dA, dA, dA, dA, dT, dA, trivial⟩) ⟨?_, ?_, ?_, ?_, ?_, ?_, ?_, ?_, trivial⟩ ?_
 ·intro k vals vals' w hv h
  have e : ∀ j ∈ ([6] : List Nat), vals' j = vals j := hv
  match k, h with
  | 0, h => exact h
  | 1, h => exact (by simpa only [WF, List.getElem?_cons_zero, List.getElem?_cons_succ, e 6 (by decide)] using h)
  | _ + 2, _ => trivial
 ·intro k80 vals w81 h84 h85 hW83 hA82
  obtain rfl : k80 = 0 := Nat.le_antisymm h85 h84
  have hS86 : Sep G1 w ((Blk b15 (e.cells de0).toArray 36) :: Rs) w81 := hW83
  refine obl rfl ?_
  exact ov_loadk (k := 10) Try.isAgg36 Try.sizeOf36 rfl rfl (CellsAt.all (hS86.blk (i := 0) rfl)) (fun vals' hv _ => ⟨rfl, hv⟩)
 ·intro k87 vals w88 h91 h92 hW90 hA89
  refine obl rfl ?_
  exact ov_move (v := .pointer (some ⟨b, 0, none⟩)) rfl (fun vals' hv _ => ⟨rfl, hv⟩)
 ·intro k93 vals w94 h97 h98 hW96 hA95
  have e99 := hA95 1 (by decide)
  refine obl rfl ?_
  exact ov_nilCheck (b := b) (o := 0) e99 (fun vals' hv _ => ⟨rfl, hv⟩)
 ·intro k100 vals w101 h104 h105 hW103 hA102
  have e106 := hA102 2 (by decide)
  refine obl rfl ?_
  exact fd73_0 e106 (fun vals' hv _ => ⟨rfl, hv⟩)
 ·intro k107 vals w108 h111 h112 hW110 hA109
  obtain rfl : k107 = 0 := Nat.le_antisymm h112 h111
  have hS113 : Sep G1 w ((Blk b15 (e.cells de0).toArray 36) :: Rs) w108 := hW110
  have e114 := hA109 3 (by decide)
  refine obl rfl ?_
  exact ov_load1 (v := vv7) Try.isAgg34 e114 (blk_cellL (hS113.gblk hb10) rfl) (fun vals' hv _ => ⟨rfl, hv⟩)
 ·intro k115 vals w116 h119 h120 hW118 hA117
  obtain rfl : k115 = 0 := Nat.le_antisymm h120 h119
  have hS121 : Sep G1 w ((Blk b15 (e.cells de0).toArray 36) :: Rs) w116 := hW118
  have e122 := hA117 4 (by decide)
  refine obl rfl ?_
  exact ov_len (n := (vecE n L).length) Try.underlying34 e122 hv11.sl (fun vals' hv _ => ⟨rfl, hv⟩)
 ·intro k61 vals w62 h65 h66 hW64 hA63
  obtain rfl : k61 = 0 := Nat.le_antisymm h66 h65
  have hS67 : Sep G1 w ((Blk b15 (e.cells de0).toArray 36) :: Rs) w62 := hW64
  have e68 := hA63 0 (by decide)
  have e69 := hA63 5 (by decide)
  refine obl rfl ?_
  refine (ov_call (f := 55) (vals := [.agg (e.cells de0).toArray, .int .i64 (((vecE n L).length : Nat) : Int)]) (cap := []) (show _ = (.func (.func 55) #[] #[] : Value) from rfl) (mapL ⟨e68, e69, trivial⟩) Try.call55 (D_check (e := e) (n := (((vecE n L).length : Nat) : Int)) (RdS.base hde0 hB4) oe (by have : (vecE n L).length * 8 ≤ 140737488355328 := hv11.small; omega) hS67) ?_)
  rintro _ w70 ⟨rfl, hS71⟩
  intro vals' hv hv'
  refine ⟨?_, trivial⟩
  show (vals' 6 = (.int .i64 ((checkE e (((vecE n L).length : Nat) : Int))) : Value)) ∧ Sep G1 w ((Blk b15 (e.cells de0).toArray 36) :: Rs) w70
  exact ⟨hv, hS71⟩
 ·intro k123 vals w124 h127 h128 hW126 hA125
  obtain rfl : k123 = 1 := Nat.le_antisymm h128 h127
  obtain ⟨he72, hS129⟩ := hW126
  refine obl rfl ?_
  exact ov_assign (v := .int .i64 ((checkE e (((vecE n L).length : Nat) : Int)))) he72 (fun vals' hv _ => ⟨rfl, hv⟩)
 intro vals w130 hW131 hA132
 obtain ⟨he72, hS133⟩ := hW131
 have e134 := hA132 7 (by decide)
 refine st_env (kv := [(0, .pointer (some ⟨b, 0, none⟩)), (1, .agg (e.cells de0).toArray), (3, .pointer (some ⟨b15, 0, none⟩)), (4, .int .i64 (0)), (5, .int .i64 ((checkE e (((vecE n L).length : Nat) : Int))))]) ⟨rfl, rfl, rfl, rfl, (by exact e134), trivial⟩ (fun ρw130 => ?_)
 refine st_nil ?_
 refine WP_seq ?_
 refine WP_region0 (by kernel_rfl) (fun _ => ?_)
 refine st (ov_move (v := .int .i64 ((checkE e (((vecE n L).length : Nat) : Int)))) rfl ?_)
 refine st (ov_neq (k := .i64) (a := (checkE e (((vecE n L).length : Nat) : Int))) (b := 0) rfl rfl ?_)
 refine st_nil ?_
 cases hc135 : !decide ((checkE e (((vecE n L).length : Nat) : Int)) = 0)
 ·skip
  have hc135 := ndec_false hc135
  rw [hvl9] at hc135
  obtain ⟨⟨ho9, ho9'⟩, ⟨hs9, hl9⟩, hd9, hq9⟩ := check_ok hc135
  have hv9 : (vecE n L).getD e.origin.toNat 0 = ((cntE L e.origin.toNat : Nat) : Int) := vecE_at (by omega)
  have hcl9 := cntE_le (L := L) (o := e.origin.toNat)
  refine WP_cond_f rfl ?_
  refine WP_skip ?_
  refine WP_seq ?_
  refine WP_seq ?_
  obtain ⟨x136, vd137, hx138, hv139, hok140, hd141, hb142⟩ := hr12.at_ (e.origin, e.seq)
  have hsm143 : x136.deps.length * 8 ≤ 140737488355328 := hd141.small
  refine WP_draw4 (WF [fun vals wq => Sep G1 w ((Blk b15 (e.cells de0).toArray 36) :: Rs) wq, fun vals wq => ∃ (b224 : Nat), (vals 10 = (.pointer (some ⟨b224, 0, none⟩) : Value)) ∧ Sep G1 w ((Blk b224 #[.int .i64 (0), .int .i64 (0), .int .i64 (0), (.slice none 0 0), .int .i64 (0), .int .i64 (0), .int .i64 (0), .int .i64 (0), .int .i64 (0), .int .i64 (0)] 36) :: (Blk b15 (e.cells de0).toArray 36) :: Rs) wq, fun vals wq => ∃ (b224 : Nat), (vals 10 = (.pointer (some ⟨b224, 0, none⟩) : Value)) ∧ Sep G1 w ((Blk b224 (x136.cells vd137).toArray 36) :: (Blk b15 (e.cells de0).toArray 36) :: Rs) wq]) (AF [Vl 0 (.pointer (some ⟨b, 0, none⟩)), Vl 1 (.pointer (some ⟨b, 0, none⟩)), Vl 2 (.pointer (some ⟨b, 1, none⟩)), Vl 3 (.map (some m8)), Vl 4 (.pointer (some ⟨b15, 0, none⟩)), Vl 5 (.agg #[.int .i64 (e.origin), .int .i64 (e.seq)]), Vl 6 (.tuple #[.agg (x136.cells vd137).toArray, .bool ((getE L (e.origin, e.seq)).isSome)]), Vl 7 (.tuple #[.agg (x136.cells vd137).toArray, .bool ((getE L (e.origin, e.seq)).isSome)]), Vl 8 (.agg (x136.cells vd137).toArray), Vl 9 (.bool ((getE L (e.origin, e.seq)).isSome)), fun _ => True, fun _ => True, Vl 12 (.bool ((getE L (e.origin, e.seq)).isSome))]) [[], [0], [0, 1], [0, 1, 2], [], [4], [0, 1, 2, 3, 4, 5], [0, 1, 2, 3, 4, 5, 6], [0, 1, 2, 3, 4, 5, 6, 7], [0, 1, 2, 3, 4, 5, 6, 7], [], [0, 1, 2, 3, 4, 5, 6, 7, 8, 10], [0, 1, 2, 3, 4, 5, 6, 7, 8, 9, 10, 11]] [10, 11] [(0, 1), (0, 1), (0, 1), (0, 1), (0, 1), (0, 1), (0, 1), (0, 1), (0, 1), (0, 2), (0, 0), (1, 1), (2, 2)] (by kernel_rfl) (by kernel_rfl) (by kernel_rfl) rfl (by kernel_rfl) (by kernel_rfl) (fun _ h1 h2 h3 h4 _ => hS133.same h1 h2 h3 h4) ?_ (AF_loc ⟨dA, dA, dA, dA, dA, dA, dA, dA, dA, dA, dT, dT, dA, trivial⟩) ⟨?_, ?_, ?_, ?_, ?_, ?_, ?_, ?_, ?_, ?_, ?_, ?_, ?_, trivial⟩ ?_
  ·intro k vals vals' w hv h
   have e : ∀ j ∈ ([10, 11] : List Nat), vals' j = vals j := hv
   match k, h with
   | 0, h => exact h
   | 1, h => exact (by simpa only [WF, List.getElem?_cons_zero, List.getElem?_cons_succ, e 10 (by decide)] using h)
   | 2, h => exact (by simpa only [WF, List.getElem?_cons_zero, List.getElem?_cons_succ, e 10 (by decide)] using h)
   | _ + 3, _ => trivial
  ·intro k246 vals w247 h250 h251 hW249 hA248
   refine obl rfl ?_
   exact ov_move (v := .pointer (some ⟨b, 0, none⟩)) rfl (fun vals' hv _ => ⟨rfl, hv⟩)
  ·intro k252 vals w253 h256 h257 hW255 hA254
   have e258 := hA254 0 (by decide)
   refine obl rfl ?_
   exact ov_nilCheck (b := b) (o := 0) e258 (fun vals' hv _ => ⟨rfl, hv⟩)
  ·intro k259 vals w260 h263 h264 hW262 hA261
   have e265 := hA261 1 (by decide)
   refine obl rfl ?_
   exact fd73_1 e265 (fun vals' hv _ => ⟨rfl, hv⟩)
  ·intro k266 vals w267 h270 h271 hW269 hA268
   have hkk : k266 = 0 ∨ k266 = 1 := by have h1 : 0 ≤ k266 := h270; have h2 : k266 ≤ 1 := h271; omega
   rcases hkk with rfl | rfl
   ·skip
    have hS272 : Sep G1 w ((Blk b15 (e.cells de0).toArray 36) :: Rs) w267 := hW269
    have e273 := hA268 2 (by decide)
    refine obl rfl ?_
    exact ov_load1 (v := .map (some m8)) Try.isAgg71 e273 (blk_cellL (hS272.gblk hb10) rfl) (fun vals' hv _ => ⟨rfl, hv⟩)
   ·skip
    obtain ⟨b224, he227, hS274⟩ := hW269
    have e275 := hA268 2 (by decide)
    refine obl rfl ?_
    exact ov_load1 (v := .map (some m8)) Try.isAgg71 e275 (blk_cellL (hS274.gblk hb10) rfl) (fun vals' hv _ => ⟨rfl, hv⟩)
  ·intro k276 vals w277 h280 h281 hW279 hA278
   refine obl rfl ?_
   exact fd36_0 rfl (fun vals' hv _ => ⟨rfl, hv⟩)
  ·intro k282 vals w283 h286 h287 hW285 hA284
   have hkk : k282 = 0 ∨ k282 = 1 := by have h1 : 0 ≤ k282 := h286; have h2 : k282 ≤ 1 := h287; omega
   rcases hkk with rfl | rfl
   ·skip
    have hS288 : Sep G1 w ((Blk b15 (e.cells de0).toArray 36) :: Rs) w283 := hW285
    have e289 := hA284 4 (by decide)
    refine obl rfl ?_
    exact ov_loadk (k := 2) (cs := [.int .i64 (e.origin), .int .i64 (e.seq)]) Try.isAgg33 Try.sizeOf33 rfl e289 (CellsAt.sub (CellsAt.all (hS288.blk (i := 0) rfl)) 0 (cs2 := [.int .i64 (e.origin), .int .i64 (e.seq)]) rfl) (fun vals' hv _ => ⟨rfl, hv⟩)
   ·skip
    obtain ⟨b224, he227, hS290⟩ := hW285
    have e291 := hA284 4 (by decide)
    refine obl rfl ?_
    exact ov_loadk (k := 2) (cs := [.int .i64 (e.origin), .int .i64 (e.seq)]) Try.isAgg33 Try.sizeOf33 rfl e291 (CellsAt.sub (CellsAt.all (hS290.blk (i := 1) rfl)) 0 (cs2 := [.int .i64 (e.origin), .int .i64 (e.seq)]) rfl) (fun vals' hv _ => ⟨rfl, hv⟩)
  ·intro k292 vals w293 h296 h297 hW295 hA294
   have hkk : k292 = 0 ∨ k292 = 1 := by have h1 : 0 ≤ k292 := h296; have h2 : k292 ≤ 1 := h297; omega
   rcases hkk with rfl | rfl
   ·skip
    have hS298 : Sep G1 w ((Blk b15 (e.cells de0).toArray 36) :: Rs) w293 := hW295
    have e299 := hA294 3 (by decide)
    have e300 := hA294 5 (by decide)
    refine obl rfl ?_
    exact ov_lookS2 (k := (e.origin, e.seq)) hS298 hr12 K2 Try.underlying71 Try.zeroValue36 e299 (show _ = (.agg #[.int .i64 (e.origin), .int .i64 (e.seq)] : Value) from e300) hv139 hb142 (fun vals' hv _ => ⟨rfl, hv⟩)
   ·skip
    obtain ⟨b224, he227, hS301⟩ := hW295
    have e302 := hA294 3 (by decide)
    have e303 := hA294 5 (by decide)
    refine obl rfl ?_
    exact ov_lookS2 (k := (e.origin, e.seq)) hS301 hr12 K2 Try.underlying71 Try.zeroValue36 e302 (show _ = (.agg #[.int .i64 (e.origin), .int .i64 (e.seq)] : Value) from e303) hv139 hb142 (fun vals' hv _ => ⟨rfl, hv⟩)
  ·intro k304 vals w305 h308 h309 hW307 hA306
   have e310 := hA306 6 (by decide)
   refine obl rfl ?_
   exact ov_move (v := .tuple #[.agg (x136.cells vd137).toArray, .bool ((getE L (e.origin, e.seq)).isSome)]) e310 (fun vals' hv _ => ⟨rfl, hv⟩)
  ·intro k311 vals w312 h315 h316 hW314 hA313
   have e317 := hA313 7 (by decide)
   refine obl rfl ?_
   exact ov_extract (vs := [.agg (x136.cells vd137).toArray, .bool ((getE L (e.origin, e.seq)).isSome)]) (i := 0) (v := .agg (x136.cells vd137).toArray) e317 rfl (fun vals' hv _ => ⟨rfl, hv⟩)
  ·intro k318 vals w319 h322 h323 hW321 hA320
   have e324 := hA320 7 (by decide)
   refine obl rfl ?_
   exact ov_extract (vs := [.agg (x136.cells vd137).toArray, .bool ((getE L (e.origin, e.seq)).isSome)]) (i := 1) (v := .bool ((getE L (e.origin, e.seq)).isSome)) e324 rfl (fun vals' hv _ => ⟨rfl, hv⟩)
  ·intro k216 vals w217 h220 h221 hW219 hA218
   obtain rfl : k216 = 0 := Nat.le_antisymm h221 h220
   have hS222 : Sep G1 w ((Blk b15 (e.cells de0).toArray 36) :: Rs) w217 := hW219
   refine obl rfl ?_
   refine (ov_alloc Try.zeroValue36 ?_)
   intro w225 b224 hn223
   have hS226 : Sep G1 w ((Blk b224 #[.int .i64 (0), .int .i64 (0), .int .i64 (0), (.slice none 0 0), .int .i64 (0), .int .i64 (0), .int .i64 (0), .int .i64 (0), .int .i64 (0), .int .i64 (0)] 36) :: (Blk b15 (e.cells de0).toArray 36) :: Rs) w225 := hS222.new hn223
   intro vals' hv hv'
   refine ⟨?_, trivial⟩
   show ∃ (b224 : Nat), (vals' 10 = (.pointer (some ⟨b224, 0, none⟩) : Value)) ∧ Sep G1 w ((Blk b224 #[.int .i64 (0), .int .i64 (0), .int .i64 (0), (.slice none 0 0), .int .i64 (0), .int .i64 (0), .int .i64 (0), .int .i64 (0), .int .i64 (0), .int .i64 (0)] 36) :: (Blk b15 (e.cells de0).toArray 36) :: Rs) w225
   exact ⟨b224, hv, hS226⟩
  ·intro k228 vals w229 h232 h233 hW231 hA230
   obtain rfl : k228 = 1 := Nat.le_antisymm h233 h232
   obtain ⟨b224, he227, hS234⟩ := hW231
   have e235 := hA230 8 (by decide)
   refine obl rfl ?_
   refine (ov_store (v := .agg (x136.cells vd137).toArray) (c' := (x136.cells vd137).toArray) Try.sizeOf36 he227 e235 (hS234.blk (i := 0) rfl) (all1 ⟨rfl, rfl, rfl, hd141.sl.one, rfl, rfl, rfl, rfl, rfl, rfl, trivial⟩) (Nat.le_of_ble_eq_true rfl) rfl ?_)
   intro w236 hp237
   have hS238 : Sep G1 w ((Blk b224 (x136.cells vd137).toArray 36) :: (Blk b15 (e.cells de0).toArray 36) :: Rs) w236 := hS234.put (i := 0) rfl hp237
   intro vals' hv hv'
   refine ⟨?_, trivial⟩
   show ∃ (b224 : Nat), (vals' 10 = (.pointer (some ⟨b224, 0, none⟩) : Value)) ∧ Sep G1 w ((Blk b224 (x136.cells vd137).toArray 36) :: (Blk b15 (e.cells de0).toArray 36) :: Rs) w236
   exact ⟨b224, (by rw [hv' 10 (by decide)]; exact he227), hS238⟩
  ·intro k325 vals w326 h329 h330 hW328 hA327
   have e331 := hA327 9 (by decide)
   refine obl rfl ?_
   exact ov_assign (v := .bool ((getE L (e.origin, e.seq)).isSome)) e331 (fun vals' hv _ => ⟨rfl, hv⟩)
  intro vals w332 hW333 hA334
  obtain ⟨b224, he227, hS335⟩ := hW333
  have e336 := hA334 12 (by decide)
  refine st_env (kv := [(0, .pointer (some ⟨b, 0, none⟩)), (1, .agg (e.cells de0).toArray), (3, .pointer (some ⟨b15, 0, none⟩)), (4, .int .i64 (0)), (5, .int .i64 ((checkE e (((vecE n L).length : Nat) : Int)))), (16, .int .i64 ((checkE e (((vecE n L).length : Nat) : Int)))), (17, .bool false), (7, .bool ((getE L (e.origin, e.seq)).isSome))]) ⟨rfl, rfl, rfl, rfl, rfl, rfl, rfl, (by exact e336), trivial⟩ (fun ρw332 => ?_)
  refine st_nil ?_
  refine WP_seq ?_
  refine WP_region0 (by kernel_rfl) (fun _ => ?_)
  refine st (ov_move (v := .bool ((getE L (e.origin, e.seq)).isSome)) rfl ?_)
  refine st_nil ?_
  cases hc337 : (getE L (e.origin, e.seq)).isSome
  ·skip
   refine WP_cond_f rfl ?_
   refine WP_skip ?_
   refine WP_seq ?_
   refine WP_seq ?_
   refine WP_draw4 (WF [fun vals wq => Sep G1 w ((Blk b224 (x136.cells vd137).toArray 36) :: (Blk b15 (e.cells de0).toArray 36) :: Rs) wq]) (AF [Vl 0 (.pointer (some ⟨b15, 0, none⟩)), Vl 1 (.pointer (some ⟨b15, 1, none⟩)), Vl 2 (.int .i64 (e.seq)), Vl 3 (.pointer (some ⟨b, 0, none⟩)), Vl 4 (.pointer (some ⟨b, 0, none⟩)), Vl 5 (.pointer (some ⟨b, 0, none⟩)), Vl 6 (vv7), Vl 7 (.pointer (some ⟨b15, 0, none⟩)), Vl 8 (.pointer (some ⟨b15, 0, none⟩)), Vl 9 (.int .i64 (e.origin)), Vl 10 (.pointer (some ⟨sb vv7, so vv7 + e.origin.toNat * 1, none⟩)), Vl 11 (.int .i64 (((vecE n L).getD e.origin.toNat 0))), Vl 12 (.int .i64 (((vecE n L).getD e.origin.toNat 0) + 1)), Vl 13 (.bool (!decide (e.seq = (((vecE n L).getD e.origin.toNat 0) + 1))))]) [[], [0], [0, 1], [], [3], [3, 4], [3, 4, 5], [], [7], [7, 8], [3, 4, 5, 6, 7, 8, 9], [3, 4, 5, 6, 7, 8, 9, 10], [3, 4, 5, 6, 7, 8, 9, 10, 11], [0, 1, 2, 3, 4, 5, 6, 7, 8, 9, 10, 11, 12]] [] [(0, 0), (0, 0), (0, 0), (0, 0), (0, 0), (0, 0), (0, 0), (0, 0), (0, 0), (0, 0), (0, 0), (0, 0), (0, 0), (0, 0)] (by kernel_rfl) (by kernel_rfl) (by kernel_rfl) rfl (by kernel_rfl) (by kernel_rfl) (fun _ h1 h2 h3 h4 _ => hS335.same h1 h2 h3 h4) ?_ (AF_loc ⟨dA, dA, dA, dA, dA, dA, dA, dA, dA, dA, dA, dA, dA, dA, trivial⟩) ⟨?_, ?_, ?_, ?_, ?_, ?_, ?_, ?_, ?_, ?_, ?_, ?_, ?_, ?_, trivial⟩ ?_
   ·intro k vals vals' w hv h
    match k, h with
    | 0, h => exact h
    | _ + 1, _ => trivial
   ·intro k447 vals w448 h451 h452 hW450 hA449
    refine obl rfl ?_
    exact fd36_0 rfl (fun vals' hv _ => ⟨rfl, hv⟩)
   ·intro k453 vals w454 h457 h458 hW456 hA455
    have e459 := hA455 0 (by decide)
    refine obl rfl ?_
    exact fd33_1 e459 (fun vals' hv _ => ⟨rfl, hv⟩)
   ·intro k460 vals w461 h464 h465 hW463 hA462
    obtain rfl : k460 = 0 := Nat.le_antisymm h465 h464
    have hS466 : Sep G1 w ((Blk b224 (x136.cells vd137).toArray 36) :: (Blk b15 (e.cells de0).toArray 36) :: Rs) w461 := hW463
    have e467 := hA462 1 (by decide)
    refine obl rfl ?_
    exact ov_load1 (v := .int .i64 (e.seq)) Try.isAgg3 e467 (blk_cellL (hS466.blk (i := 1) rfl) rfl) (fun vals' hv _ => ⟨rfl, hv⟩)
   ·intro k468 vals w469 h472 h473 hW471 hA470
    refine obl rfl ?_
    exact ov_move (v := .pointer (some ⟨b, 0, none⟩)) rfl (fun vals' hv _ => ⟨rfl, hv⟩)
   ·intro k474 vals w475 h478 h479 hW477 hA476
    have e480 := hA476 3 (by decide)
    refine obl rfl ?_
    exact ov_nilCheck (b := b) (o := 0) e480 (fun vals' hv _ => ⟨rfl, hv⟩)
   ·intro k481 vals w482 h485 h486 hW484 hA483
    have e487 := hA483 4 (by decide)
    refine obl rfl ?_
    exact fd73_0 e487 (fun vals' hv _ => ⟨rfl, hv⟩)
   ·intro k488 vals w489 h492 h493 hW491 hA490
    obtain rfl : k488 = 0 := Nat.le_antisymm h493 h492
    have hS494 : Sep G1 w ((Blk b224 (x136.cells vd137).toArray 36) :: (Blk b15 (e.cells de0).toArray 36) :: Rs) w489 := hW491
    have e495 := hA490 5 (by decide)
    refine obl rfl ?_
    exact ov_load1 (v := vv7) Try.isAgg34 e495 (blk_cellL (hS494.gblk hb10) rfl) (fun vals' hv _ => ⟨rfl, hv⟩)
   ·intro k496 vals w497 h500 h501 hW499 hA498
    refine obl rfl ?_
    exact fd36_0 rfl (fun vals' hv _ => ⟨rfl, hv⟩)
   ·intro k502 vals w503 h506 h507 hW505 hA504
    have e508 := hA504 7 (by decide)
    refine obl rfl ?_
    exact fd33_0 e508 (fun vals' hv _ => ⟨rfl, hv⟩)
   ·intro k509 vals w510 h513 h514 hW512 hA511
    obtain rfl : k509 = 0 := Nat.le_antisymm h514 h513
    have hS515 : Sep G1 w ((Blk b224 (x136.cells vd137).toArray 36) :: (Blk b15 (e.cells de0).toArray 36) :: Rs) w510 := hW512
    have e516 := hA511 8 (by decide)
    refine obl rfl ?_
    exact ov_load1 (v := .int .i64 (e.origin)) Try.isAgg3 e516 (blk_cellL (hS515.blk (i := 1) rfl) rfl) (fun vals' hv _ => ⟨rfl, hv⟩)
   ·intro k517 vals w518 h521 h522 hW520 hA519
    obtain rfl : k517 = 0 := Nat.le_antisymm h522 h521
    have hS523 : Sep G1 w ((Blk b224 (x136.cells vd137).toArray 36) :: (Blk b15 (e.cells de0).toArray 36) :: Rs) w518 := hW520
    have e524 := hA519 6 (by decide)
    have e525 := hA519 9 (by decide)
    refine obl rfl ?_
    have hi526 : e.origin.toNat < (vecE n L).length := (by first | omega | (simp only [lens]; omega))
    exact ov_indexAddr (k := 1) (i := e.origin) Try.underlying34 Try.sizeOf3 e524 hv11.sl e525 ⟨by omega, by omega⟩ (fun vals' hv _ => ⟨rfl, hv⟩)
   ·intro k527 vals w528 h531 h532 hW530 hA529
    obtain rfl : k527 = 0 := Nat.le_antisymm h532 h531
    have hS533 : Sep G1 w ((Blk b224 (x136.cells vd137).toArray 36) :: (Blk b15 (e.cells de0).toArray 36) :: Rs) w528 := hW530
    have e534 := hA529 10 (by decide)
    refine obl rfl ?_
    have hi536 : e.origin.toNat < (vecE n L).length := (by first | omega | (simp only [lens]; omega))
    obtain ⟨hce535, hxe535⟩ := hv11.int hi536
    rw [← getD_at 0 hi536] at hce535 hxe535
    have hcw537 := hS533.cells hce535 (hv11.foot (ne_of_lt hi536))
    exact ov_load1 (v := .int .i64 (((vecE n L).getD e.origin.toNat 0))) Try.isAgg3 e534 (hcw537.get (j := 0) rfl) (fun vals' hv _ => ⟨rfl, hv⟩)
   ·intro k538 vals w539 h542 h543 hW541 hA540
    obtain rfl : k538 = 0 := Nat.le_antisymm h543 h542
    have hS544 : Sep G1 w ((Blk b224 (x136.cells vd137).toArray 36) :: (Blk b15 (e.cells de0).toArray 36) :: Rs) w539 := hW541
    have e545 := hA540 11 (by decide)
    refine obl rfl ?_
    have hr546 : InR (((vecE n L).getD e.origin.toNat 0) + 1) := by omega
    exact ov_add (r := ((vecE n L).getD e.origin.toNat 0) + 1) (k := .i64) (a := ((vecE n L).getD e.origin.toNat 0)) (b := 1) e545 rfl (wrap_in hr546) (fun vals' hv _ => ⟨rfl, hv⟩)
   ·intro k547 vals w548 h551 h552 hW550 hA549
    obtain rfl : k547 = 0 := Nat.le_antisymm h552 h551
    have hS553 : Sep G1 w ((Blk b224 (x136.cells vd137).toArray 36) :: (Blk b15 (e.cells de0).toArray 36) :: Rs) w548 := hW550
    have e554 := hA549 2 (by decide)
    have e555 := hA549 12 (by decide)
    refine obl rfl ?_
    exact ov_neq (k := .i64) (a := e.seq) (b := ((vecE n L).getD e.origin.toNat 0) + 1) e554 e555 (fun vals' hv _ => ⟨rfl, hv⟩)
   intro vals w556 hW557 hA558
   have hS559 : Sep G1 w ((Blk b224 (x136.cells vd137).toArray 36) :: (Blk b15 (e.cells de0).toArray 36) :: Rs) w556 := hW557
   have e560 := hA558 13 (by decide)
   refine st_env (kv := [(0, .pointer (some ⟨b, 0, none⟩)), (1, .agg (e.cells de0).toArray), (3, .pointer (some ⟨b15, 0, none⟩)), (4, .int .i64 (0)), (5, .int .i64 ((checkE e (((vecE n L).length : Nat) : Int)))), (16, .int .i64 ((checkE e (((vecE n L).length : Nat) : Int)))), (17, .bool false), (7, .bool false), (29, .bool false), (43, .bool (!decide (e.seq = (((vecE n L).getD e.origin.toNat 0) + 1))))]) ⟨rfl, rfl, rfl, rfl, rfl, rfl, rfl, rfl, rfl, (by exact e560), trivial⟩ (fun ρw556 => ?_)
   refine st_nil ?_
   cases hc561 : !decide (e.seq = (((vecE n L).getD e.origin.toNat 0) + 1))
   ·skip
    have hc561 := ndec_false hc561
    refine WP_cond_f rfl ?_
    refine WP_skip ?_
    refine WP_seq ?_
    refine WP_seq ?_
    refine WP_region0 (by kernel_rfl) (fun _ => ?_)
    refine st (ov_move (v := .pointer (some ⟨b, 0, none⟩)) rfl ?_)
    refine st (ov_nilCheck (b := b) (o := 0) rfl ?_)
    refine st (fd73_0 rfl ?_)
    refine st (ov_load1 (v := vv7) Try.isAgg34 rfl (blk_cellL (hS559.gblk hb10) rfl) ?_)
    refine st (ov_len (n := (vecE n L).length) Try.underlying34 rfl hv11.sl ?_)
    refine st (ov_move (v := .int .i64 (0)) rfl ?_)
    refine st_nil ?_
    refine WP_block ?_
    refine WP_loop (fun mq σ wq => ∃ (k : Nat) (ρ : Env), mq = (vecE n L).length - k ∧ σ = setAll ρ [(0, .pointer (some ⟨b, 0, none⟩)), (3, .pointer (some ⟨b15, 0, none⟩)), (48, .int .i64 (((vecE n L).length : Nat) : Int)), (49, .int .i64 ((k : Nat) : Int))] ∧ (k ≤ (vecE n L).length) ∧ (∀ i, i < k → knewE L e i = true) ∧ Sep G1 w ((Blk b224 (x136.cells vd137).toArray 36) :: (Blk b15 (e.cells de0).toArray 36) :: Rs) wq) ⟨0, _, rfl, setAll_self ⟨rfl, rfl, rfl, rfl, trivial⟩, Nat.zero_le _, (fun i h => absurd h (Nat.not_lt_zero i)), hS559⟩ ?_
    rintro m563 σ564 w562 ⟨k, ρl1, rfl, rfl, hkk, hm, hS565⟩
    refine WP_seq ?_
    refine WP_region0 (by kernel_rfl) (fun _ => ?_)
    refine st (ov_lss (k := .i64) (a := ((k : Nat) : Int)) (b := (((vecE n L).length : Nat) : Int)) rfl rfl ?_)
    refine st_nil ?_
    refine WP_seq ?_
    cases hc566 : decide (((k : Nat) : Int) < (((vecE n L).length : Nat) : Int))
    ·skip
     have hc566 := of_decide_eq_false hc566
     refine WP_cond_f rfl ?_
     refine WP_exit ?_
     refine blk_exit ?_
     refine WP_seq ?_
     have hS567 : Sep G W ((SetO b n L) :: (Blk b224 (x136.cells vd137).toArray 36) :: (Blk b15 (e.cells de0).toArray 36) :: Rs) w562 := hk6 _ _ hS565
     obtain ⟨vv568, m569, hS570⟩ := SetO.open hS567
     have hr571 := hS570.row (i := 1) rfl
     have hr571s : (vecE n L).length * 8 ≤ 140737488355328 := hr571.2
     have hS572 : Sep G W ((MapO enc2 EV m569 (getE L)) :: (Blk b #[vv568, .map (some m569), .int .i64 (topE L)] 73) :: (RowE (α := Int) own 3 vv568 (vecE n L)) :: (Blk b224 (x136.cells vd137).toArray 36) :: (Blk b15 (e.cells de0).toArray 36) :: Rs) w562 := hS570.sel 5 [2, 0, 1, 3, 4] (Nat.le_add_left _ _) rfl rfl
     have hS574 : Sep G W ((MapO1 enc2 EV zeroE m569 (getE L) (e.origin, e.seq) zeroE) :: (Blk b #[vv568, .map (some m569), .int .i64 (topE L)] 73) :: (RowE (α := Int) own 3 vv568 (vecE n L)) :: (Blk b224 (x136.cells vd137).toArray 36) :: (Blk b15 (e.cells de0).toArray 36) :: Rs) w562 := mapo_take hS572 (by simpa using hc337)
     refine WP_draw4 (WF [fun vals wq => Sep G W ((MapO1 enc2 EV zeroE m569 (getE L) (e.origin, e.seq) zeroE) :: (Blk b #[vv568, .map (some m569), .int .i64 (topE L)] 73) :: (RowE (α := Int) own 3 vv568 (vecE n L)) :: (Blk b224 (x136.cells vd137).toArray 36) :: (Blk b15 (e.cells de0).toArray 36) :: Rs) wq, fun vals wq => ∃ (v632 : Value), (vals 7 = (.agg (e.cells v632).toArray : Value)) ∧ Sep G W ((RowE (α := Int) own 3 v632 e.deps) :: (MapO1 enc2 EV zeroE m569 (getE L) (e.origin, e.seq) zeroE) :: (Blk b #[vv568, .map (some m569), .int .i64 (topE L)] 73) :: (RowE (α := Int) own 3 vv568 (vecE n L)) :: (Blk b224 (x136.cells vd137).toArray 36) :: (Blk b15 (e.cells de0).toArray 36) :: Rs) wq, fun vals wq => ∃ (v632 : Value), (vals 7 = (.agg (e.cells v632).toArray : Value)) ∧ Sep G W ((MapO enc2 EV m569 (updF (getE L) (e.origin, e.seq) e)) :: (Blk b #[vv568, .map (some m569), .int .i64 (topE L)] 73) :: (RowE (α := Int) own 3 vv568 (vecE n L)) :: (Blk b224 (x136.cells vd137).toArray 36) :: (Blk b15 (e.cells de0).toArray 36) :: Rs) wq]) (AF [Vl 0 (.pointer (some ⟨b, 0, none⟩)), Vl 1 (.pointer (some ⟨b, 0, none⟩)), Vl 2 (.pointer (some ⟨b, 1, none⟩)), Vl 3 (.map (some m569)), Vl 4 (.pointer (some ⟨b15, 0, none⟩)), Vl 5 (.agg #[.int .i64 (e.origin), .int .i64 (e.seq)]), Vl 6 (.agg (e.cells de0).toArray), fun _ => True, fun _ => True]) [[], [0], [0, 1], [0, 1, 2], [], [4], [], [6], [0, 1, 2, 3, 4, 5, 6, 7]] [7, 8] [(0, 1), (0, 1), (0, 1), (0, 1), (0, 1), (0, 1), (0, 0), (0, 0), (1, 1)] (by kernel_rfl) (by kernel_rfl) (by kernel_rfl) rfl (by kernel_rfl) (by kernel_rfl) (fun _ h1 h2 h3 h4 _ => hS574.same h1 h2 h3 h4) ?_ (AF_loc ⟨dA, dA, dA, dA, dA, dA, dA, dT, dT, trivial⟩) ⟨?_, ?_, ?_, ?_, ?_, ?_, ?_, ?_, ?_, trivial⟩ ?_
     ·intro k vals vals' w hv h
      have e : ∀ j ∈ ([7, 8] : List Nat), vals' j = vals j := hv
      match k, h with
      | 0, h => exact h
      | 1, h => exact (by simpa only [WF, List.getElem?_cons_zero, List.getElem?_cons_succ, e 7 (by decide)] using h)
      | 2, h => exact (by simpa only [WF, List.getElem?_cons_zero, List.getElem?_cons_succ, e 7 (by decide)] using h)
      | _ + 3, _ => trivial
     ·intro k650 vals w651 h654 h655 hW653 hA652
      refine obl rfl ?_
      exact ov_move (v := .pointer (some ⟨b, 0, none⟩)) rfl (fun vals' hv _ => ⟨rfl, hv⟩)
     ·intro k656 vals w657 h660 h661 hW659 hA658
      have e662 := hA658 0 (by decide)
      refine obl rfl ?_
      exact ov_nilCheck (b := b) (o := 0) e662 (fun vals' hv _ => ⟨rfl, hv⟩)
     ·intro k663 vals w664 h667 h668 hW666 hA665
      have e669 := hA665 1 (by decide)
      refine obl rfl ?_
      exact fd73_1 e669 (fun vals' hv _ => ⟨rfl, hv⟩)
     ·intro k670 vals w671 h674 h675 hW673 hA672
      have hkk : k670 = 0 ∨ k670 = 1 := by have h1 : 0 ≤ k670 := h674; have h2 : k670 ≤ 1 := h675; omega
      rcases hkk with rfl | rfl
      ·skip
       have hS676 : Sep G W ((MapO1 enc2 EV zeroE m569 (getE L) (e.origin, e.seq) zeroE) :: (Blk b #[vv568, .map (some m569), .int .i64 (topE L)] 73) :: (RowE (α := Int) own 3 vv568 (vecE n L)) :: (Blk b224 (x136.cells vd137).toArray 36) :: (Blk b15 (e.cells de0).toArray 36) :: Rs) w671 := hW673
       have e677 := hA672 2 (by decide)
       refine obl rfl ?_
       exact ov_load1 (v := .map (some m569)) Try.isAgg71 e677 (blk_cellL (hS676.blk (i := 1) rfl) rfl) (fun vals' hv _ => ⟨rfl, hv⟩)
      ·skip
       obtain ⟨v632, he636, hS678⟩ := hW673
       have e679 := hA672 2 (by decide)
       refine obl rfl ?_
       exact ov_load1 (v := .map (some m569)) Try.isAgg71 e679 (blk_cellL (hS678.blk (i := 2) rfl) rfl) (fun vals' hv _ => ⟨rfl, hv⟩)
     ·intro k680 vals w681 h684 h685 hW683 hA682
      refine obl rfl ?_
      exact fd36_0 rfl (fun vals' hv _ => ⟨rfl, hv⟩)
     ·intro k686 vals w687 h690 h691 hW689 hA688
      have hkk : k686 = 0 ∨ k686 = 1 := by have h1 : 0 ≤ k686 := h690; have h2 : k686 ≤ 1 := h691; omega
      rcases hkk with rfl | rfl
      ·skip
       have hS692 : Sep G W ((MapO1 enc2 EV zeroE m569 (getE L) (e.origin, e.seq) zeroE) :: (Blk b #[vv568, .map (some m569), .int .i64 (topE L)] 73) :: (RowE (α := Int) own 3 vv568 (vecE n L)) :: (Blk b224 (x136.cells vd137).toArray 36) :: (Blk b15 (e.cells de0).toArray 36) :: Rs) w687 := hW689
       have e693 := hA688 4 (by decide)
       refine obl rfl ?_
       exact ov_loadk (k := 2) (cs := [.int .i64 (e.origin), .int .i64 (e.seq)]) Try.isAgg33 Try.sizeOf33 rfl e693 (CellsAt.sub (CellsAt.all (hS692.blk (i := 4) rfl)) 0 (cs2 := [.int .i64 (e.origin), .int .i64 (e.seq)]) rfl) (fun vals' hv _ => ⟨rfl, hv⟩)
      ·skip
       obtain ⟨v632, he636, hS694⟩ := hW689
       have e695 := hA688 4 (by decide)
       refine obl rfl ?_
       exact ov_loadk (k := 2) (cs := [.int .i64 (e.origin), .int .i64 (e.seq)]) Try.isAgg33 Try.sizeOf33 rfl e695 (CellsAt.sub (CellsAt.all (hS694.blk (i := 5) rfl)) 0 (cs2 := [.int .i64 (e.origin), .int .i64 (e.seq)]) rfl) (fun vals' hv _ => ⟨rfl, hv⟩)
     ·intro k696 vals w697 h700 h701 hW699 hA698
      obtain rfl : k696 = 0 := Nat.le_antisymm h701 h700
      have hS702 : Sep G W ((MapO1 enc2 EV zeroE m569 (getE L) (e.origin, e.seq) zeroE) :: (Blk b #[vv568, .map (some m569), .int .i64 (topE L)] 73) :: (RowE (α := Int) own 3 vv568 (vecE n L)) :: (Blk b224 (x136.cells vd137).toArray 36) :: (Blk b15 (e.cells de0).toArray 36) :: Rs) w697 := hW699
      refine obl rfl ?_
      exact ov_loadk (k := 10) Try.isAgg36 Try.sizeOf36 rfl rfl (CellsAt.all (hS702.blk (i := 4) rfl)) (fun vals' hv _ => ⟨rfl, hv⟩)
     ·intro k624 vals w625 h628 h629 hW627 hA626
      obtain rfl : k624 = 0 := Nat.le_antisymm h629 h628
      have hS630 : Sep G W ((MapO1 enc2 EV zeroE m569 (getE L) (e.origin, e.seq) zeroE) :: (Blk b #[vv568, .map (some m569), .int .i64 (topE L)] 73) :: (RowE (α := Int) own 3 vv568 (vecE n L)) :: (Blk b224 (x136.cells vd137).toArray 36) :: (Blk b15 (e.cells de0).toArray 36) :: Rs) w625 := hW627
      have e631 := hA626 6 (by decide)
      refine obl rfl ?_
      refine (ov_call (f := 57) (vals := [.agg (e.cells de0).toArray]) (cap := []) (show _ = (.func (.func 57) #[] #[] : Value) from rfl) (mapL ⟨e631, trivial⟩) Try.call57 (D_copied (e := e) hde0 oe hS630) ?_)
      rintro _ w633 ⟨v632, rfl, hS634⟩
      have hr635 := hS634.row (i := 0) rfl
      have hr635s : e.deps.length * 8 ≤ 140737488355328 := hr635.2
      intro vals' hv hv'
      refine ⟨?_, trivial⟩
      show ∃ (v632 : Value), (vals' 7 = (.agg (e.cells v632).toArray : Value)) ∧ Sep G W ((RowE (α := Int) own 3 v632 e.deps) :: (MapO1 enc2 EV zeroE m569 (getE L) (e.origin, e.seq) zeroE) :: (Blk b #[vv568, .map (some m569), .int .i64 (topE L)] 73) :: (RowE (α := Int) own 3 vv568 (vecE n L)) :: (Blk b224 (x136.cells vd137).toArray 36) :: (Blk b15 (e.cells de0).toArray 36) :: Rs) w633
      exact ⟨v632, hv, hS634⟩
     ·intro k637 vals w638 h641 h642 hW640 hA639
      obtain rfl : k637 = 1 := Nat.le_antisymm h642 h641
      obtain ⟨v632, he636, hS643⟩ := hW640
      have e644 := hA639 3 (by decide)
      have e645 := hA639 5 (by decide)
      refine obl rfl ?_
      have hS647 : Sep G W ((EV (.agg (e.cells v632).toArray) e) :: (MapO1 enc2 EV zeroE m569 (getE L) (e.origin, e.seq) zeroE) :: (Blk b #[vv568, .map (some m569), .int .i64 (topE L)] 73) :: (RowE (α := Int) own 3 vv568 (vecE n L)) :: (Blk b224 (x136.cells vd137).toArray 36) :: (Blk b15 (e.cells de0).toArray 36) :: Rs) w638 := ev_new oe hS643
      have hS648 : Sep G W ((MapO1 enc2 EV zeroE m569 (getE L) (e.origin, e.seq) zeroE) :: (EV (.agg (e.cells v632).toArray) e) :: (Blk b #[vv568, .map (some m569), .int .i64 (topE L)] 73) :: (RowE (α := Int) own 3 vv568 (vecE n L)) :: (Blk b224 (x136.cells vd137).toArray 36) :: (Blk b15 (e.cells de0).toArray 36) :: Rs) w638 := hS647.sel 6 [1, 0, 2, 3, 4, 5] (Nat.le_add_left _ _) rfl rfl
      refine (ov_mapUpdateO (k := (e.origin, e.seq)) hS648 K2 Try.underlying71 e644 (show _ = (.agg #[.int .i64 (e.origin), .int .i64 (e.seq)] : Value) from e645) he636 ?_)
      intro w646 hS649
      have hS649t : Sep G W ((MapO enc2 EV m569 (updF (getE L) (e.origin, e.seq) e)) :: (Blk b #[vv568, .map (some m569), .int .i64 (topE L)] 73) :: (RowE (α := Int) own 3 vv568 (vecE n L)) :: (Blk b224 (x136.cells vd137).toArray 36) :: (Blk b15 (e.cells de0).toArray 36) :: Rs) w646 := hS649
      intro vals' hv hv'
      refine ⟨?_, trivial⟩
      show ∃ (v632 : Value), (vals' 7 = (.agg (e.cells v632).toArray : Value)) ∧ Sep G W ((MapO enc2 EV m569 (updF (getE L) (e.origin, e.seq) e)) :: (Blk b #[vv568, .map (some m569), .int .i64 (topE L)] 73) :: (RowE (α := Int) own 3 vv568 (vecE n L)) :: (Blk b224 (x136.cells vd137).toArray 36) :: (Blk b15 (e.cells de0).toArray 36) :: Rs) w646
      exact ⟨v632, (by rw [hv' 7 (by decide)]; exact he636), hS649t⟩
     intro vals w703 hW704 hA705
     obtain ⟨v632, he636, hS706⟩ := hW704
     refine st_env (kv := [(0, .pointer (some ⟨b, 0, none⟩)), (3, .pointer (some ⟨b15, 0, none⟩)), (48, .int .i64 (((vecE n L).length : Nat) : Int)), (49, .int .i64 ((k : Nat) : Int)), (50, .bool false)]) ⟨rfl, rfl, rfl, rfl, rfl, trivial⟩ (fun ρw703 => ?_)
     refine st_nil ?_
     refine WP_seq ?_
     refine WP_draw4 (WF [fun vals wq => Sep G W ((MapO enc2 EV m569 (updF (getE L) (e.origin, e.seq) e)) :: (Blk b #[vv568, .map (some m569), .int .i64 (topE L)] 73) :: (RowE (α := Int) own 3 vv568 (vecE n L)) :: (Blk b224 (x136.cells vd137).toArray 36) :: (Blk b15 (e.cells de0).toArray 36) :: Rs) wq, fun vals wq => Sep G W ((RowE (α := Int) own 3 vv568 ((vecE n L).set e.origin.toNat (((vecE n L).getD e.origin.toNat 0) + 1))) :: (MapO enc2 EV m569 (updF (getE L) (e.origin, e.seq) e)) :: (Blk b #[vv568, .map (some m569), .int .i64 (topE L)] 73) :: (Blk b224 (x136.cells vd137).toArray 36) :: (Blk b15 (e.cells de0).toArray 36) :: Rs) wq]) (AF [Vl 0 (.pointer (some ⟨b, 0, none⟩)), Vl 1 (.pointer (some ⟨b, 0, none⟩)), Vl 2 (.pointer (some ⟨b, 0, none⟩)), Vl 3 (vv568), Vl 4 (.pointer (some ⟨b15, 0, none⟩)), Vl 5 (.pointer (some ⟨b15, 0, none⟩)), Vl 6 (.int .i64 (e.origin)), Vl 7 (.pointer (some ⟨sb vv568, so vv568 + e.origin.toNat * 1, none⟩)), Vl 8 (.int .i64 (((vecE n L).getD e.origin.toNat 0))), Vl 9 (.int .i64 (((vecE n L).getD e.origin.toNat 0) + 1)), Vl 10 (.pointer (some ⟨sb vv568, so vv568 + e.origin.toNat * 1, none⟩)), fun _ => True]) [[], [0], [0, 1], [0, 1, 2], [], [4], [4, 5], [0, 1, 2, 3, 4, 5, 6], [0, 1, 2, 3, 4, 5, 6, 7], [0, 1, 2, 3, 4, 5, 6, 7, 8], [0, 1, 2, 3, 4, 5, 6, 7, 8, 9], [0, 1, 2, 3, 4, 5, 6, 7, 8, 9, 10]] [11] [(0, 0), (0, 0), (0, 0), (0, 0), (0, 0), (0, 0), (0, 0), (0, 0), (0, 0), (0, 0), (0, 0), (0, 0)] (by kernel_rfl) (by kernel_rfl) (by kernel_rfl) rfl (by kernel_rfl) (by kernel_rfl) (fun _ h1 h2 h3 h4 _ => hS706.same h1 h2 h3 h4) ?_ (AF_loc ⟨dA, dA, dA, dA, dA, dA, dA, dA, dA, dA, dA, dT, trivial⟩) ⟨?_, ?_, ?_, ?_, ?_, ?_, ?_, ?_, ?_, ?_, ?_, ?_, trivial⟩ ?_
     ·intro k vals vals' w hv h
      have e : ∀ j ∈ ([11] : List Nat), vals' j = vals j := hv
      match k, h with
      | 0, h => exact h
      | 1, h => exact h
      | _ + 2, _ => trivial
     ·intro k809 vals w810 h813 h814 hW812 hA811
      refine obl rfl ?_
      exact ov_move (v := .pointer (some ⟨b, 0, none⟩)) rfl (fun vals' hv _ => ⟨rfl, hv⟩)
     ·intro k815 vals w816 h819 h820 hW818 hA817
      have e821 := hA817 0 (by decide)
      refine obl rfl ?_
      exact ov_nilCheck (b := b) (o := 0) e821 (fun vals' hv _ => ⟨rfl, hv⟩)
     ·intro k822 vals w823 h826 h827 hW825 hA824
      have e828 := hA824 1 (by decide)
      refine obl rfl ?_
      exact fd73_0 e828 (fun vals' hv _ => ⟨rfl, hv⟩)
     ·intro k829 vals w830 h833 h834 hW832 hA831
      obtain rfl : k829 = 0 := Nat.le_antisymm h834 h833
      have hS835 : Sep G W ((MapO enc2 EV m569 (updF (getE L) (e.origin, e.seq) e)) :: (Blk b #[vv568, .map (some m569), .int .i64 (topE L)] 73) :: (RowE (α := Int) own 3 vv568 (vecE n L)) :: (Blk b224 (x136.cells vd137).toArray 36) :: (Blk b15 (e.cells de0).toArray 36) :: Rs) w830 := hW832
      have e836 := hA831 2 (by decide)
      refine obl rfl ?_
      exact ov_load1 (v := vv568) Try.isAgg34 e836 (blk_cellL (hS835.blk (i := 1) rfl) rfl) (fun vals' hv _ => ⟨rfl, hv⟩)
     ·intro k837 vals w838 h841 h842 hW840 hA839
      refine obl rfl ?_
      exact fd36_0 rfl (fun vals' hv _ => ⟨rfl, hv⟩)
     ·intro k843 vals w844 h847 h848 hW846 hA845
      have e849 := hA845 4 (by decide)
      refine obl rfl ?_
      exact fd33_0 e849 (fun vals' hv _ => ⟨rfl, hv⟩)
     ·intro k850 vals w851 h854 h855 hW853 hA852
      obtain rfl : k850 = 0 := Nat.le_antisymm h855 h854
      have hS856 : Sep G W ((MapO enc2 EV m569 (updF (getE L) (e.origin, e.seq) e)) :: (Blk b #[vv568, .map (some m569), .int .i64 (topE L)] 73) :: (RowE (α := Int) own 3 vv568 (vecE n L)) :: (Blk b224 (x136.cells vd137).toArray 36) :: (Blk b15 (e.cells de0).toArray 36) :: Rs) w851 := hW853
      have e857 := hA852 5 (by decide)
      refine obl rfl ?_
      exact ov_load1 (v := .int .i64 (e.origin)) Try.isAgg3 e857 (blk_cellL (hS856.blk (i := 4) rfl) rfl) (fun vals' hv _ => ⟨rfl, hv⟩)
     ·intro k858 vals w859 h862 h863 hW861 hA860
      obtain rfl : k858 = 0 := Nat.le_antisymm h863 h862
      have hS864 : Sep G W ((MapO enc2 EV m569 (updF (getE L) (e.origin, e.seq) e)) :: (Blk b #[vv568, .map (some m569), .int .i64 (topE L)] 73) :: (RowE (α := Int) own 3 vv568 (vecE n L)) :: (Blk b224 (x136.cells vd137).toArray 36) :: (Blk b15 (e.cells de0).toArray 36) :: Rs) w859 := hW861
      have e865 := hA860 3 (by decide)
      have e866 := hA860 6 (by decide)
      refine obl rfl ?_
      have hi867 : e.origin.toNat < (vecE n L).length := (by first | omega | (simp only [lens]; omega))
      exact ov_indexAddr (k := 1) (i := e.origin) Try.underlying34 Try.sizeOf3 e865 hr571.1 e866 ⟨by omega, by omega⟩ (fun vals' hv _ => ⟨rfl, hv⟩)
     ·intro k868 vals w869 h872 h873 hW871 hA870
      obtain rfl : k868 = 0 := Nat.le_antisymm h873 h872
      have hS874 : Sep G W ((MapO enc2 EV m569 (updF (getE L) (e.origin, e.seq) e)) :: (Blk b #[vv568, .map (some m569), .int .i64 (topE L)] 73) :: (RowE (α := Int) own 3 vv568 (vecE n L)) :: (Blk b224 (x136.cells vd137).toArray 36) :: (Blk b15 (e.cells de0).toArray 36) :: Rs) w869 := hW871
      have e875 := hA870 7 (by decide)
      refine obl rfl ?_
      have hi877 : e.origin.toNat < (vecE n L).length := (by first | omega | (simp only [lens]; omega))
      obtain ⟨_, _, hce876, rfl, hxe876⟩ := hS874.rowAt (i := 2) (j := e.origin.toNat) rfl hi877
      rw [← getD_at 0 hi877] at hce876 hxe876
      exact ov_load1 (v := .int .i64 (((vecE n L).getD e.origin.toNat 0))) Try.isAgg3 e875 (hce876.get (j := 0) rfl) (fun vals' hv _ => ⟨rfl, hv⟩)
     ·intro k878 vals w879 h882 h883 hW881 hA880
      obtain rfl : k878 = 0 := Nat.le_antisymm h883 h882
      have hS884 : Sep G W ((MapO enc2 EV m569 (updF (getE L) (e.origin, e.seq) e)) :: (Blk b #[vv568, .map (some m569), .int .i64 (topE L)] 73) :: (RowE (α := Int) own 3 vv568 (vecE n L)) :: (Blk b224 (x136.cells vd137).toArray 36) :: (Blk b15 (e.cells de0).toArray 36) :: Rs) w879 := hW881
      have e885 := hA880 8 (by decide)
      refine obl rfl ?_
      have hr886 : InR (((vecE n L).getD e.origin.toNat 0) + 1) := by omega
      exact ov_add (r := ((vecE n L).getD e.origin.toNat 0) + 1) (k := .i64) (a := ((vecE n L).getD e.origin.toNat 0)) (b := 1) e885 rfl (wrap_in hr886) (fun vals' hv _ => ⟨rfl, hv⟩)
     ·intro k887 vals w888 h891 h892 hW890 hA889
      obtain rfl : k887 = 0 := Nat.le_antisymm h892 h891
      have hS893 : Sep G W ((MapO enc2 EV m569 (updF (getE L) (e.origin, e.seq) e)) :: (Blk b #[vv568, .map (some m569), .int .i64 (topE L)] 73) :: (RowE (α := Int) own 3 vv568 (vecE n L)) :: (Blk b224 (x136.cells vd137).toArray 36) :: (Blk b15 (e.cells de0).toArray 36) :: Rs) w888 := hW890
      have e894 := hA889 3 (by decide)
      have e895 := hA889 6 (by decide)
      refine obl rfl ?_
      have hi896 : e.origin.toNat < (vecE n L).length := (by first | omega | (simp only [lens]; omega))
      exact ov_indexAddr (k := 1) (i := e.origin) Try.underlying34 Try.sizeOf3 e894 hr571.1 e895 ⟨by omega, by omega⟩ (fun vals' hv _ => ⟨rfl, hv⟩)
     ·intro k795 vals w796 h799 h800 hW798 hA797
      obtain rfl : k795 = 0 := Nat.le_antisymm h800 h799
      have hS801 : Sep G W ((MapO enc2 EV m569 (updF (getE L) (e.origin, e.seq) e)) :: (Blk b #[vv568, .map (some m569), .int .i64 (topE L)] 73) :: (RowE (α := Int) own 3 vv568 (vecE n L)) :: (Blk b224 (x136.cells vd137).toArray 36) :: (Blk b15 (e.cells de0).toArray 36) :: Rs) w796 := hW798
      have e802 := hA797 9 (by decide)
      have e803 := hA797 10 (by decide)
      refine obl rfl ?_
      have hS805 : Sep G W ((RowE (α := Int) own 3 vv568 (vecE n L)) :: (MapO enc2 EV m569 (updF (getE L) (e.origin, e.seq) e)) :: (Blk b #[vv568, .map (some m569), .int .i64 (topE L)] 73) :: (Blk b224 (x136.cells vd137).toArray 36) :: (Blk b15 (e.cells de0).toArray 36) :: Rs) w796 := hS801.sel 5 [2, 0, 1, 3, 4] (Nat.le_add_left _ _) rfl rfl
      have hS806 : Sep G W ((RowE (α := Int) own 3 vv568 (vecE n L)) :: Emp :: (MapO enc2 EV m569 (updF (getE L) (e.origin, e.seq) e)) :: (Blk b #[vv568, .map (some m569), .int .i64 (topE L)] 73) :: (Blk b224 (x136.cells vd137).toArray 36) :: (Blk b15 (e.cells de0).toArray 36) :: Rs) w796 := hS805.emp1
      refine (ov_storeS (α := Int) (j := e.origin.toNat) (o := 0) (u := .int .i64 (((vecE n L).getD e.origin.toNat 0) + 1)) (us := [.int .i64 (((vecE n L).getD e.origin.toNat 0) + 1)]) (x1 := ((vecE n L).getD e.origin.toNat 0) + 1) hS806 Try.sizeOf3 (by first | omega | (simp only [lens]; omega)) e803 e802 rfl (Nat.le_of_ble_eq_true rfl) (all1 ⟨rfl, trivial⟩) (fun _ _ cs0 hel _ => (by have hl0 := Src.len _ hel; have e0 : cs0.take 0 ++ (([.int .i64 (((vecE n L).getD e.origin.toNat 0) + 1)] : List Value)) ++ cs0.drop (0 + (([.int .i64 (((vecE n L).getD e.origin.toNat 0) + 1)] : List Value)).length) = (([.int .i64 (((vecE n L).getD e.origin.toNat 0) + 1)] : List Value)) := (by rw [List.drop_eq_nil_of_le (by rw [hl0]; exact Nat.le_of_ble_eq_true rfl)]; simp); rw [e0]; exact (show _ from ⟨rfl, (by omega)⟩))) ?_)
      intro w804 hS807
      have hr808 := hS807.row (i := 0) rfl
      have hr808s : ((vecE n L).set e.origin.toNat (((vecE n L).getD e.origin.toNat 0) + 1)).length * 8 ≤ 140737488355328 := hr808.2
      intro vals' hv hv'
      refine ⟨?_, trivial⟩
      show Sep G W ((RowE (α := Int) own 3 vv568 ((vecE n L).set e.origin.toNat (((vecE n L).getD e.origin.toNat 0) + 1))) :: (MapO enc2 EV m569 (updF (getE L) (e.origin, e.seq) e)) :: (Blk b #[vv568, .map (some m569), .int .i64 (topE L)] 73) :: (Blk b224 (x136.cells vd137).toArray 36) :: (Blk b15 (e.cells de0).toArray 36) :: Rs) w804
      exact hS807
     intro vals w897 hW898 hA899
     have hS900 : Sep G W ((RowE (α := Int) own 3 vv568 ((vecE n L).set e.origin.toNat (((vecE n L).getD e.origin.toNat 0) + 1))) :: (MapO enc2 EV m569 (updF (getE L) (e.origin, e.seq) e)) :: (Blk b #[vv568, .map (some m569), .int .i64 (topE L)] 73) :: (Blk b224 (x136.cells vd137).toArray 36) :: (Blk b15 (e.cells de0).toArray 36) :: Rs) w897 := hW898
     refine st_env (kv := [(0, .pointer (some ⟨b, 0, none⟩)), (3, .pointer (some ⟨b15, 0, none⟩)), (48, .int .i64 (((vecE n L).length : Nat) : Int)), (49, .int .i64 ((k : Nat) : Int)), (50, .bool false)]) ⟨rfl, rfl, rfl, rfl, rfl, trivial⟩ (fun ρw897 => ?_)
     refine st_nil ?_
     refine WP_seq ?_
     refine WP_draw4 (WF [fun vals wq => Sep G W ((RowE (α := Int) own 3 vv568 ((vecE n L).set e.origin.toNat (((vecE n L).getD e.origin.toNat 0) + 1))) :: (MapO enc2 EV m569 (updF (getE L) (e.origin, e.seq) e)) :: (Blk b #[vv568, .map (some m569), .int .i64 (topE L)] 73) :: (Blk b224 (x136.cells vd137).toArray 36) :: (Blk b15 (e.cells de0).toArray 36) :: Rs) wq, fun vals wq => Sep G W ((RowE (α := Int) own 3 vv568 ((vecE n L).set e.origin.toNat (((vecE n L).getD e.origin.toNat 0) + 1))) :: (MapO enc2 EV m569 (updF (getE L) (e.origin, e.seq) e)) :: (Blk b #[vv568, .map (some m569), .int .i64 (max (topE L) e.lam)] 73) :: (Blk b224 (x136.cells vd137).toArray 36) :: (Blk b15 (e.cells de0).toArray 36) :: Rs) wq]) (AF [Vl 0 (.pointer (some ⟨b, 0, none⟩)), Vl 1 (.pointer (some ⟨b, 0, none⟩)), Vl 2 (.pointer (some ⟨b, 0, none⟩)), Vl 3 (.pointer (some ⟨b, 2, none⟩)), Vl 4 (.int .i64 (topE L)), Vl 5 (.pointer (some ⟨b15, 2, none⟩)), Vl 6 (.int .i64 (e.lam)), Vl 7 (.int .i64 (max (topE L) e.lam)), Vl 8 (.pointer (some ⟨b, 0, none⟩)), Vl 9 (.pointer (some ⟨b, 2, none⟩)), fun _ => True]) [[], [], [1], [1, 2], [1, 2, 3], [], [5], [1, 2, 3, 4, 5, 6], [0, 1, 2, 3, 4, 5, 6, 7], [0, 1, 2, 3, 4, 5, 6, 7, 8], [0, 1, 2, 3, 4, 5, 6, 7, 8, 9]] [10] [(0, 0), (0, 0), (0, 0), (0, 0), (0, 0), (0, 0), (0, 0), (0, 0), (0, 0), (0, 0), (0, 0)] (by kernel_rfl) (by kernel_rfl) (by kernel_rfl) rfl (by kernel_rfl) (by kernel_rfl) (fun _ h1 h2 h3 h4 _ => hS900.same h1 h2 h3 h4) ?_ (AF_loc ⟨dA, dA, dA, dA, dA, dA, dA, dA, dA, dA, dT, trivial⟩) ⟨?_, ?_, ?_, ?_, ?_, ?_, ?_, ?_, ?_, ?_, ?_, trivial⟩ ?_
     ·intro k vals vals' w hv h
      have e : ∀ j ∈ ([10] : List Nat), vals' j = vals j := hv
      match k, h with
      | 0, h => exact h
      | 1, h => exact h
      | _ + 2, _ => trivial
     ·intro k984 vals w985 h988 h989 hW987 hA986
      refine obl rfl ?_
      exact ov_move (v := .pointer (some ⟨b, 0, none⟩)) rfl (fun vals' hv _ => ⟨rfl, hv⟩)
     ·intro k990 vals w991 h994 h995 hW993 hA992
      refine obl rfl ?_
      exact ov_move (v := .pointer (some ⟨b, 0, none⟩)) rfl (fun vals' hv _ => ⟨rfl, hv⟩)
     ·intro k996 vals w997 h1000 h1001 hW999 hA998
      have e1002 := hA998 1 (by decide)
      refine obl rfl ?_
      exact ov_nilCheck (b := b) (o := 0) e1002 (fun vals' hv _ => ⟨rfl, hv⟩)
     ·intro k1003 vals w1004 h1007 h1008 hW1006 hA1005
      have e1009 := hA1005 2 (by decide)
      refine obl rfl ?_
      exact fd73_2 e1009 (fun vals' hv _ => ⟨rfl, hv⟩)
     ·intro k1010 vals w1011 h1014 h1015 hW1013 hA1012
      obtain rfl : k1010 = 0 := Nat.le_antisymm h1015 h1014
      have hS1016 : Sep G W ((RowE (α := Int) own 3 vv568 ((vecE n L).set e.origin.toNat (((vecE n L).getD e.origin.toNat 0) + 1))) :: (MapO enc2 EV m569 (updF (getE L) (e.origin, e.seq) e)) :: (Blk b #[vv568, .map (some m569), .int .i64 (topE L)] 73) :: (Blk b224 (x136.cells vd137).toArray 36) :: (Blk b15 (e.cells de0).toArray 36) :: Rs) w1011 := hW1013
      have e1017 := hA1012 3 (by decide)
      refine obl rfl ?_
      exact ov_load1 (v := .int .i64 (topE L)) Try.isAgg3 e1017 (blk_cellL (hS1016.blk (i := 2) rfl) rfl) (fun vals' hv _ => ⟨rfl, hv⟩)
     ·intro k1018 vals w1019 h1022 h1023 hW1021 hA1020
      refine obl rfl ?_
      exact fd36_1 rfl (fun vals' hv _ => ⟨rfl, hv⟩)
     ·intro k1024 vals w1025 h1028 h1029 hW1027 hA1026
      obtain rfl : k1024 = 0 := Nat.le_antisymm h1029 h1028
      have hS1030 : Sep G W ((RowE (α := Int) own 3 vv568 ((vecE n L).set e.origin.toNat (((vecE n L).getD e.origin.toNat 0) + 1))) :: (MapO enc2 EV m569 (updF (getE L) (e.origin, e.seq) e)) :: (Blk b #[vv568, .map (some m569), .int .i64 (topE L)] 73) :: (Blk b224 (x136.cells vd137).toArray 36) :: (Blk b15 (e.cells de0).toArray 36) :: Rs) w1025 := hW1027
      have e1031 := hA1026 5 (by decide)
      refine obl rfl ?_
      exact ov_load1 (v := .int .i64 (e.lam)) Try.isAgg3 e1031 (blk_cellL (hS1030.blk (i := 4) rfl) rfl) (fun vals' hv _ => ⟨rfl, hv⟩)
     ·intro k1032 vals w1033 h1036 h1037 hW1035 hA1034
      obtain rfl : k1032 = 0 := Nat.le_antisymm h1037 h1036
      have hS1038 : Sep G W ((RowE (α := Int) own 3 vv568 ((vecE n L).set e.origin.toNat (((vecE n L).getD e.origin.toNat 0) + 1))) :: (MapO enc2 EV m569 (updF (getE L) (e.origin, e.seq) e)) :: (Blk b #[vv568, .map (some m569), .int .i64 (topE L)] 73) :: (Blk b224 (x136.cells vd137).toArray 36) :: (Blk b15 (e.cells de0).toArray 36) :: Rs) w1033 := hW1035
      have e1039 := hA1034 4 (by decide)
      have e1040 := hA1034 6 (by decide)
      refine obl rfl ?_
      exact ov_max (k := .i64) (a := topE L) (b := e.lam) e1039 e1040 (fun vals' hv _ => ⟨rfl, hv⟩)
     ·intro k1041 vals w1042 h1045 h1046 hW1044 hA1043
      have e1047 := hA1043 0 (by decide)
      refine obl rfl ?_
      exact ov_nilCheck (b := b) (o := 0) e1047 (fun vals' hv _ => ⟨rfl, hv⟩)
     ·intro k1048 vals w1049 h1052 h1053 hW1051 hA1050
      have e1054 := hA1050 8 (by decide)
      refine obl rfl ?_
      exact fd73_2 e1054 (fun vals' hv _ => ⟨rfl, hv⟩)
     ·intro k972 vals w973 h976 h977 hW975 hA974
      obtain rfl : k972 = 0 := Nat.le_antisymm h977 h976
      have hS978 : Sep G W ((RowE (α := Int) own 3 vv568 ((vecE n L).set e.origin.toNat (((vecE n L).getD e.origin.toNat 0) + 1))) :: (MapO enc2 EV m569 (updF (getE L) (e.origin, e.seq) e)) :: (Blk b #[vv568, .map (some m569), .int .i64 (topE L)] 73) :: (Blk b224 (x136.cells vd137).toArray 36) :: (Blk b15 (e.cells de0).toArray 36) :: Rs) w973 := hW975
      have e979 := hA974 7 (by decide)
      have e980 := hA974 9 (by decide)
      refine obl rfl ?_
      refine (ov_store1 (v := .int .i64 (max (topE L) e.lam)) (c := [vv568, .map (some m569), .int .i64 (topE L)]) (c' := [vv568, .map (some m569), .int .i64 (max (topE L) e.lam)]) Try.sizeOf3 e980 e979 (hS978.blk (i := 2) rfl) rfl rfl rfl ?_)
      intro w981 hp982
      have hS983 : Sep G W ((RowE (α := Int) own 3 vv568 ((vecE n L).set e.origin.toNat (((vecE n L).getD e.origin.toNat 0) + 1))) :: (MapO enc2 EV m569 (updF (getE L) (e.origin, e.seq) e)) :: (Blk b #[vv568, .map (some m569), .int .i64 (max (topE L) e.lam)] 73) :: (Blk b224 (x136.cells vd137).toArray 36) :: (Blk b15 (e.cells de0).toArray 36) :: Rs) w981 := hS978.put (i := 2) rfl hp982
      intro vals' hv hv'
      refine ⟨?_, trivial⟩
      show Sep G W ((RowE (α := Int) own 3 vv568 ((vecE n L).set e.origin.toNat (((vecE n L).getD e.origin.toNat 0) + 1))) :: (MapO enc2 EV m569 (updF (getE L) (e.origin, e.seq) e)) :: (Blk b #[vv568, .map (some m569), .int .i64 (max (topE L) e.lam)] 73) :: (Blk b224 (x136.cells vd137).toArray 36) :: (Blk b15 (e.cells de0).toArray 36) :: Rs) w981
      exact hS983
     intro vals w1055 hW1056 hA1057
     have hS1058 : Sep G W ((RowE (α := Int) own 3 vv568 ((vecE n L).set e.origin.toNat (((vecE n L).getD e.origin.toNat 0) + 1))) :: (MapO enc2 EV m569 (updF (getE L) (e.origin, e.seq) e)) :: (Blk b #[vv568, .map (some m569), .int .i64 (max (topE L) e.lam)] 73) :: (Blk b224 (x136.cells vd137).toArray 36) :: (Blk b15 (e.cells de0).toArray 36) :: Rs) w1055 := hW1056
     refine st_env (kv := [(0, .pointer (some ⟨b, 0, none⟩)), (3, .pointer (some ⟨b15, 0, none⟩)), (48, .int .i64 (((vecE n L).length : Nat) : Int)), (49, .int .i64 ((k : Nat) : Int)), (50, .bool false)]) ⟨rfl, rfl, rfl, rfl, rfl, trivial⟩ (fun ρw1055 => ?_)
     refine st_nil ?_
     refine WP_seq ?_
     refine WP_region0 (by kernel_rfl) (fun _ => ?_)
     refine st (ov_assign (v := .int .i64 (0)) rfl ?_)
     refine st_nil ?_
     refine WP_ret ?_
     refine fin1 Try.results21 (show _ = (.int .i64 (0) : Value) from rfl) ?_
     have hS1059 : Sep G W ((Blk b #[vv568, .map (some m569), .int .i64 (max (topE L) e.lam)] 73) :: (RowE (α := Int) own 3 vv568 ((vecE n L).set e.origin.toNat (((vecE n L).getD e.origin.toNat 0) + 1))) :: (MapO enc2 EV m569 (updF (getE L) (e.origin, e.seq) e)) :: (Blk b224 (x136.cells vd137).toArray 36) :: (Blk b15 (e.cells de0).toArray 36) :: Rs) w1055 := hS1058.sel 5 [2, 0, 1, 3, 4] (Nat.le_add_left _ _) rfl rfl
     have hS1060 : Sep G W ((SetO b n (insE e L)) :: (Blk b224 (x136.cells vd137).toArray 36) :: (Blk b15 (e.cells de0).toArray 36) :: Rs) w1055 := SetO.close hS1059 top_ins (by rw [hv9]; exact vec_ins ho9 ho9') (getE_ins (by simpa using hc337))
     have hS1061 : Sep G W ((SetO b n (insE e L)) :: Rs) w1055 := hS1060.sel 3 [0] (Nat.le_add_left _ _) rfl rfl
     refine ⟨(insE e L), ?_, ?_, hS1061⟩
     · rw [add_0 hc135 hc337 (by rw [hv9] at hc561; exact hc561) (fun i hi => hm i (by omega))]
     · rw [addL_yes (add_0 hc135 hc337 (by rw [hv9] at hc561; exact hc561) (fun i hi => hm i (by omega)))]
    ·skip
     have hc566 := of_decide_eq_true hc566
     refine WP_cond_t rfl ?_
     refine WP_skip ?_
     refine WP_seq ?_
     refine WP_block ?_
     refine WP_seq ?_
     refine WP_region0 (by kernel_rfl) (fun _ => ?_)
     refine st (ov_move (v := .int .i64 ((k : Nat) : Int)) rfl ?_)
     refine st (ov_assign (v := .int .i64 ((k : Nat) : Int)) rfl ?_)
     refine st_nil ?_
     refine WP_seq ?_
     refine WP_region0 (by kernel_rfl) (fun _ => ?_)
     refine st (ov_move (v := .pointer (some ⟨b, 0, none⟩)) rfl ?_)
     refine st (ov_loadk (k := 10) Try.isAgg36 Try.sizeOf36 rfl rfl (CellsAt.all (hS565.blk (i := 1) rfl)) ?_)
     refine st (ov_move (v := .int .i64 ((k : Nat) : Int)) rfl ?_)
     refine st (ov_call (f := 56) (vals := [.pointer (some ⟨b, 0, none⟩), .agg (e.cells de0).toArray, .int .i64 ((k : Nat) : Int)]) (cap := []) (show _ = (.func (.func 56) #[] #[] : Value) from rfl) rfl Try.call56 (D_knew (e := e) (o := k) hA3 (RdS.base hde0 hB4) oe (by first | omega | (refine ⟨?_, ?_⟩ <;> omega)) hS565 (hd9) (hlen)) ?_)
     rintro _ w1062 ⟨rfl, hS1063⟩
     refine st (ov_not (a := (knewE L e k)) rfl ?_)
     refine st_nil ?_
     cases hc1064 : !(knewE L e k)
     ·skip
      try simp only [bools] at hc1064
      refine WP_cond_f rfl ?_
      refine WP_skip ?_
      refine WP_region0 (by kernel_rfl) (fun _ => ?_)
      have hr1065 : InR ((k + 1 : Nat) : Int) := by first | omega | (simp only [lens]; omega)
      refine st (ov_add (r := ((k + 1 : Nat) : Int)) (k := .i64) (a := ((k : Nat) : Int)) (b := 1) rfl rfl (by rw [show (((k : Nat) : Int) + 1 : Int) = ((k + 1 : Nat) : Int) by first | omega | (simp only [lens]; omega)]; exact wrap_in hr1065) ?_)
      refine st (ov_move (v := .int .i64 ((k + 1 : Nat) : Int)) rfl ?_)
      refine st_nil ?_
      exact ⟨_, by omega, k + 1, _, rfl, setAll_self ⟨rfl, rfl, rfl, rfl, trivial⟩, by omega, (all_step hm (by simpa using hc1064)), hS1063⟩
     ·skip
      try simp only [bools] at hc1064
      refine WP_cond_t rfl ?_
      refine WP_seq ?_
      refine WP_region0 (by kernel_rfl) (fun _ => ?_)
      refine st (ov_assign (v := .int .i64 (9)) rfl ?_)
      refine st_nil ?_
      refine WP_ret ?_
      refine fin1 Try.results21 (show _ = (.int .i64 (9) : Value) from rfl) ?_
      have hS1066 : Sep G W ((SetO b n L) :: (Blk b224 (x136.cells vd137).toArray 36) :: (Blk b15 (e.cells de0).toArray 36) :: Rs) w1062 := hk6 _ _ hS1063
      have hS1067 : Sep G W ((SetO b n L) :: Rs) w1062 := hS1066.sel 3 [0] (Nat.le_add_left _ _) rfl rfl
      refine ⟨L, ?_, ?_, hS1067⟩
      · rw [add_k hc135 hc337 (by rw [hv9] at hc561; exact hc561) (k := k) (by omega) (by simpa using hc1064)]
      · rw [addL_no (by rw [add_k hc135 hc337 (by rw [hv9] at hc561; exact hc561) (k := k) (by omega) (by simpa using hc1064)]; decide)]
   ·skip
    have hc561 := ndec_true hc561
    refine WP_cond_t rfl ?_
    refine WP_seq ?_
    refine WP_region0 (by kernel_rfl) (fun _ => ?_)
    refine st (ov_assign (v := .int .i64 (9)) rfl ?_)
    refine st_nil ?_
    refine WP_ret ?_
    refine fin1 Try.results21 (show _ = (.int .i64 (9) : Value) from rfl) ?_
    have hS1068 : Sep G W ((SetO b n L) :: (Blk b224 (x136.cells vd137).toArray 36) :: (Blk b15 (e.cells de0).toArray 36) :: Rs) w556 := hk6 _ _ hS559
    have hS1069 : Sep G W ((SetO b n L) :: Rs) w556 := hS1068.sel 3 [0] (Nat.le_add_left _ _) rfl rfl
    refine ⟨L, ?_, ?_, hS1069⟩
    · rw [add_s hc135 hc337 (by rw [hv9] at hc561; exact hc561)]
    · rw [addL_no (by rw [add_s hc135 hc337 (by rw [hv9] at hc561; exact hc561)]; decide)]
  ·skip
   refine WP_cond_t rfl ?_
   refine WP_seq ?_
   refine WP_region0 (by kernel_rfl) (fun _ => ?_)
   refine st (ov_assign (v := .int .i64 (16)) rfl ?_)
   refine st_nil ?_
   refine WP_ret ?_
   refine fin1 Try.results21 (show _ = (.int .i64 (16) : Value) from rfl) ?_
   have hS1070 : Sep G W ((SetO b n L) :: (Blk b224 (x136.cells vd137).toArray 36) :: (Blk b15 (e.cells de0).toArray 36) :: Rs) w332 := hk6 _ _ hS335
   have hS1071 : Sep G W ((SetO b n L) :: Rs) w332 := hS1070.sel 3 [0] (Nat.le_add_left _ _) rfl rfl
   refine ⟨L, ?_, ?_, hS1071⟩
   · rw [add_t hc135 hc337]
   · rw [addL_no (by rw [add_t hc135 hc337]; decide)]
 ·skip
  have hc135 := ndec_true hc135
  refine WP_cond_t rfl ?_
  refine WP_seq ?_
  refine WP_region0 (by kernel_rfl) (fun _ => ?_)
  refine st (ov_move (v := .int .i64 ((checkE e (((vecE n L).length : Nat) : Int)))) rfl ?_)
  refine st (ov_assign (v := .int .i64 ((checkE e (((vecE n L).length : Nat) : Int)))) rfl ?_)
  refine st_nil ?_
  refine WP_ret ?_
  refine fin1 Try.results21 (show _ = (.int .i64 ((checkE e (((vecE n L).length : Nat) : Int))) : Value) from rfl) ?_
  have hS1072 : Sep G W ((SetO b n L) :: (Blk b15 (e.cells de0).toArray 36) :: Rs) w130 := hk6 _ _ hS133
  have hS1073 : Sep G W ((SetO b n L) :: Rs) w130 := hS1072.sel 2 [0] (Nat.le_add_left _ _) rfl rfl
  refine ⟨L, ?_, ?_, hS1073⟩
  · rw [hvl9] at *; rw [add_c hc135]
  · rw [hvl9] at *; rw [addL_no (by rw [add_c hc135]; exact hc135)]

end Go.Proofs.Ytgjgmojjeehieaa
