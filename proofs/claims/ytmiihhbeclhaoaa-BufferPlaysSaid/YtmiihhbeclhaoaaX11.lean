/- Texts of this claim, part 11. -/
import Derived.Test.YtmiihhbeclhaoaaX10
set_option linter.unusedSimpArgs false
set_option linter.unusedVariables false
set_option linter.unusedSectionVars false
section
/- Steps of the proofs of this seat: part R3. -/
set_option linter.unusedSimpArgs false
set_option linter.unusedVariables false
set_option maxRecDepth 8000
set_option maxHeartbeats 4000000
namespace Go.Proofs.Ytmiihhbeclhaoaa
open Go.Proofs Go.RowKit

def laidB (e : Ev) (L : List Ev) (k : Nat) : Bool := (L.take k).any (ltE e)
/-- The list as far as it is copied. -/
def listK (e : Ev) (L : List Ev) (k : Nat) : List Ev := if laidB e L k = true then insE e (L.take k) else L.take k
section
variable {e x : Ev} {A B L : List Ev} {k : Nat}
theorem insE_app : ∀ {A : List Ev}, A.any (ltE e) = true → insE e (A ++ B) = insE e A ++ B
  | x :: l, h => by
    simp only [List.cons_append, insE]
    by_cases hx : ltE e x = true
    · rw [if_pos hx, if_pos hx]; rfl
    · rw [if_neg hx, if_neg hx]
      rw [List.any_cons, Bool.or_eq_true] at h
      rw [insE_app (h.resolve_left hx)]; rfl
theorem insE_none : ∀ {A : List Ev}, A.any (ltE e) = false → insE e A = A ++ [e]
  | [], _ => rfl
  | x :: l, h => by
    rw [List.any_cons, Bool.or_eq_false_iff] at h
    simp only [insE]
    rw [if_neg (by rw [h.1]; decide), insE_none h.2]; rfl
theorem insE_snoc : ∀ {A : List Ev}, A.any (ltE e) = false → ltE e x = true → insE e (A ++ [x]) = A ++ [e] ++ [x]
  | [], _, hx => by show insE e [x] = _; simp only [insE]; rw [if_pos hx]; rfl
  | y :: l, h, hx => by
    rw [List.any_cons, Bool.or_eq_false_iff] at h
    simp only [List.cons_append, insE]
    rw [if_neg (by rw [h.1]; decide), insE_snoc h.2 hx]
theorem laidB_succ (hk : k < L.length) : laidB e L (k + 1) = (laidB e L k || ltE e (L.getD k default)) := by
  unfold laidB
  rw [take_snoc hk, List.any_append]; simp
theorem list_hit (hk : k < L.length) (h : ((!laidB e L k) && ltE e (L.getD k default)) = true) : listK e L (k + 1) = listK e L k ++ [e] ++ [L.getD k default] ∧ laidB e L (k + 1) = true := by
  rw [Bool.and_eq_true, Bool.not_eq_true'] at h
  have h2 : laidB e L (k + 1) = true := by rw [laidB_succ hk, h.2, Bool.or_true]
  refine ⟨?_, h2⟩
  unfold listK
  rw [if_pos h2, if_neg (by rw [h.1]; decide), take_snoc hk, insE_snoc h.1 h.2]
theorem list_pass (hk : k < L.length) (h : ((!laidB e L k) && ltE e (L.getD k default)) = false) : listK e L (k + 1) = listK e L k ++ [L.getD k default] ∧ laidB e L (k + 1) = laidB e L k := by
  have h2 : laidB e L (k + 1) = laidB e L k := by
    rw [laidB_succ hk]
    revert h; cases laidB e L k <;> simp
  refine ⟨?_, h2⟩
  unfold listK
  rw [h2]
  by_cases hb : laidB e L k = true
  · rw [if_pos hb, if_pos hb, take_snoc hk, insE_app hb]
  · rw [if_neg hb, if_neg hb, take_snoc hk]
theorem listK_len : (listK e L k).length ≤ k + 1 := by
  unfold listK
  split
  · rw [insE_len, List.length_take]; omega
  · rw [List.length_take]; omega
theorem list_end (hk : k = L.length) (h : laidB e L k = true) : listK e L k = insE e L := by
  unfold listK
  rw [if_pos h, hk, List.take_length]
theorem list_last (hk : k = L.length) (h : laidB e L k = false) : listK e L k ++ [e] = insE e L := by
  unfold listK
  unfold laidB at h
  unfold laidB
  rw [if_neg (by rw [h]; decide), insE_none (A := L) (by rw [hk, List.take_length] at h; exact h), hk, List.take_length]
theorem alt_in {F : Nat → Prop} {W w : World} {f : Nat → Prop} {cs : List Value} (h : Rep.rd W F cs x) : ((alt F W).el cs x).p w f := Or.inr h
end
theorem alt_own {x : Ev} {F : Nat → Prop} {W w : World} {f : Nat → Prop} {v : Value} (h : (RowE (α := Int) own 3 v x.deps).p w f) (ho : x.Ok) : ((alt F W).el (x.cells v) x).p w f := Or.inl ⟨_, rfl, RowE.soft h, ho⟩
theorem D_rAdd {G : Nat → Prop} {W w : World} {Rs : List HP} {b : Nat} {n : Nat} {L : List Ev} {e : Ev} {de0 : Value} (hde0 : RdS W G de0 e.deps) (oe : e.Ok) (hS0 : Sep G W ((RefS b n L) :: Rs) w) (hG : Good n L) (hn : n ≤ 1000) (hL : L.length ≤ 1000000) : Ret Try.prog 22 [.pointer (some ⟨b, 0, none⟩), .agg (e.cells de0).toArray] w (fun r w' => ∃ (L1 : List Ev), r = (.int .i64 ((addE n L e)) : Value) ∧ (L1 = addL n L e) ∧ Sep G W ((RefS b n L1) :: Rs) w') := by
 have hde0s : e.deps.length * 8 ≤ 140737488355328 := hde0.small
 refine Calls_of_WP (args := [.pointer (some ⟨b, 0, none⟩), .agg (e.cells de0).toArray]) Try.func22 rfl rfl ?_
 refine WP_seq ?_
 obtain ⟨G1, hA3, hB4, hS5, hk6⟩ := hS0.lend
 obtain ⟨vl7, hb8, hl9⟩ := RefS.sh hA3
 have hsm10 : L.length * 96 ≤ 140737488355328 := hl9.small
 have hvl9 : (vecE n L).length = n := vecE_len
 refine WP_region0 (by kernel_rfl) (fun _ => ?_)
 refine st (ov_box (v := .agg (e.cells de0).toArray) rfl ?_)
 intro w13 b12 hn11
 have hS14 : Sep G1 w ((Blk b12 (e.cells de0).toArray 36) :: Rs) w13 := hS5.new hn11
 refine st (ov_assign (v := .int .i64 (0)) rfl ?_)
 refine st_nil ?_
 refine WP_seq ?_
 refine WP_draw4 (WF [fun vals wq => Sep G1 w ((Blk b12 (e.cells de0).toArray 36) :: Rs) wq, fun vals wq => (vals 5 = (.int .i64 ((checkE e ((n : Nat) : Int))) : Value)) ∧ Sep G1 w ((Blk b12 (e.cells de0).toArray 36) :: Rs) wq]) (AF [Vl 0 (.agg (e.cells de0).toArray), Vl 1 (.pointer (some ⟨b, 0, none⟩)), Vl 2 (.pointer (some ⟨b, 0, none⟩)), Vl 3 (.pointer (some ⟨b, 0, none⟩)), Vl 4 (.int .i64 ((n : Nat) : Int)), fun _ => True, Vl 6 (.int .i64 ((checkE e ((n : Nat) : Int))))]) [[], [], [1], [1, 2], [1, 2, 3], [0, 1, 2, 3, 4], [0, 1, 2, 3, 4, 5]] [5] [(0, 0), (0, 0), (0, 0), (0, 0), (0, 0), (0, 0), (1, 1)] (by kernel_rfl) (by kernel_rfl) (by kernel_rfl) rfl (by kernel_rfl) (by kernel_rfl) (fun _ h1 h2 h3 h4 _ => hS14.same h1 h2 h3 h4) ?_ (AF_loc ⟨dA, dA, dA, dA, dA, dT, dA, trivial⟩) ⟨?_, ?_, ?_, ?_, ?_, ?_, ?_, trivial⟩ ?_
 ·intro k vals vals' w hv h
  have e : ∀ j ∈ ([5] : List Nat), vals' j = vals j := hv
  match k, h with
  | 0, h => exact h
  | 1, h => exact (by simpa only [WF, List.getElem?_cons_zero, List.getElem?_cons_succ, e 5 (by decide)] using h)
  | _ + 2, _ => trivial
 ·intro k69 vals w70 h73 h74 hW72 hA71
  obtain rfl : k69 = 0 := Nat.le_antisymm h74 h73
  have hS75 : Sep G1 w ((Blk b12 (e.cells de0).toArray 36) :: Rs) w70 := hW72
  refine obl rfl ?_
  exact ov_loadk (k := 10) Try.isAgg36 Try.sizeOf36 rfl rfl (CellsAt.all (hS75.blk (i := 0) rfl)) (fun vals' hv _ => ⟨rfl, hv⟩)
 ·intro k76 vals w77 h80 h81 hW79 hA78
  refine obl rfl ?_
  exact ov_move (v := .pointer (some ⟨b, 0, none⟩)) rfl (fun vals' hv _ => ⟨rfl, hv⟩)
 ·intro k82 vals w83 h86 h87 hW85 hA84
  have e88 := hA84 1 (by decide)
  refine obl rfl ?_
  exact ov_nilCheck (b := b) (o := 0) e88 (fun vals' hv _ => ⟨rfl, hv⟩)
 ·intro k89 vals w90 h93 h94 hW92 hA91
  have e95 := hA91 2 (by decide)
  refine obl rfl ?_
  exact fd78_0 e95 (fun vals' hv _ => ⟨rfl, hv⟩)
 ·intro k96 vals w97 h100 h101 hW99 hA98
  obtain rfl : k96 = 0 := Nat.le_antisymm h101 h100
  have hS102 : Sep G1 w ((Blk b12 (e.cells de0).toArray 36) :: Rs) w97 := hW99
  have e103 := hA98 3 (by decide)
  refine obl rfl ?_
  exact ov_load1 (v := .int .i64 ((n : Nat) : Int)) Try.isAgg3 e103 (blk_cellL (hS102.gblk hb8) rfl) (fun vals' hv _ => ⟨rfl, hv⟩)
 ·intro k50 vals w51 h54 h55 hW53 hA52
  obtain rfl : k50 = 0 := Nat.le_antisymm h55 h54
  have hS56 : Sep G1 w ((Blk b12 (e.cells de0).toArray 36) :: Rs) w51 := hW53
  have e57 := hA52 0 (by decide)
  have e58 := hA52 4 (by decide)
  refine obl rfl ?_
  refine (ov_call (f := 52) (vals := [.agg (e.cells de0).toArray, .int .i64 ((n : Nat) : Int)]) (cap := []) (show _ = (.func (.func 52) #[] #[] : Value) from rfl) (mapL ⟨e57, e58, trivial⟩) Try.call52 (D_rCheck (e := e) (n := n) (RdS.base hde0 hB4) oe (by first | omega | (refine ⟨?_, ?_⟩ <;> omega)) hS56) ?_)
  rintro _ w59 ⟨rfl, hS60⟩
  intro vals' hv hv'
  refine ⟨?_, trivial⟩
  show (vals' 5 = (.int .i64 ((checkE e ((n : Nat) : Int))) : Value)) ∧ Sep G1 w ((Blk b12 (e.cells de0).toArray 36) :: Rs) w59
  exact ⟨hv, hS60⟩
 ·intro k104 vals w105 h108 h109 hW107 hA106
  obtain rfl : k104 = 1 := Nat.le_antisymm h109 h108
  obtain ⟨he61, hS110⟩ := hW107
  refine obl rfl ?_
  exact ov_assign (v := .int .i64 ((checkE e ((n : Nat) : Int)))) he61 (fun vals' hv _ => ⟨rfl, hv⟩)
 intro vals w111 hW112 hA113
 obtain ⟨he61, hS114⟩ := hW112
 have e115 := hA113 6 (by decide)
 refine st_env (kv := [(0, .pointer (some ⟨b, 0, none⟩)), (1, .agg (e.cells de0).toArray), (3, .pointer (some ⟨b12, 0, none⟩)), (4, .int .i64 (0)), (5, .int .i64 ((checkE e ((n : Nat) : Int))))]) ⟨rfl, rfl, rfl, rfl, (by exact e115), trivial⟩ (fun ρw111 => ?_)
 refine st_nil ?_
 refine WP_seq ?_
 refine WP_seq ?_
 refine WP_region0 (by kernel_rfl) (fun _ => ?_)
 refine st (ov_move (v := .int .i64 ((checkE e ((n : Nat) : Int)))) rfl ?_)
 refine st (ov_neq (k := .i64) (a := (checkE e ((n : Nat) : Int))) (b := 0) rfl rfl ?_)
 refine st_nil ?_
 cases hc116 : !decide ((checkE e ((n : Nat) : Int)) = 0)
 ·skip
  have hc116r := hc116
  have hc116 := ndec_false hc116
  obtain ⟨⟨ho9, ho9'⟩, ⟨hs9, hl9⟩, hd9, hq9⟩ := check_ok hc116
  have hv9 : (vecE n L).getD e.origin.toNat 0 = ((cntE L e.origin.toNat : Nat) : Int) := vecE_at (by omega)
  have hcl9 := cntE_le (L := L) (o := e.origin.toNat)
  refine WP_cond_f rfl ?_
  refine WP_skip ?_
  refine WP_seq ?_
  refine WP_region0 (by kernel_rfl) (fun _ => ?_)
  refine st (ov_move (v := .pointer (some ⟨b, 0, none⟩)) rfl ?_)
  refine st (fd36_0 rfl ?_)
  refine st (ov_loadk (k := 2) (cs := [.int .i64 (e.origin), .int .i64 (e.seq)]) Try.isAgg33 Try.sizeOf33 rfl rfl (CellsAt.sub (CellsAt.all (hS114.blk (i := 0) rfl)) 0 (cs2 := [.int .i64 (e.origin), .int .i64 (e.seq)]) rfl) ?_)
  refine st (ov_call (f := 53) (vals := [.pointer (some ⟨b, 0, none⟩), .agg #[.int .i64 (e.origin), .int .i64 (e.seq)]]) (cap := []) (show _ = (.func (.func 53) #[] #[] : Value) from rfl) rfl Try.call53 (D_rGet  hA3 oe.origin oe.seq hS114) ?_)
  rintro _ w119 ⟨v117, rfl, hgo118, hS120⟩
  have hr121 := hS120.row (i := 0) rfl
  have hr121s : (((getE L (e.origin, e.seq)).getD default).deps).length * 8 ≤ 140737488355328 := hr121.2
  refine st (ov_move (v := .tuple #[.agg (((getE L (e.origin, e.seq)).getD default).cells v117).toArray, .bool (getE L (e.origin, e.seq)).isSome]) rfl ?_)
  refine st (ov_extract (vs := [.agg (((getE L (e.origin, e.seq)).getD default).cells v117).toArray, .bool ((getE L (e.origin, e.seq)).isSome)]) (i := 0) (v := .agg (((getE L (e.origin, e.seq)).getD default).cells v117).toArray) rfl rfl ?_)
  refine st (ov_extract (vs := [.agg (((getE L (e.origin, e.seq)).getD default).cells v117).toArray, .bool ((getE L (e.origin, e.seq)).isSome)]) (i := 1) (v := .bool ((getE L (e.origin, e.seq)).isSome)) rfl rfl ?_)
  refine st (ov_alloc Try.zeroValue36 ?_)
  intro w124 b123 hn122
  have hS125 : Sep G1 w ((Blk b123 #[.int .i64 (0), .int .i64 (0), .int .i64 (0), (.slice none 0 0), .int .i64 (0), .int .i64 (0), .int .i64 (0), .int .i64 (0), .int .i64 (0), .int .i64 (0)] 36) :: (RowE (α := Int) own 3 v117 (((getE L (e.origin, e.seq)).getD default).deps)) :: (Blk b12 (e.cells de0).toArray 36) :: Rs) w124 := hS120.new hn122
  refine stn (ov_store (v := .agg (((getE L (e.origin, e.seq)).getD default).cells v117).toArray) (c' := (((getE L (e.origin, e.seq)).getD default).cells v117).toArray) Try.sizeOf36 rfl rfl (hS125.blk (i := 0) rfl) (all1 ⟨rfl, rfl, rfl, hr121.1.one, rfl, rfl, rfl, rfl, rfl, rfl, trivial⟩) (Nat.le_of_ble_eq_true rfl) rfl ?_)
  intro w126 hp127
  have hS128 : Sep G1 w ((Blk b123 (((getE L (e.origin, e.seq)).getD default).cells v117).toArray 36) :: (RowE (α := Int) own 3 v117 (((getE L (e.origin, e.seq)).getD default).deps)) :: (Blk b12 (e.cells de0).toArray 36) :: Rs) w126 := hS125.put (i := 0) rfl hp127
  refine st (ov_assign (v := .bool ((getE L (e.origin, e.seq)).isSome)) rfl ?_)
  refine st_nil ?_
  refine WP_seq ?_
  refine WP_seq ?_
  refine WP_region0 (by kernel_rfl) (fun _ => ?_)
  refine st (ov_move (v := .bool ((getE L (e.origin, e.seq)).isSome)) rfl ?_)
  refine st_nil ?_
  cases hc129 : (getE L (e.origin, e.seq)).isSome
  ·skip
   have hc129r := hc129
   refine WP_cond_f rfl ?_
   refine WP_skip ?_
   refine WP_seq ?_
   refine WP_seq ?_
   refine WP_draw4 (WF [fun vals wq => Sep G1 w ((Blk b123 (((getE L (e.origin, e.seq)).getD default).cells v117).toArray 36) :: (RowE (α := Int) own 3 v117 (((getE L (e.origin, e.seq)).getD default).deps)) :: (Blk b12 (e.cells de0).toArray 36) :: Rs) wq, fun vals wq => ∃ (v165 : Value), (vals 4 = (v165 : Value)) ∧ Sep G1 w ((RowE (α := Int) own 3 v165 (vecE n L)) :: (Blk b123 (((getE L (e.origin, e.seq)).getD default).cells v117).toArray 36) :: (RowE (α := Int) own 3 v117 (((getE L (e.origin, e.seq)).getD default).deps)) :: (Blk b12 (e.cells de0).toArray 36) :: Rs) wq]) (AF [Vl 0 (.pointer (some ⟨b12, 0, none⟩)), Vl 1 (.pointer (some ⟨b12, 1, none⟩)), Vl 2 (.int .i64 (e.seq)), Vl 3 (.pointer (some ⟨b, 0, none⟩)), fun _ => True, Vl 5 (.pointer (some ⟨b12, 0, none⟩)), Vl 6 (.pointer (some ⟨b12, 0, none⟩)), Vl 7 (.int .i64 (e.origin)), fun vals => ∀ (v165 : Value), vals 4 = (v165 : Value) → vals 8 = (.pointer (some ⟨sb v165, so v165 + e.origin.toNat * 1, none⟩) : Value), Vl 9 (.int .i64 (((vecE n L).getD e.origin.toNat 0))), Vl 10 (.int .i64 (((vecE n L).getD e.origin.toNat 0) + 1)), Vl 11 (.bool (!decide (e.seq = (((vecE n L).getD e.origin.toNat 0) + 1))))]) [[], [0], [0, 1], [], [3], [], [5], [5, 6], [3, 4, 5, 6, 7], [3, 4, 5, 6, 7, 8], [3, 4, 5, 6, 7, 8, 9], [0, 1, 2, 3, 4, 5, 6, 7, 8, 9, 10]] [4] [(0, 1), (0, 1), (0, 1), (0, 0), (0, 0), (0, 1), (0, 1), (0, 1), (1, 1), (1, 1), (1, 1), (1, 1)] (by kernel_rfl) (by kernel_rfl) (by kernel_rfl) rfl (by kernel_rfl) (by kernel_rfl) (fun _ h1 h2 h3 h4 _ => hS128.same h1 h2 h3 h4) ?_ (AF_loc ⟨dA, dA, dA, dA, dT, dA, dA, dA, fun vals vals' hv h => fun v165 hq0 => (hv 8 (.inl rfl)).trans (h v165 ((hv 4 (.inr (by decide))).symm.trans hq0)), dA, dA, dA, trivial⟩) ⟨?_, ?_, ?_, ?_, ?_, ?_, ?_, ?_, ?_, ?_, ?_, ?_, trivial⟩ ?_
   ·intro k vals vals' w hv h
    have e : ∀ j ∈ ([4] : List Nat), vals' j = vals j := hv
    match k, h with
    | 0, h => exact h
    | 1, h => exact (by simpa only [WF, List.getElem?_cons_zero, List.getElem?_cons_succ, e 4 (by decide)] using h)
    | _ + 2, _ => trivial
   ·intro k229 vals w230 h233 h234 hW232 hA231
    refine obl rfl ?_
    exact fd36_0 rfl (fun vals' hv _ => ⟨rfl, hv⟩)
   ·intro k235 vals w236 h239 h240 hW238 hA237
    have e241 := hA237 0 (by decide)
    refine obl rfl ?_
    exact fd33_1 e241 (fun vals' hv _ => ⟨rfl, hv⟩)
   ·intro k242 vals w243 h246 h247 hW245 hA244
    have hkk : k242 = 0 ∨ k242 = 1 := by have h1 : 0 ≤ k242 := h246; have h2 : k242 ≤ 1 := h247; omega
    rcases hkk with rfl | rfl
    ·skip
     have hS248 : Sep G1 w ((Blk b123 (((getE L (e.origin, e.seq)).getD default).cells v117).toArray 36) :: (RowE (α := Int) own 3 v117 (((getE L (e.origin, e.seq)).getD default).deps)) :: (Blk b12 (e.cells de0).toArray 36) :: Rs) w243 := hW245
     have e249 := hA244 1 (by decide)
     refine obl rfl ?_
     exact ov_load1 (v := .int .i64 (e.seq)) Try.isAgg3 e249 (blk_cellL (hS248.blk (i := 2) rfl) rfl) (fun vals' hv _ => ⟨rfl, hv⟩)
    ·skip
     obtain ⟨v165, he169, hS250⟩ := hW245
     have e251 := hA244 1 (by decide)
     refine obl rfl ?_
     exact ov_load1 (v := .int .i64 (e.seq)) Try.isAgg3 e251 (blk_cellL (hS250.blk (i := 3) rfl) rfl) (fun vals' hv _ => ⟨rfl, hv⟩)
   ·intro k252 vals w253 h256 h257 hW255 hA254
    refine obl rfl ?_
    exact ov_move (v := .pointer (some ⟨b, 0, none⟩)) rfl (fun vals' hv _ => ⟨rfl, hv⟩)
   ·intro k157 vals w158 h161 h162 hW160 hA159
    obtain rfl : k157 = 0 := Nat.le_antisymm h162 h161
    have hS163 : Sep G1 w ((Blk b123 (((getE L (e.origin, e.seq)).getD default).cells v117).toArray 36) :: (RowE (α := Int) own 3 v117 (((getE L (e.origin, e.seq)).getD default).deps)) :: (Blk b12 (e.cells de0).toArray 36) :: Rs) w158 := hW160
    have e164 := hA159 3 (by decide)
    refine obl rfl ?_
    refine (ov_call (f := 54) (vals := [.pointer (some ⟨b, 0, none⟩)]) (cap := []) (show _ = (.func (.func 54) #[] #[] : Value) from rfl) (mapL ⟨e164, trivial⟩) Try.call54 (D_rVec  hA3 hS163 (hG) (by first | omega | (simp only [lens]; omega))) ?_)
    rintro v165 w166 ⟨_, rfl, hS167⟩
    have hr168 := hS167.row (i := 0) rfl
    have hr168s : (vecE n L).length * 8 ≤ 140737488355328 := hr168.2
    intro vals' hv hv'
    refine ⟨?_, trivial⟩
    show ∃ (v165 : Value), (vals' 4 = (v165 : Value)) ∧ Sep G1 w ((RowE (α := Int) own 3 v165 (vecE n L)) :: (Blk b123 (((getE L (e.origin, e.seq)).getD default).cells v117).toArray 36) :: (RowE (α := Int) own 3 v117 (((getE L (e.origin, e.seq)).getD default).deps)) :: (Blk b12 (e.cells de0).toArray 36) :: Rs) w166
    exact ⟨v165, hv, hS167⟩
   ·intro k258 vals w259 h262 h263 hW261 hA260
    refine obl rfl ?_
    exact fd36_0 rfl (fun vals' hv _ => ⟨rfl, hv⟩)
   ·intro k264 vals w265 h268 h269 hW267 hA266
    have e270 := hA266 5 (by decide)
    refine obl rfl ?_
    exact fd33_0 e270 (fun vals' hv _ => ⟨rfl, hv⟩)
   ·intro k271 vals w272 h275 h276 hW274 hA273
    have hkk : k271 = 0 ∨ k271 = 1 := by have h1 : 0 ≤ k271 := h275; have h2 : k271 ≤ 1 := h276; omega
    rcases hkk with rfl | rfl
    ·skip
     have hS277 : Sep G1 w ((Blk b123 (((getE L (e.origin, e.seq)).getD default).cells v117).toArray 36) :: (RowE (α := Int) own 3 v117 (((getE L (e.origin, e.seq)).getD default).deps)) :: (Blk b12 (e.cells de0).toArray 36) :: Rs) w272 := hW274
     have e278 := hA273 6 (by decide)
     refine obl rfl ?_
     exact ov_load1 (v := .int .i64 (e.origin)) Try.isAgg3 e278 (blk_cellL (hS277.blk (i := 2) rfl) rfl) (fun vals' hv _ => ⟨rfl, hv⟩)
    ·skip
     obtain ⟨v165, he169, hS279⟩ := hW274
     have e280 := hA273 6 (by decide)
     refine obl rfl ?_
     exact ov_load1 (v := .int .i64 (e.origin)) Try.isAgg3 e280 (blk_cellL (hS279.blk (i := 3) rfl) rfl) (fun vals' hv _ => ⟨rfl, hv⟩)
   ·intro k281 vals w282 h285 h286 hW284 hA283
    obtain rfl : k281 = 1 := Nat.le_antisymm h286 h285
    obtain ⟨v165, he169, hS287⟩ := hW284
    have e288 := hA283 7 (by decide)
    refine obl rfl ?_
    have hi289 : e.origin.toNat < (vecE n L).length := (by first | omega | (simp only [lens]; omega))
    have hr290 := hS287.row (i := 0) rfl
    have hr290s : (vecE n L).length * 8 ≤ 140737488355328 := hr290.2
    refine ov_indexAddr (k := 1) (i := e.origin) Try.underlying34 Try.sizeOf3 he169 hr290.1 e288 ⟨by omega, by omega⟩ (fun vals' hv hv' => ⟨rfl, ?_⟩)
    intro v165q hq0
    rw [hv' 4 (by decide)] at hq0; cases he169.symm.trans hq0
    exact hv
   ·intro k291 vals w292 h295 h296 hW294 hA293
    obtain rfl : k291 = 1 := Nat.le_antisymm h296 h295
    obtain ⟨v165, he169, hS297⟩ := hW294
    have e298 : vals 8 = (.pointer (some ⟨sb v165, so v165 + e.origin.toNat * 1, none⟩) : Value) := hA293 8 (by decide) v165 he169
    refine obl rfl ?_
    have hi300 : e.origin.toNat < (vecE n L).length := (by first | omega | (simp only [lens]; omega))
    obtain ⟨_, _, hce299, rfl, hxe299⟩ := hS297.rowAt (i := 0) (j := e.origin.toNat) rfl hi300
    rw [← getD_at 0 hi300] at hce299 hxe299
    exact ov_load1 (v := .int .i64 (((vecE n L).getD e.origin.toNat 0))) Try.isAgg3 e298 (hce299.get (j := 0) rfl) (fun vals' hv _ => ⟨rfl, hv⟩)
   ·intro k301 vals w302 h305 h306 hW304 hA303
    obtain rfl : k301 = 1 := Nat.le_antisymm h306 h305
    obtain ⟨v165, he169, hS307⟩ := hW304
    have e308 := hA303 9 (by decide)
    refine obl rfl ?_
    have hr309 : InR (((vecE n L).getD e.origin.toNat 0) + 1) := by omega
    exact ov_add (r := ((vecE n L).getD e.origin.toNat 0) + 1) (k := .i64) (a := ((vecE n L).getD e.origin.toNat 0)) (b := 1) e308 rfl (wrap_in hr309) (fun vals' hv _ => ⟨rfl, hv⟩)
   ·intro k310 vals w311 h314 h315 hW313 hA312
    obtain rfl : k310 = 1 := Nat.le_antisymm h315 h314
    obtain ⟨v165, he169, hS316⟩ := hW313
    have e317 := hA312 2 (by decide)
    have e318 := hA312 10 (by decide)
    refine obl rfl ?_
    exact ov_neq (k := .i64) (a := e.seq) (b := ((vecE n L).getD e.origin.toNat 0) + 1) e317 e318 (fun vals' hv _ => ⟨rfl, hv⟩)
   intro vals w319 hW320 hA321
   obtain ⟨v165, he169, hS322⟩ := hW320
   have e323 := hA321 11 (by decide)
   refine st_env (kv := [(0, .pointer (some ⟨b, 0, none⟩)), (1, .agg (e.cells de0).toArray), (3, .pointer (some ⟨b12, 0, none⟩)), (4, .int .i64 (0)), (5, .int .i64 ((checkE e ((n : Nat) : Int)))), (18, .int .i64 ((checkE e ((n : Nat) : Int)))), (19, .bool false), (22, .pointer (some ⟨b, 0, none⟩)), (23, .pointer (some ⟨b12, 0, none⟩)), (24, .agg #[.int .i64 (e.origin), .int .i64 (e.seq)]), (6, .pointer (some ⟨b123, 0, none⟩)), (28, .bool false), (40, .bool (!decide (e.seq = (((vecE n L).getD e.origin.toNat 0) + 1))))]) ⟨rfl, rfl, rfl, rfl, rfl, rfl, rfl, rfl, rfl, rfl, rfl, rfl, (by exact e323), trivial⟩ (fun ρw319 => ?_)
   refine st_nil ?_
   cases hc324 : !decide (e.seq = (((vecE n L).getD e.origin.toNat 0) + 1))
   ·skip
    have hc324r := hc324
    have hc324 := ndec_false hc324
    refine WP_cond_f rfl ?_
    refine WP_skip ?_
    refine WP_seq ?_
    refine WP_seq ?_
    refine WP_region0 (by kernel_rfl) (fun _ => ?_)
    refine st (ov_assign (v := .int .i64 (0)) rfl ?_)
    refine st_nil ?_
    refine WP_block ?_
    refine WP_loop (fun mq σ wq => ∃ (k : Nat) (ρ : Env), mq = n - k ∧ σ = setAll ρ [(0, .pointer (some ⟨b, 0, none⟩)), (3, .pointer (some ⟨b12, 0, none⟩)), (8, .int .i64 ((k : Nat) : Int))] ∧ (k ≤ n) ∧ (∀ i, i < k → knewE L e i = true) ∧ Sep G1 w ((RowE (α := Int) own 3 v165 (vecE n L)) :: (Blk b123 (((getE L (e.origin, e.seq)).getD default).cells v117).toArray 36) :: (RowE (α := Int) own 3 v117 (((getE L (e.origin, e.seq)).getD default).deps)) :: (Blk b12 (e.cells de0).toArray 36) :: Rs) wq) ⟨0, _, rfl, setAll_self ⟨rfl, rfl, rfl, trivial⟩, Nat.zero_le _, (fun i h => absurd h (Nat.not_lt_zero i)), hS322⟩ ?_
    rintro m326 σ327 w325 ⟨k, ρl1, rfl, rfl, hkk, hm, hS328⟩
    refine WP_seq ?_
    refine WP_seq ?_
    refine WP_region0 (by kernel_rfl) (fun _ => ?_)
    refine st (ov_move (v := .int .i64 ((k : Nat) : Int)) rfl ?_)
    refine st (ov_move (v := .pointer (some ⟨b, 0, none⟩)) rfl ?_)
    refine st (ov_nilCheck (b := b) (o := 0) rfl ?_)
    refine st (fd78_0 rfl ?_)
    refine st (ov_load1 (v := .int .i64 ((n : Nat) : Int)) Try.isAgg3 rfl (blk_cellL (hS328.gblk hb8) rfl) ?_)
    refine st (ov_lss (k := .i64) (a := ((k : Nat) : Int)) (b := ((n : Nat) : Int)) rfl rfl ?_)
    refine st_nil ?_
    cases hc329 : decide (((k : Nat) : Int) < ((n : Nat) : Int))
    ·skip
     have hc329r := hc329
     have hc329 := of_decide_eq_false hc329
     refine WP_cond_f rfl ?_
     refine WP_exit ?_
     refine blk_exit ?_
     refine WP_seq ?_
     refine WP_region0 (by kernel_rfl) (fun _ => ?_)
     refine st (ov_assign (v := (.slice none 0 0)) rfl ?_)
     refine st_nil ?_
     refine WP_seq ?_
     refine WP_region0 (by kernel_rfl) (fun _ => ?_)
     refine st (ov_assign (v := .bool false) rfl ?_)
     refine st_nil ?_
     refine WP_seq ?_
     refine WP_seq ?_
     have hS330 : Sep G W ((RefS b n L) :: (RowE (α := Int) own 3 v165 (vecE n L)) :: (Blk b123 (((getE L (e.origin, e.seq)).getD default).cells v117).toArray 36) :: (RowE (α := Int) own 3 v117 (((getE L (e.origin, e.seq)).getD default).deps)) :: (Blk b12 (e.cells de0).toArray 36) :: Rs) w325 := hk6 _ _ hS328
     obtain ⟨vl331, hS332⟩ := RefS.open hS330
     have hS332t : Sep G W ((Blk b #[.int .i64 ((n : Nat) : Int), vl331] 78) :: (RowE (α := Ev) own 36 vl331 L) :: (RowE (α := Int) own 3 v165 (vecE n L)) :: (Blk b123 (((getE L (e.origin, e.seq)).getD default).cells v117).toArray 36) :: (RowE (α := Int) own 3 v117 (((getE L (e.origin, e.seq)).getD default).deps)) :: (Blk b12 (e.cells de0).toArray 36) :: Rs) w325 := hS332
     have hr333 := hS332t.row (i := 1) rfl
     have hr333s : L.length * 96 ≤ 140737488355328 := hr333.2
     have hS334 : Sep G W ((RowE (α := Ev) own 36 vl331 L) :: (Blk b #[.int .i64 ((n : Nat) : Int), vl331] 78) :: (RowE (α := Int) own 3 v165 (vecE n L)) :: (Blk b123 (((getE L (e.origin, e.seq)).getD default).cells v117).toArray 36) :: (RowE (α := Int) own 3 v117 (((getE L (e.origin, e.seq)).getD default).deps)) :: (Blk b12 (e.cells de0).toArray 36) :: Rs) w325 := hS332t.sel 6 [1, 0, 2, 3, 4, 5] (Nat.le_add_left _ _) rfl rfl
     obtain ⟨F335, G336, hF337, hFG338, hB339, hS340, hk341⟩ := hS334.lendA
     have hrd342 := RdS.base hF337 hFG338
     have hsm343 : L.length * 96 ≤ 140737488355328 := hrd342.small
     refine WP_region0 (by kernel_rfl) (fun _ => ?_)
     refine st (ov_assign (v := .int .i64 (0)) rfl ?_)
     refine st_nil ?_
     refine WP_block ?_
     have hS344 : Sep G336 w325 ((RowE (α := Ev) (alt F335 w325) 36 (.slice none 0 0) ([] : List Ev)) :: (Blk b #[.int .i64 ((n : Nat) : Int), vl331] 78) :: (RowE (α := Int) own 3 v165 (vecE n L)) :: (Blk b123 (((getE L (e.origin, e.seq)).getD default).cells v117).toArray 36) :: (RowE (α := Int) own 3 v117 (((getE L (e.origin, e.seq)).getD default).deps)) :: (Blk b12 (e.cells de0).toArray 36) :: Rs) w325 := hS340.rowNil (alt F335 w325) 36
     refine WP_loop (fun mq σ wq => ∃ (k : Nat) (vo : Value) (ρ : Env), mq = L.length - k ∧ σ = setAll ρ [(0, .pointer (some ⟨b, 0, none⟩)), (3, .pointer (some ⟨b12, 0, none⟩)), (10, .bool ((laidB e L k))), (11, .int .i64 ((k : Nat) : Int)), (9, vo)] ∧ (k ≤ L.length) ∧ Sep G336 w325 ((RowE (α := Ev) (alt F335 w325) 36 vo (listK e L k)) :: (Blk b #[.int .i64 ((n : Nat) : Int), vl331] 78) :: (RowE (α := Int) own 3 v165 (vecE n L)) :: (Blk b123 (((getE L (e.origin, e.seq)).getD default).cells v117).toArray 36) :: (RowE (α := Int) own 3 v117 (((getE L (e.origin, e.seq)).getD default).deps)) :: (Blk b12 (e.cells de0).toArray 36) :: Rs) wq) ⟨0, (.slice none 0 0), _, rfl, setAll_self ⟨rfl, rfl, rfl, rfl, rfl, trivial⟩, Nat.zero_le _, hS344⟩ ?_
     rintro m346 σ347 w345 ⟨k, vo, ρl2, rfl, rfl, hkk, hS348⟩
     have hr349 := hS348.row (i := 0) rfl
     have hr349s : (listK e L k).length * 96 ≤ 140737488355328 := hr349.2
     have hlk9 := listK_len (e := e) (L := L) (k := k)
     refine WP_seq ?_
     refine WP_seq ?_
     refine WP_region0 (by kernel_rfl) (fun _ => ?_)
     refine st (ov_move (v := .int .i64 ((k : Nat) : Int)) rfl ?_)
     refine st (ov_move (v := .pointer (some ⟨b, 0, none⟩)) rfl ?_)
     refine st (ov_nilCheck (b := b) (o := 0) rfl ?_)
     refine st (fd78_1 rfl ?_)
     refine st (ov_load1 (v := vl331) Try.isAgg22 rfl (blk_cellL (hS348.blk (i := 1) rfl) rfl) ?_)
     refine st (ov_len (n := L.length) Try.underlying22 rfl hrd342.sl ?_)
     refine st (ov_lss (k := .i64) (a := ((k : Nat) : Int)) (b := ((L.length : Nat) : Int)) rfl rfl ?_)
     refine st_nil ?_
     cases hc350 : decide (((k : Nat) : Int) < ((L.length : Nat) : Int))
     ·skip
      have hc350r := hc350
      have hc350 := of_decide_eq_false hc350
      refine WP_cond_f rfl ?_
      refine WP_exit ?_
      refine blk_exit ?_
      refine WP_seq ?_
      refine WP_seq ?_
      refine WP_region0 (by kernel_rfl) (fun _ => ?_)
      refine st (ov_move (v := .bool ((laidB e L k))) rfl ?_)
      refine st (ov_not (a := (laidB e L k)) rfl ?_)
      refine st_nil ?_
      cases hc351 : !(laidB e L k)
      ·skip
       have hc351r := hc351
       try simp only [bools] at hc351
       refine WP_cond_f rfl ?_
       refine WP_skip ?_
       refine WP_seq ?_
       have hS352 : Sep G W ((RowE (α := Ev) own 36 vo (listK e L k)) :: (Blk b #[.int .i64 ((n : Nat) : Int), vl331] 78) :: (RowE (α := Int) own 3 v165 (vecE n L)) :: (Blk b123 (((getE L (e.origin, e.seq)).getD default).cells v117).toArray 36) :: (RowE (α := Int) own 3 v117 (((getE L (e.origin, e.seq)).getD default).deps)) :: (Blk b12 (e.cells de0).toArray 36) :: Rs) w345 := hk341 _ _ _ _ _ hS348
       have hr353 := hS352.row (i := 0) rfl
       have hr353s : (listK e L k).length * 96 ≤ 140737488355328 := hr353.2
       rw [list_end (by omega) (by simpa using hc351)] at hS352
       have hS354 : Sep G W ((RowE (α := Ev) own 36 vo (insE e L)) :: (Blk b #[.int .i64 ((n : Nat) : Int), vl331] 78) :: (RowE (α := Int) own 3 v165 (vecE n L)) :: (Blk b123 (((getE L (e.origin, e.seq)).getD default).cells v117).toArray 36) :: (RowE (α := Int) own 3 v117 (((getE L (e.origin, e.seq)).getD default).deps)) :: (Blk b12 (e.cells de0).toArray 36) :: Rs) w345 := hS352
       have hr355 := hS354.row (i := 0) rfl
       have hr355s : (insE e L).length * 96 ≤ 140737488355328 := hr355.2
       refine WP_region0 (by kernel_rfl) (fun _ => ?_)
       refine st (ov_move (v := .pointer (some ⟨b, 0, none⟩)) rfl ?_)
       refine st (ov_move (v := vo) rfl ?_)
       refine st (ov_nilCheck (b := b) (o := 0) rfl ?_)
       refine st (fd78_1 rfl ?_)
       refine stn (ov_store1 (v := vo) (c := [.int .i64 ((n : Nat) : Int), vl331]) (c' := [.int .i64 ((n : Nat) : Int), vo]) Try.sizeOf22 rfl rfl (hS354.blk (i := 1) rfl) hr355.1.one rfl rfl ?_)
       intro w356 hp357
       have hS358 : Sep G W ((RowE (α := Ev) own 36 vo (insE e L)) :: (Blk b #[.int .i64 ((n : Nat) : Int), vo] 78) :: (RowE (α := Int) own 3 v165 (vecE n L)) :: (Blk b123 (((getE L (e.origin, e.seq)).getD default).cells v117).toArray 36) :: (RowE (α := Int) own 3 v117 (((getE L (e.origin, e.seq)).getD default).deps)) :: (Blk b12 (e.cells de0).toArray 36) :: Rs) w356 := hS354.put (i := 1) rfl hp357
       refine st_nil ?_
       refine WP_seq ?_
       refine WP_region0 (by kernel_rfl) (fun _ => ?_)
       refine st (ov_assign (v := .int .i64 (0)) rfl ?_)
       refine st_nil ?_
       refine WP_ret ?_
       refine fin1 Try.results22 (show _ = (.int .i64 (0) : Value) from rfl) ?_
       have hS359 : Sep G W ((Blk b #[.int .i64 ((n : Nat) : Int), vo] 78) :: (RowE (α := Ev) own 36 vo (insE e L)) :: (RowE (α := Int) own 3 v165 (vecE n L)) :: (Blk b123 (((getE L (e.origin, e.seq)).getD default).cells v117).toArray 36) :: (RowE (α := Int) own 3 v117 (((getE L (e.origin, e.seq)).getD default).deps)) :: (Blk b12 (e.cells de0).toArray 36) :: Rs) w356 := hS358.sel 6 [1, 0, 2, 3, 4, 5] (Nat.le_add_left _ _) rfl rfl
       have hS360 : Sep G W ((RefS b n (insE e L)) :: (RowE (α := Int) own 3 v165 (vecE n L)) :: (Blk b123 (((getE L (e.origin, e.seq)).getD default).cells v117).toArray 36) :: (RowE (α := Int) own 3 v117 (((getE L (e.origin, e.seq)).getD default).deps)) :: (Blk b12 (e.cells de0).toArray 36) :: Rs) w356 := RefS.close (n := n) (L := (insE e L)) hS359
       have hS361 : Sep G W ((RefS b n (insE e L)) :: Rs) w356 := hS360.sel 5 [0] (Nat.le_add_left _ _) rfl rfl
       refine ⟨(insE e L), ?_, ?_, hS361⟩
       · rw [add_0 hc116 hc129 (by rw [hv9] at hc324; exact hc324) (fun i hi => hm i (by omega))]
       · rw [addL_yes (add_0 hc116 hc129 (by rw [hv9] at hc324; exact hc324) (fun i hi => hm i (by omega)))]
      ·skip
       have hc351r := hc351
       try simp only [bools] at hc351
       refine WP_cond_t rfl ?_
       refine WP_region0 (by kernel_rfl) (fun _ => ?_)
       refine st (ov_move (v := vo) rfl ?_)
       refine st (ov_loadk (k := 10) Try.isAgg36 Try.sizeOf36 rfl rfl (CellsAt.all (hS348.blk (i := 5) rfl)) ?_)
       refine st (ov_call (f := 23) (vals := [.agg (e.cells de0).toArray]) (cap := []) (show _ = (.func (.func 23) #[] #[] : Value) from rfl) rfl Try.call23 (D_copyEvent (e := e) (RdS.base hde0 hB339) oe hS348) ?_)
       rintro _ w363 ⟨v362, rfl, hS364⟩
       have hr365 := hS364.row (i := 0) rfl
       have hr365s : e.deps.length * 8 ≤ 140737488355328 := hr365.2
       refine st (ov_buildSlice (k := 10) (parts' := [(0, .agg (e.cells v362).toArray)]) (c := (e.cells v362).toArray) Try.underlying22 Try.sizeOf36 Try.zeroValue36 (by decide) rfl (by kernel_rfl) ?_)
       intro w368 b367 hn366
       have hS369 : Sep G336 w325 ((Blk b367 (e.cells v362).toArray 36) :: (RowE (α := Int) own 3 v362 e.deps) :: (RowE (α := Ev) (alt F335 w325) 36 vo (listK e L k)) :: (Blk b #[.int .i64 ((n : Nat) : Int), vl331] 78) :: (RowE (α := Int) own 3 v165 (vecE n L)) :: (Blk b123 (((getE L (e.origin, e.seq)).getD default).cells v117).toArray 36) :: (RowE (α := Int) own 3 v117 (((getE L (e.origin, e.seq)).getD default).deps)) :: (Blk b12 (e.cells de0).toArray 36) :: Rs) w368 := hS364.new hn366
       have hbk373 := hS369.blk (i := 0) rfl
       have hS374 : Sep G336 w325 ((RowE (α := Ev) (alt F335 w325) 36 vo (listK e L k)) :: (RowE (α := Int) own 3 v362 e.deps) :: (Blk b #[.int .i64 ((n : Nat) : Int), vl331] 78) :: (RowE (α := Int) own 3 v165 (vecE n L)) :: (Blk b123 (((getE L (e.origin, e.seq)).getD default).cells v117).toArray 36) :: (RowE (α := Int) own 3 v117 (((getE L (e.origin, e.seq)).getD default).deps)) :: (Blk b12 (e.cells de0).toArray 36) :: Rs) w368 := hS369.sel 8 [2, 1, 3, 4, 5, 6, 7] (Nat.le_add_left _ _) rfl rfl
       refine st (ov_append1S (src := (alt F335 w325)) (bytes := 96) (x1 := e) hS374 el22 rfl rfl hbk373 (fun _ _ hN => alt_own hN oe) (by first | omega | (simp only [List.length_append, List.length_cons, List.length_nil, List.length_take, List.length_drop]; omega)) rfl ?_)
       intro v371 w370 hS372
       have hr375 := hS372.row (i := 0) rfl
       have hr375s : ((listK e L k) ++ [e]).length * 96 ≤ 140737488355328 := hr375.2
       refine st (ov_assign (v := v371) rfl ?_)
       refine st_nil ?_
       refine WP_seq ?_
       have hS376 : Sep G W ((RowE (α := Ev) own 36 v371 ((listK e L k) ++ [e])) :: (Blk b #[.int .i64 ((n : Nat) : Int), vl331] 78) :: (RowE (α := Int) own 3 v165 (vecE n L)) :: (Blk b123 (((getE L (e.origin, e.seq)).getD default).cells v117).toArray 36) :: (RowE (α := Int) own 3 v117 (((getE L (e.origin, e.seq)).getD default).deps)) :: (Blk b12 (e.cells de0).toArray 36) :: Rs) w370 := hk341 _ _ _ _ _ hS372
       have hr377 := hS376.row (i := 0) rfl
       have hr377s : ((listK e L k) ++ [e]).length * 96 ≤ 140737488355328 := hr377.2
       rw [list_last (by omega) (by simpa using hc351)] at hS376
       have hS378 : Sep G W ((RowE (α := Ev) own 36 v371 (insE e L)) :: (Blk b #[.int .i64 ((n : Nat) : Int), vl331] 78) :: (RowE (α := Int) own 3 v165 (vecE n L)) :: (Blk b123 (((getE L (e.origin, e.seq)).getD default).cells v117).toArray 36) :: (RowE (α := Int) own 3 v117 (((getE L (e.origin, e.seq)).getD default).deps)) :: (Blk b12 (e.cells de0).toArray 36) :: Rs) w370 := hS376
       have hr379 := hS378.row (i := 0) rfl
       have hr379s : (insE e L).length * 96 ≤ 140737488355328 := hr379.2
       refine WP_region0 (by kernel_rfl) (fun _ => ?_)
       refine st (ov_move (v := .pointer (some ⟨b, 0, none⟩)) rfl ?_)
       refine st (ov_move (v := v371) rfl ?_)
       refine st (ov_nilCheck (b := b) (o := 0) rfl ?_)
       refine st (fd78_1 rfl ?_)
       refine stn (ov_store1 (v := v371) (c := [.int .i64 ((n : Nat) : Int), vl331]) (c' := [.int .i64 ((n : Nat) : Int), v371]) Try.sizeOf22 rfl rfl (hS378.blk (i := 1) rfl) hr379.1.one rfl rfl ?_)
       intro w380 hp381
       have hS382 : Sep G W ((RowE (α := Ev) own 36 v371 (insE e L)) :: (Blk b #[.int .i64 ((n : Nat) : Int), v371] 78) :: (RowE (α := Int) own 3 v165 (vecE n L)) :: (Blk b123 (((getE L (e.origin, e.seq)).getD default).cells v117).toArray 36) :: (RowE (α := Int) own 3 v117 (((getE L (e.origin, e.seq)).getD default).deps)) :: (Blk b12 (e.cells de0).toArray 36) :: Rs) w380 := hS378.put (i := 1) rfl hp381
       refine st_nil ?_
       refine WP_seq ?_
       refine WP_region0 (by kernel_rfl) (fun _ => ?_)
       refine st (ov_assign (v := .int .i64 (0)) rfl ?_)
       refine st_nil ?_
       refine WP_ret ?_
       refine fin1 Try.results22 (show _ = (.int .i64 (0) : Value) from rfl) ?_
       have hS383 : Sep G W ((Blk b #[.int .i64 ((n : Nat) : Int), v371] 78) :: (RowE (α := Ev) own 36 v371 (insE e L)) :: (RowE (α := Int) own 3 v165 (vecE n L)) :: (Blk b123 (((getE L (e.origin, e.seq)).getD default).cells v117).toArray 36) :: (RowE (α := Int) own 3 v117 (((getE L (e.origin, e.seq)).getD default).deps)) :: (Blk b12 (e.cells de0).toArray 36) :: Rs) w380 := hS382.sel 6 [1, 0, 2, 3, 4, 5] (Nat.le_add_left _ _) rfl rfl
       have hS384 : Sep G W ((RefS b n (insE e L)) :: (RowE (α := Int) own 3 v165 (vecE n L)) :: (Blk b123 (((getE L (e.origin, e.seq)).getD default).cells v117).toArray 36) :: (RowE (α := Int) own 3 v117 (((getE L (e.origin, e.seq)).getD default).deps)) :: (Blk b12 (e.cells de0).toArray 36) :: Rs) w380 := RefS.close (n := n) (L := (insE e L)) hS383
       have hS385 : Sep G W ((RefS b n (insE e L)) :: Rs) w380 := hS384.sel 5 [0] (Nat.le_add_left _ _) rfl rfl
       refine ⟨(insE e L), ?_, ?_, hS385⟩
       · rw [add_0 hc116 hc129 (by rw [hv9] at hc324; exact hc324) (fun i hi => hm i (by omega))]
       · rw [addL_yes (add_0 hc116 hc129 (by rw [hv9] at hc324; exact hc324) (fun i hi => hm i (by omega)))]
     ·skip
      have hc350r := hc350
      have hc350 := of_decide_eq_true hc350
      refine WP_cond_t rfl ?_
      refine WP_skip ?_
      refine WP_seq ?_
      refine WP_block ?_
      refine WP_seq ?_
      refine WP_seq ?_
      refine WP_draw4 (WF [fun vals wq => Sep G336 w325 ((RowE (α := Ev) (alt F335 w325) 36 vo (listK e L k)) :: (Blk b #[.int .i64 ((n : Nat) : Int), vl331] 78) :: (RowE (α := Int) own 3 v165 (vecE n L)) :: (Blk b123 (((getE L (e.origin, e.seq)).getD default).cells v117).toArray 36) :: (RowE (α := Int) own 3 v117 (((getE L (e.origin, e.seq)).getD default).deps)) :: (Blk b12 (e.cells de0).toArray 36) :: Rs) wq, fun vals wq => (vals 11 = (if (!(laidB e L k)) = true then (.bool ((ltE e (L.getD k default))) : Value) else undef)) ∧ Sep G336 w325 ((RowE (α := Ev) (alt F335 w325) 36 vo (listK e L k)) :: (Blk b #[.int .i64 ((n : Nat) : Int), vl331] 78) :: (RowE (α := Int) own 3 v165 (vecE n L)) :: (Blk b123 (((getE L (e.origin, e.seq)).getD default).cells v117).toArray 36) :: (RowE (α := Int) own 3 v117 (((getE L (e.origin, e.seq)).getD default).deps)) :: (Blk b12 (e.cells de0).toArray 36) :: Rs) wq]) (AF [Vl 0 (.bool ((laidB e L k))), Vl 1 (.bool (!(laidB e L k))), Vl 2 (.bool (!(laidB e L k))), Vl 3 (if (!(laidB e L k)) = true then .agg (e.cells de0).toArray else undef), Vl 4 (if (!(laidB e L k)) = true then .pointer (some ⟨b, 0, none⟩) else undef), Vl 5 (if (!(laidB e L k)) = true then .pointer (some ⟨b, 0, none⟩) else undef), Vl 6 (if (!(laidB e L k)) = true then .pointer (some ⟨b, 1, none⟩) else undef), Vl 7 (if (!(laidB e L k)) = true then vl331 else undef), Vl 8 (if (!(laidB e L k)) = true then .int .i64 ((k : Nat) : Int) else undef), Vl 9 (if (!(laidB e L k)) = true then .pointer (some ⟨sb vl331, so vl331 + k * 10, none⟩) else undef), Vl 10 (if (!(laidB e L k)) = true then .agg ((L.getD k default).cells (cellV w325 (sb vl331) (so vl331 + k * 10 + 3))).toArray else undef), fun _ => True, Vl 12 (.bool ((!(laidB e L k)) && (ltE e (L.getD k default))))]) [[], [0], [0, 1], [0, 1, 2], [0, 1, 2], [0, 1, 2, 4], [0, 1, 2, 4, 5], [0, 1, 2, 4, 5, 6], [0, 1, 2], [0, 1, 2, 4, 5, 6, 7, 8], [0, 1, 2, 4, 5, 6, 7, 8, 9], [0, 1, 2, 3, 4, 5, 6, 7, 8, 9, 10], [0, 1, 2, 3, 4, 5, 6, 7, 8, 9, 10, 11]] [11] [(0, 0), (0, 0), (0, 0), (0, 0), (0, 0), (0, 0), (0, 0), (0, 0), (0, 0), (0, 0), (0, 0), (0, 0), (1, 1)] (by kernel_rfl) (by kernel_rfl) (by kernel_rfl) rfl (by kernel_rfl) (by kernel_rfl) (fun _ h1 h2 h3 h4 _ => hS348.same h1 h2 h3 h4) ?_ (AF_loc ⟨dA, dA, dA, dA, dA, dA, dA, dA, dA, dA, dA, dT, dA, trivial⟩) ⟨?_, ?_, ?_, ?_, ?_, ?_, ?_, ?_, ?_, ?_, ?_, ?_, ?_, trivial⟩ ?_
      ·intro k vals vals' w hv h
       have e : ∀ j ∈ ([11] : List Nat), vals' j = vals j := hv
       match k, h with
       | 0, h => exact h
       | 1, h => exact (by simpa only [WF, List.getElem?_cons_zero, List.getElem?_cons_succ, e 11 (by decide)] using h)
       | _ + 2, _ => trivial
      ·intro k520 vals w521 h524 h525 hW523 hA522
       refine obl rfl ?_
       exact ov_move (v := .bool ((laidB e L k))) rfl (fun vals' hv _ => ⟨rfl, hv⟩)
      ·intro k526 vals w527 h530 h531 hW529 hA528
       have e532 := hA528 0 (by decide)
       refine obl rfl ?_
       exact ov_not (a := (laidB e L k)) e532 (fun vals' hv _ => ⟨rfl, hv⟩)
      ·intro k533 vals w534 h537 h538 hW536 hA535
       have e539 := hA535 1 (by decide)
       refine obl rfl ?_
       exact ov_move (v := .bool (!(laidB e L k))) e539 (fun vals' hv _ => ⟨rfl, hv⟩)
      ·intro k540 vals w541 h544 h545 hW543 hA542
       obtain rfl : k540 = 0 := Nat.le_antisymm h545 h544
       have hS546 : Sep G336 w325 ((RowE (α := Ev) (alt F335 w325) 36 vo (listK e L k)) :: (Blk b #[.int .i64 ((n : Nat) : Int), vl331] 78) :: (RowE (α := Int) own 3 v165 (vecE n L)) :: (Blk b123 (((getE L (e.origin, e.seq)).getD default).cells v117).toArray 36) :: (RowE (α := Int) own 3 v117 (((getE L (e.origin, e.seq)).getD default).deps)) :: (Blk b12 (e.cells de0).toArray 36) :: Rs) w541 := hW543
       have e547 := hA542 2 (by decide)
       refine oblc rfl rfl e547 (fun hb548 => ?_) (fun hb548 => fun vals' hv _ => ⟨trivial, hv.trans (if_neg hb548).symm⟩)
       have hl549 := hb548
       try simp only [bools] at hl549
       exact ov_loadk (k := 10) Try.isAgg36 Try.sizeOf36 rfl rfl (CellsAt.all (hS546.blk (i := 5) rfl)) (fun vals' hv _ => ⟨rfl, hv.trans (if_pos hb548).symm⟩)
      ·intro k550 vals w551 h554 h555 hW553 hA552
       have e556 := hA552 2 (by decide)
       refine oblc rfl rfl e556 (fun hb557 => ?_) (fun hb557 => fun vals' hv _ => ⟨trivial, hv.trans (if_neg hb557).symm⟩)
       have hl558 := hb557
       try simp only [bools] at hl558
       exact ov_move (v := .pointer (some ⟨b, 0, none⟩)) rfl (fun vals' hv _ => ⟨rfl, hv.trans (if_pos hb557).symm⟩)
      ·intro k559 vals w560 h563 h564 hW562 hA561
       have e565 := hA561 2 (by decide)
       have e566 : vals 4 = (if (!(laidB e L k)) = true then (.pointer (some ⟨b, 0, none⟩) : Value) else undef) := hA561 4 (by decide)
       refine oblc rfl rfl e565 (fun hb567 => ?_) (fun hb567 => fun vals' hv _ => ⟨trivial, hv.trans (if_neg hb567).symm⟩)
       have hl568 := hb567
       try simp only [bools] at hl568
       exact ov_nilCheck (b := b) (o := 0) (show _ = (.pointer (some ⟨b, 0, none⟩) : Value) from (Eq.trans e566 (if_pos hb567))) (fun vals' hv _ => ⟨rfl, hv.trans (if_pos hb567).symm⟩)
      ·intro k569 vals w570 h573 h574 hW572 hA571
       have e575 := hA571 2 (by decide)
       have e576 : vals 5 = (if (!(laidB e L k)) = true then (.pointer (some ⟨b, 0, none⟩) : Value) else undef) := hA571 5 (by decide)
       refine oblc rfl rfl e575 (fun hb577 => ?_) (fun hb577 => fun vals' hv _ => ⟨trivial, hv.trans (if_neg hb577).symm⟩)
       have hl578 := hb577
       try simp only [bools] at hl578
       exact fd78_1 (show _ = (.pointer (some ⟨b, 0, none⟩) : Value) from (Eq.trans e576 (if_pos hb577))) (fun vals' hv _ => ⟨rfl, hv.trans (if_pos hb577).symm⟩)
      ·intro k579 vals w580 h583 h584 hW582 hA581
       obtain rfl : k579 = 0 := Nat.le_antisymm h584 h583
       have hS585 : Sep G336 w325 ((RowE (α := Ev) (alt F335 w325) 36 vo (listK e L k)) :: (Blk b #[.int .i64 ((n : Nat) : Int), vl331] 78) :: (RowE (α := Int) own 3 v165 (vecE n L)) :: (Blk b123 (((getE L (e.origin, e.seq)).getD default).cells v117).toArray 36) :: (RowE (α := Int) own 3 v117 (((getE L (e.origin, e.seq)).getD default).deps)) :: (Blk b12 (e.cells de0).toArray 36) :: Rs) w580 := hW582
       have e586 := hA581 2 (by decide)
       have e587 : vals 6 = (if (!(laidB e L k)) = true then (.pointer (some ⟨b, 1, none⟩) : Value) else undef) := hA581 6 (by decide)
       refine oblc rfl rfl e586 (fun hb588 => ?_) (fun hb588 => fun vals' hv _ => ⟨trivial, hv.trans (if_neg hb588).symm⟩)
       have hl589 := hb588
       try simp only [bools] at hl589
       exact ov_load1 (v := vl331) Try.isAgg22 (show _ = (.pointer (some ⟨b, 1, none⟩) : Value) from (Eq.trans e587 (if_pos hb588))) (blk_cellL (hS585.blk (i := 1) rfl) rfl) (fun vals' hv _ => ⟨rfl, hv.trans (if_pos hb588).symm⟩)
      ·intro k590 vals w591 h594 h595 hW593 hA592
       have e596 := hA592 2 (by decide)
       refine oblc rfl rfl e596 (fun hb597 => ?_) (fun hb597 => fun vals' hv _ => ⟨trivial, hv.trans (if_neg hb597).symm⟩)
       have hl598 := hb597
       try simp only [bools] at hl598
       exact ov_move (v := .int .i64 ((k : Nat) : Int)) rfl (fun vals' hv _ => ⟨rfl, hv.trans (if_pos hb597).symm⟩)
      ·intro k599 vals w600 h603 h604 hW602 hA601
       obtain rfl : k599 = 0 := Nat.le_antisymm h604 h603
       have hS605 : Sep G336 w325 ((RowE (α := Ev) (alt F335 w325) 36 vo (listK e L k)) :: (Blk b #[.int .i64 ((n : Nat) : Int), vl331] 78) :: (RowE (α := Int) own 3 v165 (vecE n L)) :: (Blk b123 (((getE L (e.origin, e.seq)).getD default).cells v117).toArray 36) :: (RowE (α := Int) own 3 v117 (((getE L (e.origin, e.seq)).getD default).deps)) :: (Blk b12 (e.cells de0).toArray 36) :: Rs) w600 := hW602
       have e606 := hA601 2 (by decide)
       have e607 : vals 7 = (if (!(laidB e L k)) = true then (vl331 : Value) else undef) := hA601 7 (by decide)
       have e608 : vals 8 = (if (!(laidB e L k)) = true then (.int .i64 ((k : Nat) : Int) : Value) else undef) := hA601 8 (by decide)
       refine oblc rfl rfl e606 (fun hb609 => ?_) (fun hb609 => fun vals' hv _ => ⟨trivial, hv.trans (if_neg hb609).symm⟩)
       have hl610 := hb609
       try simp only [bools] at hl610
       have hi611 : k < L.length := (by first | omega | (simp only [lens]; omega))
       exact ov_indexAddrN (k := 10) (i := k) Try.underlying22 Try.sizeOf36 (show _ = (vl331 : Value) from (Eq.trans e607 (if_pos hb609))) hrd342.sl (show _ = (.int .i64 ((k : Nat) : Int) : Value) from (Eq.trans e608 (if_pos hb609))) hi611 (fun vals' hv _ => ⟨rfl, hv.trans (if_pos hb609).symm⟩)
      ·intro k612 vals w613 h616 h617 hW615 hA614
       obtain rfl : k612 = 0 := Nat.le_antisymm h617 h616
       have hS618 : Sep G336 w325 ((RowE (α := Ev) (alt F335 w325) 36 vo (listK e L k)) :: (Blk b #[.int .i64 ((n : Nat) : Int), vl331] 78) :: (RowE (α := Int) own 3 v165 (vecE n L)) :: (Blk b123 (((getE L (e.origin, e.seq)).getD default).cells v117).toArray 36) :: (RowE (α := Int) own 3 v117 (((getE L (e.origin, e.seq)).getD default).deps)) :: (Blk b12 (e.cells de0).toArray 36) :: Rs) w613 := hW615
       have e619 := hA614 2 (by decide)
       have e620 : vals 9 = (if (!(laidB e L k)) = true then (.pointer (some ⟨sb vl331, so vl331 + k * 10, none⟩) : Value) else undef) := hA614 9 (by decide)
       refine oblc rfl rfl e619 (fun hb621 => ?_) (fun hb621 => fun vals' hv _ => ⟨trivial, hv.trans (if_neg hb621).symm⟩)
       have hl622 := hb621
       try simp only [bools] at hl622
       have hi624 : k < L.length := (by first | omega | (simp only [lens]; omega))
       obtain ⟨hce623, hde623_0, hoke623⟩ := hrd342.ev hi624
       rw [← getD_at default hi624] at hce623 hde623_0 hoke623
       have hsm625 : ((L.getD k default).deps).length * 8 ≤ 140737488355328 := hde623_0.small
       have hcw626 := hS618.cells hce623 (hrd342.foot (ne_of_lt hi624))
       exact ov_loadk (k := 10) Try.isAgg36 Try.sizeOf36 rfl (show _ = (.pointer (some ⟨sb vl331, so vl331 + k * 10, none⟩) : Value) from (Eq.trans e620 (if_pos hb621))) hcw626 (fun vals' hv _ => ⟨rfl, hv.trans (if_pos hb621).symm⟩)
      ·intro k493 vals w494 h497 h498 hW496 hA495
       obtain rfl : k493 = 0 := Nat.le_antisymm h498 h497
       have hS499 : Sep G336 w325 ((RowE (α := Ev) (alt F335 w325) 36 vo (listK e L k)) :: (Blk b #[.int .i64 ((n : Nat) : Int), vl331] 78) :: (RowE (α := Int) own 3 v165 (vecE n L)) :: (Blk b123 (((getE L (e.origin, e.seq)).getD default).cells v117).toArray 36) :: (RowE (α := Int) own 3 v117 (((getE L (e.origin, e.seq)).getD default).deps)) :: (Blk b12 (e.cells de0).toArray 36) :: Rs) w494 := hW496
       have e500 := hA495 2 (by decide)
       have e501 : vals 3 = (if (!(laidB e L k)) = true then (.agg (e.cells de0).toArray : Value) else undef) := hA495 3 (by decide)
       have e502 : vals 10 = (if (!(laidB e L k)) = true then (.agg ((L.getD k default).cells (cellV w325 (sb vl331) (so vl331 + k * 10 + 3))).toArray : Value) else undef) := hA495 10 (by decide)
       refine oblc rfl rfl e500 (fun hb503 => ?_) (fun hb503 vals' hv hv' => ?_)
       ·skip
        have hl504 := hb503
        try simp only [bools] at hl504
        have hi506 : k < L.length := (by first | omega | (simp only [lens]; omega))
        obtain ⟨hce505, hde505_0, hoke505⟩ := hrd342.ev hi506
        rw [← getD_at default hi506] at hce505 hde505_0 hoke505
        have hsm507 : ((L.getD k default).deps).length * 8 ≤ 140737488355328 := hde505_0.small
        have hcw508 := hS499.cells hce505 (hrd342.foot (ne_of_lt hi506))
        refine (ov_call (f := 56) (vals := [.agg (e.cells de0).toArray, .agg ((L.getD k default).cells (cellV w325 (sb vl331) (so vl331 + k * 10 + 3))).toArray]) (cap := []) (show _ = (.func (.func 56) #[] #[] : Value) from rfl) (mapL ⟨(show _ = (.agg (e.cells de0).toArray : Value) from (Eq.trans e501 (if_pos hb503))), (show _ = (.agg ((L.getD k default).cells (cellV w325 (sb vl331) (so vl331 + k * 10 + 3))).toArray : Value) from (Eq.trans e502 (if_pos hb503))), trivial⟩) Try.call56 (D_less9 (a := e) (b := (L.getD k default)) (RdS.base hde0 hB339) oe hde505_0 hoke505 hS499) ?_)
        rintro _ w509 ⟨rfl, hS510⟩
        intro vals' hv hv'
        refine ⟨?_, trivial⟩
        show (vals' 11 = (if (!(laidB e L k)) = true then (.bool ((ltE e (L.getD k default))) : Value) else undef)) ∧ Sep G336 w325 ((RowE (α := Ev) (alt F335 w325) 36 vo (listK e L k)) :: (Blk b #[.int .i64 ((n : Nat) : Int), vl331] 78) :: (RowE (α := Int) own 3 v165 (vecE n L)) :: (Blk b123 (((getE L (e.origin, e.seq)).getD default).cells v117).toArray 36) :: (RowE (α := Int) own 3 v117 (((getE L (e.origin, e.seq)).getD default).deps)) :: (Blk b12 (e.cells de0).toArray 36) :: Rs) w509
        exact ⟨(hv.trans (if_pos hb503).symm), hS510⟩
       ·skip
        refine ⟨?_, trivial⟩
        show (vals' 11 = (if (!(laidB e L k)) = true then (.bool ((ltE e (L.getD k default))) : Value) else undef)) ∧ Sep G336 w325 ((RowE (α := Ev) (alt F335 w325) 36 vo (listK e L k)) :: (Blk b #[.int .i64 ((n : Nat) : Int), vl331] 78) :: (RowE (α := Int) own 3 v165 (vecE n L)) :: (Blk b123 (((getE L (e.origin, e.seq)).getD default).cells v117).toArray 36) :: (RowE (α := Int) own 3 v117 (((getE L (e.origin, e.seq)).getD default).deps)) :: (Blk b12 (e.cells de0).toArray 36) :: Rs) w494
        exact ⟨(hv.trans (if_neg hb503).symm), hS499⟩
      ·intro k627 vals w628 h631 h632 hW630 hA629
       obtain rfl : k627 = 1 := Nat.le_antisymm h632 h631
       obtain ⟨he511, hS633⟩ := hW630
       have e634 := hA629 2 (by decide)
       refine obl rfl ?_
       exact ov_pick_and (b := !(laidB e L k)) (b' := (ltE e (L.getD k default))) e634 (fun hbp => (show _ = (.bool ((ltE e (L.getD k default))) : Value) from (Eq.trans he511 (if_pos hbp)))) (fun vals' hv _ => ⟨rfl, hv⟩)
      intro vals w635 hW636 hA637
      obtain ⟨he511, hS638⟩ := hW636
      have e639 := hA637 12 (by decide)
      refine st_env (kv := [(0, .pointer (some ⟨b, 0, none⟩)), (3, .pointer (some ⟨b12, 0, none⟩)), (10, .bool ((laidB e L k))), (11, .int .i64 ((k : Nat) : Int)), (9, vo), (54, .int .i64 ((k : Nat) : Int)), (55, .pointer (some ⟨b, 0, none⟩)), (56, .pointer (some ⟨b, 0, none⟩)), (57, .pointer (some ⟨b, 1, none⟩)), (58, vl331), (59, .int .i64 ((L.length : Nat) : Int)), (60, .bool true), (75, .bool ((!(laidB e L k)) && (ltE e (L.getD k default))))]) ⟨rfl, rfl, rfl, rfl, rfl, rfl, rfl, rfl, rfl, rfl, rfl, rfl, (by exact e639), trivial⟩ (fun ρw635 => ?_)
      refine st_nil ?_
      cases hc640 : (!(laidB e L k)) && (ltE e (L.getD k default))
      ·skip
       have hc640r := hc640
       try simp only [bools] at hc640
       refine WP_cond_f rfl ?_
       refine WP_skip ?_
       refine WP_region0 (by kernel_rfl) (fun _ => ?_)
       refine st (ov_move (v := vo) rfl ?_)
       refine st (ov_move (v := .pointer (some ⟨b, 0, none⟩)) rfl ?_)
       refine st (ov_nilCheck (b := b) (o := 0) rfl ?_)
       refine st (fd78_1 rfl ?_)
       refine st (ov_load1 (v := vl331) Try.isAgg22 rfl (blk_cellL (hS638.blk (i := 1) rfl) rfl) ?_)
       refine st (ov_move (v := .int .i64 ((k : Nat) : Int)) rfl ?_)
       have hi641 : k < L.length := (by first | omega | (simp only [lens]; omega))
       refine st (ov_indexAddrN (k := 10) (i := k) Try.underlying22 Try.sizeOf36 rfl hrd342.sl rfl hi641 ?_)
       have hi643 : k < L.length := (by first | omega | (simp only [lens]; omega))
       obtain ⟨hce642, hde642_0, hoke642⟩ := hrd342.ev hi643
       rw [← getD_at default hi643] at hce642 hde642_0 hoke642
       have hsm644 : ((L.getD k default).deps).length * 8 ≤ 140737488355328 := hde642_0.small
       have hcw645 := hS638.cells hce642 (hrd342.foot (ne_of_lt hi643))
       refine st (ov_loadk (k := 10) Try.isAgg36 Try.sizeOf36 rfl rfl hcw645 ?_)
       refine st (ov_buildSlice (k := 10) (parts' := [(0, .agg ((L.getD k default).cells (cellV w325 (sb vl331) (so vl331 + k * 10 + 3))).toArray)]) (c := ((L.getD k default).cells (cellV w325 (sb vl331) (so vl331 + k * 10 + 3))).toArray) Try.underlying22 Try.sizeOf36 Try.zeroValue36 (by decide) rfl (by kernel_rfl) ?_)
       intro w648 b647 hn646
       have hS649 : Sep G336 w325 ((Blk b647 ((L.getD k default).cells (cellV w325 (sb vl331) (so vl331 + k * 10 + 3))).toArray 36) :: (RowE (α := Ev) (alt F335 w325) 36 vo (listK e L k)) :: (Blk b #[.int .i64 ((n : Nat) : Int), vl331] 78) :: (RowE (α := Int) own 3 v165 (vecE n L)) :: (Blk b123 (((getE L (e.origin, e.seq)).getD default).cells v117).toArray 36) :: (RowE (α := Int) own 3 v117 (((getE L (e.origin, e.seq)).getD default).deps)) :: (Blk b12 (e.cells de0).toArray 36) :: Rs) w648 := hS638.new hn646
       have hbk653 := hS649.blk (i := 0) rfl
       have hS654 : Sep G336 w325 ((RowE (α := Ev) (alt F335 w325) 36 vo (listK e L k)) :: (Blk b #[.int .i64 ((n : Nat) : Int), vl331] 78) :: (RowE (α := Int) own 3 v165 (vecE n L)) :: (Blk b123 (((getE L (e.origin, e.seq)).getD default).cells v117).toArray 36) :: (RowE (α := Int) own 3 v117 (((getE L (e.origin, e.seq)).getD default).deps)) :: (Blk b12 (e.cells de0).toArray 36) :: Rs) w648 := hS649.sel 7 [1, 2, 3, 4, 5, 6] (Nat.le_add_left _ _) rfl rfl
       have hS655 : Sep G336 w325 ((RowE (α := Ev) (alt F335 w325) 36 vo (listK e L k)) :: Emp :: (Blk b #[.int .i64 ((n : Nat) : Int), vl331] 78) :: (RowE (α := Int) own 3 v165 (vecE n L)) :: (Blk b123 (((getE L (e.origin, e.seq)).getD default).cells v117).toArray 36) :: (RowE (α := Int) own 3 v117 (((getE L (e.origin, e.seq)).getD default).deps)) :: (Blk b12 (e.cells de0).toArray 36) :: Rs) w648 := hS654.emp1
       refine st (ov_append1S (src := (alt F335 w325)) (bytes := 96) (x1 := (L.getD k default)) hS655 el22 rfl rfl hbk653 (fun _ _ _ => (show _ from alt_in (RdS.evD hF337 (by omega)))) (by first | omega | (simp only [List.length_append, List.length_cons, List.length_nil, List.length_take, List.length_drop]; omega)) rfl ?_)
       intro v651 w650 hS652
       have hr656 := hS652.row (i := 0) rfl
       have hr656s : ((listK e L k) ++ [(L.getD k default)]).length * 96 ≤ 140737488355328 := hr656.2
       refine st (ov_assign (v := v651) rfl ?_)
       refine st_nil ?_
       refine WP_region0 (by kernel_rfl) (fun _ => ?_)
       refine st (ov_move (v := .int .i64 ((k : Nat) : Int)) rfl ?_)
       have hr657 : InR ((k + 1 : Nat) : Int) := by first | omega | (simp only [lens]; omega)
       refine st (ov_add (r := ((k + 1 : Nat) : Int)) (k := .i64) (a := ((k : Nat) : Int)) (b := 1) rfl rfl (by rw [show (((k : Nat) : Int) + 1 : Int) = ((k + 1 : Nat) : Int) by first | omega | (simp only [lens]; omega)]; exact wrap_in hr657) ?_)
       refine st (ov_assign (v := .int .i64 ((k + 1 : Nat) : Int)) rfl ?_)
       refine st_nil ?_
       have hL658 : (listK e L (k + 1)) = (listK e L k) ++ [(L.getD k default)] := (list_pass (by omega) hc640r).1
       rw [← hL658] at hS652
       exact ⟨_, by omega, k + 1, v651, _, rfl, setAll_self ⟨rfl, rfl, (show _ = (.bool (laidB e L (k + 1)) : Value) from (congrArg Value.bool (list_pass (by omega) hc640r).2).symm), rfl, rfl, trivial⟩, by omega, hS652⟩
      ·skip
       have hc640r := hc640
       try simp only [bools] at hc640
       refine WP_cond_t rfl ?_
       refine WP_seq ?_
       refine WP_region0 (by kernel_rfl) (fun _ => ?_)
       refine st (ov_move (v := vo) rfl ?_)
       refine st (ov_loadk (k := 10) Try.isAgg36 Try.sizeOf36 rfl rfl (CellsAt.all (hS638.blk (i := 5) rfl)) ?_)
       refine st (ov_call (f := 23) (vals := [.agg (e.cells de0).toArray]) (cap := []) (show _ = (.func (.func 23) #[] #[] : Value) from rfl) rfl Try.call23 (D_copyEvent (e := e) (RdS.base hde0 hB339) oe hS638) ?_)
       rintro _ w660 ⟨v659, rfl, hS661⟩
       have hr662 := hS661.row (i := 0) rfl
       have hr662s : e.deps.length * 8 ≤ 140737488355328 := hr662.2
       refine st (ov_buildSlice (k := 10) (parts' := [(0, .agg (e.cells v659).toArray)]) (c := (e.cells v659).toArray) Try.underlying22 Try.sizeOf36 Try.zeroValue36 (by decide) rfl (by kernel_rfl) ?_)
       intro w665 b664 hn663
       have hS666 : Sep G336 w325 ((Blk b664 (e.cells v659).toArray 36) :: (RowE (α := Int) own 3 v659 e.deps) :: (RowE (α := Ev) (alt F335 w325) 36 vo (listK e L k)) :: (Blk b #[.int .i64 ((n : Nat) : Int), vl331] 78) :: (RowE (α := Int) own 3 v165 (vecE n L)) :: (Blk b123 (((getE L (e.origin, e.seq)).getD default).cells v117).toArray 36) :: (RowE (α := Int) own 3 v117 (((getE L (e.origin, e.seq)).getD default).deps)) :: (Blk b12 (e.cells de0).toArray 36) :: Rs) w665 := hS661.new hn663
       have hbk670 := hS666.blk (i := 0) rfl
       have hS671 : Sep G336 w325 ((RowE (α := Ev) (alt F335 w325) 36 vo (listK e L k)) :: (RowE (α := Int) own 3 v659 e.deps) :: (Blk b #[.int .i64 ((n : Nat) : Int), vl331] 78) :: (RowE (α := Int) own 3 v165 (vecE n L)) :: (Blk b123 (((getE L (e.origin, e.seq)).getD default).cells v117).toArray 36) :: (RowE (α := Int) own 3 v117 (((getE L (e.origin, e.seq)).getD default).deps)) :: (Blk b12 (e.cells de0).toArray 36) :: Rs) w665 := hS666.sel 8 [2, 1, 3, 4, 5, 6, 7] (Nat.le_add_left _ _) rfl rfl
       refine st (ov_append1S (src := (alt F335 w325)) (bytes := 96) (x1 := e) hS671 el22 rfl rfl hbk670 (fun _ _ hN => alt_own hN oe) (by first | omega | (simp only [List.length_append, List.length_cons, List.length_nil, List.length_take, List.length_drop]; omega)) rfl ?_)
       intro v668 w667 hS669
       have hr672 := hS669.row (i := 0) rfl
       have hr672s : ((listK e L k) ++ [e]).length * 96 ≤ 140737488355328 := hr672.2
       refine st (ov_assign (v := v668) rfl ?_)
       refine st_nil ?_
       refine WP_region0 (by kernel_rfl) (fun _ => ?_)
       refine st (ov_assign (v := .bool true) rfl ?_)
       refine st_nil ?_
       refine WP_region0 (by kernel_rfl) (fun _ => ?_)
       refine st (ov_move (v := v668) rfl ?_)
       refine st (ov_move (v := .pointer (some ⟨b, 0, none⟩)) rfl ?_)
       refine st (ov_nilCheck (b := b) (o := 0) rfl ?_)
       refine st (fd78_1 rfl ?_)
       refine st (ov_load1 (v := vl331) Try.isAgg22 rfl (blk_cellL (hS669.blk (i := 1) rfl) rfl) ?_)
       refine st (ov_move (v := .int .i64 ((k : Nat) : Int)) rfl ?_)
       have hi673 : k < L.length := (by first | omega | (simp only [lens]; omega))
       refine st (ov_indexAddrN (k := 10) (i := k) Try.underlying22 Try.sizeOf36 rfl hrd342.sl rfl hi673 ?_)
       have hi675 : k < L.length := (by first | omega | (simp only [lens]; omega))
       obtain ⟨hce674, hde674_0, hoke674⟩ := hrd342.ev hi675
       rw [← getD_at default hi675] at hce674 hde674_0 hoke674
       have hsm676 : ((L.getD k default).deps).length * 8 ≤ 140737488355328 := hde674_0.small
       have hcw677 := hS669.cells hce674 (hrd342.foot (ne_of_lt hi675))
       refine st (ov_loadk (k := 10) Try.isAgg36 Try.sizeOf36 rfl rfl hcw677 ?_)
       refine st (ov_buildSlice (k := 10) (parts' := [(0, .agg ((L.getD k default).cells (cellV w325 (sb vl331) (so vl331 + k * 10 + 3))).toArray)]) (c := ((L.getD k default).cells (cellV w325 (sb vl331) (so vl331 + k * 10 + 3))).toArray) Try.underlying22 Try.sizeOf36 Try.zeroValue36 (by decide) rfl (by kernel_rfl) ?_)
       intro w680 b679 hn678
       have hS681 : Sep G336 w325 ((Blk b679 ((L.getD k default).cells (cellV w325 (sb vl331) (so vl331 + k * 10 + 3))).toArray 36) :: (RowE (α := Ev) (alt F335 w325) 36 v668 ((listK e L k) ++ [e])) :: (Blk b #[.int .i64 ((n : Nat) : Int), vl331] 78) :: (RowE (α := Int) own 3 v165 (vecE n L)) :: (Blk b123 (((getE L (e.origin, e.seq)).getD default).cells v117).toArray 36) :: (RowE (α := Int) own 3 v117 (((getE L (e.origin, e.seq)).getD default).deps)) :: (Blk b12 (e.cells de0).toArray 36) :: Rs) w680 := hS669.new hn678
       have hbk685 := hS681.blk (i := 0) rfl
       have hS686 : Sep G336 w325 ((RowE (α := Ev) (alt F335 w325) 36 v668 ((listK e L k) ++ [e])) :: (Blk b #[.int .i64 ((n : Nat) : Int), vl331] 78) :: (RowE (α := Int) own 3 v165 (vecE n L)) :: (Blk b123 (((getE L (e.origin, e.seq)).getD default).cells v117).toArray 36) :: (RowE (α := Int) own 3 v117 (((getE L (e.origin, e.seq)).getD default).deps)) :: (Blk b12 (e.cells de0).toArray 36) :: Rs) w680 := hS681.sel 7 [1, 2, 3, 4, 5, 6] (Nat.le_add_left _ _) rfl rfl
       have hS687 : Sep G336 w325 ((RowE (α := Ev) (alt F335 w325) 36 v668 ((listK e L k) ++ [e])) :: Emp :: (Blk b #[.int .i64 ((n : Nat) : Int), vl331] 78) :: (RowE (α := Int) own 3 v165 (vecE n L)) :: (Blk b123 (((getE L (e.origin, e.seq)).getD default).cells v117).toArray 36) :: (RowE (α := Int) own 3 v117 (((getE L (e.origin, e.seq)).getD default).deps)) :: (Blk b12 (e.cells de0).toArray 36) :: Rs) w680 := hS686.emp1
       refine st (ov_append1S (src := (alt F335 w325)) (bytes := 96) (x1 := (L.getD k default)) hS687 el22 rfl rfl hbk685 (fun _ _ _ => (show _ from alt_in (RdS.evD hF337 (by omega)))) (by first | omega | (simp only [List.length_append, List.length_cons, List.length_nil, List.length_take, List.length_drop]; omega)) rfl ?_)
       intro v683 w682 hS684
       have hr688 := hS684.row (i := 0) rfl
       have hr688s : ((listK e L k) ++ [e] ++ [(L.getD k default)]).length * 96 ≤ 140737488355328 := hr688.2
       refine st (ov_assign (v := v683) rfl ?_)
       refine st_nil ?_
       refine WP_region0 (by kernel_rfl) (fun _ => ?_)
       refine st (ov_move (v := .int .i64 ((k : Nat) : Int)) rfl ?_)
       have hr689 : InR ((k + 1 : Nat) : Int) := by first | omega | (simp only [lens]; omega)
       refine st (ov_add (r := ((k + 1 : Nat) : Int)) (k := .i64) (a := ((k : Nat) : Int)) (b := 1) rfl rfl (by rw [show (((k : Nat) : Int) + 1 : Int) = ((k + 1 : Nat) : Int) by first | omega | (simp only [lens]; omega)]; exact wrap_in hr689) ?_)
       refine st (ov_assign (v := .int .i64 ((k + 1 : Nat) : Int)) rfl ?_)
       refine st_nil ?_
       have hL690 : (listK e L (k + 1)) = (listK e L k) ++ [e] ++ [(L.getD k default)] := (list_hit (by omega) hc640r).1
       rw [← hL690] at hS684
       exact ⟨_, by omega, k + 1, v683, _, rfl, setAll_self ⟨rfl, rfl, (show _ = (.bool (laidB e L (k + 1)) : Value) from (congrArg Value.bool (list_hit (by omega) hc640r).2).symm), rfl, rfl, trivial⟩, by omega, hS684⟩
    ·skip
     have hc329r := hc329
     have hc329 := of_decide_eq_true hc329
     refine WP_cond_t rfl ?_
     refine WP_skip ?_
     refine WP_seq ?_
     refine WP_block ?_
     refine WP_seq ?_
     refine WP_region0 (by kernel_rfl) (fun _ => ?_)
     refine st (ov_move (v := .pointer (some ⟨b, 0, none⟩)) rfl ?_)
     refine st (ov_loadk (k := 10) Try.isAgg36 Try.sizeOf36 rfl rfl (CellsAt.all (hS328.blk (i := 3) rfl)) ?_)
     refine st (ov_move (v := .int .i64 ((k : Nat) : Int)) rfl ?_)
     refine st (ov_call (f := 55) (vals := [.pointer (some ⟨b, 0, none⟩), .agg (e.cells de0).toArray, .int .i64 ((k : Nat) : Int)]) (cap := []) (show _ = (.func (.func 55) #[] #[] : Value) from rfl) rfl Try.call55 (D_rknew (e := e) (o := k) hA3 (RdS.base hde0 hB4) oe (by first | omega | (refine ⟨?_, ?_⟩ <;> omega)) hS328 (hd9) (hG.len)) ?_)
     rintro _ w691 ⟨rfl, hS692⟩
     refine st (ov_not (a := (knewE L e k)) rfl ?_)
     refine st_nil ?_
     cases hc693 : !(knewE L e k)
     ·skip
      have hc693r := hc693
      try simp only [bools] at hc693
      refine WP_cond_f rfl ?_
      refine WP_skip ?_
      refine WP_region0 (by kernel_rfl) (fun _ => ?_)
      refine st (ov_move (v := .int .i64 ((k : Nat) : Int)) rfl ?_)
      have hr694 : InR ((k + 1 : Nat) : Int) := by first | omega | (simp only [lens]; omega)
      refine st (ov_add (r := ((k + 1 : Nat) : Int)) (k := .i64) (a := ((k : Nat) : Int)) (b := 1) rfl rfl (by rw [show (((k : Nat) : Int) + 1 : Int) = ((k + 1 : Nat) : Int) by first | omega | (simp only [lens]; omega)]; exact wrap_in hr694) ?_)
      refine st (ov_assign (v := .int .i64 ((k + 1 : Nat) : Int)) rfl ?_)
      refine st_nil ?_
      exact ⟨_, by omega, k + 1, _, rfl, setAll_self ⟨rfl, rfl, rfl, trivial⟩, by omega, (all_step hm (by simpa using hc693)), hS692⟩
     ·skip
      have hc693r := hc693
      try simp only [bools] at hc693
      refine WP_cond_t rfl ?_
      refine WP_seq ?_
      refine WP_region0 (by kernel_rfl) (fun _ => ?_)
      refine st (ov_assign (v := .int .i64 (9)) rfl ?_)
      refine st_nil ?_
      refine WP_ret ?_
      refine fin1 Try.results22 (show _ = (.int .i64 (9) : Value) from rfl) ?_
      have hS695 : Sep G W ((RefS b n L) :: (RowE (α := Int) own 3 v165 (vecE n L)) :: (Blk b123 (((getE L (e.origin, e.seq)).getD default).cells v117).toArray 36) :: (RowE (α := Int) own 3 v117 (((getE L (e.origin, e.seq)).getD default).deps)) :: (Blk b12 (e.cells de0).toArray 36) :: Rs) w691 := hk6 _ _ hS692
      have hS696 : Sep G W ((RefS b n L) :: Rs) w691 := hS695.sel 5 [0] (Nat.le_add_left _ _) rfl rfl
      refine ⟨L, ?_, ?_, hS696⟩
      · rw [add_k hc116 hc129 (by rw [hv9] at hc324; exact hc324) (k := k) (by omega) (by simpa using hc693)]
      · rw [addL_no (by rw [add_k hc116 hc129 (by rw [hv9] at hc324; exact hc324) (k := k) (by omega) (by simpa using hc693)]; decide)]
   ·skip
    have hc324r := hc324
    have hc324 := ndec_true hc324
    refine WP_cond_t rfl ?_
    refine WP_seq ?_
    refine WP_region0 (by kernel_rfl) (fun _ => ?_)
    refine st (ov_assign (v := .int .i64 (9)) rfl ?_)
    refine st_nil ?_
    refine WP_ret ?_
    refine fin1 Try.results22 (show _ = (.int .i64 (9) : Value) from rfl) ?_
    have hS697 : Sep G W ((RefS b n L) :: (RowE (α := Int) own 3 v165 (vecE n L)) :: (Blk b123 (((getE L (e.origin, e.seq)).getD default).cells v117).toArray 36) :: (RowE (α := Int) own 3 v117 (((getE L (e.origin, e.seq)).getD default).deps)) :: (Blk b12 (e.cells de0).toArray 36) :: Rs) w319 := hk6 _ _ hS322
    have hS698 : Sep G W ((RefS b n L) :: Rs) w319 := hS697.sel 5 [0] (Nat.le_add_left _ _) rfl rfl
    refine ⟨L, ?_, ?_, hS698⟩
    · rw [add_s hc116 hc129 (by rw [hv9] at hc324; exact hc324)]
    · rw [addL_no (by rw [add_s hc116 hc129 (by rw [hv9] at hc324; exact hc324)]; decide)]
  ·skip
   have hc129r := hc129
   refine WP_cond_t rfl ?_
   refine WP_seq ?_
   refine WP_region0 (by kernel_rfl) (fun _ => ?_)
   refine st (ov_assign (v := .int .i64 (16)) rfl ?_)
   refine st_nil ?_
   refine WP_ret ?_
   refine fin1 Try.results22 (show _ = (.int .i64 (16) : Value) from rfl) ?_
   have hS699 : Sep G W ((RefS b n L) :: (Blk b123 (((getE L (e.origin, e.seq)).getD default).cells v117).toArray 36) :: (RowE (α := Int) own 3 v117 (((getE L (e.origin, e.seq)).getD default).deps)) :: (Blk b12 (e.cells de0).toArray 36) :: Rs) w126 := hk6 _ _ hS128
   have hS700 : Sep G W ((RefS b n L) :: Rs) w126 := hS699.sel 4 [0] (Nat.le_add_left _ _) rfl rfl
   refine ⟨L, ?_, ?_, hS700⟩
   · rw [add_t hc116 hc129]
   · rw [addL_no (by rw [add_t hc116 hc129]; decide)]
 ·skip
  have hc116r := hc116
  have hc116 := ndec_true hc116
  refine WP_cond_t rfl ?_
  refine WP_seq ?_
  refine WP_region0 (by kernel_rfl) (fun _ => ?_)
  refine st (ov_move (v := .int .i64 ((checkE e ((n : Nat) : Int)))) rfl ?_)
  refine st (ov_assign (v := .int .i64 ((checkE e ((n : Nat) : Int)))) rfl ?_)
  refine st_nil ?_
  refine WP_ret ?_
  refine fin1 Try.results22 (show _ = (.int .i64 ((checkE e ((n : Nat) : Int))) : Value) from rfl) ?_
  have hS701 : Sep G W ((RefS b n L) :: (Blk b12 (e.cells de0).toArray 36) :: Rs) w111 := hk6 _ _ hS114
  have hS702 : Sep G W ((RefS b n L) :: Rs) w111 := hS701.sel 2 [0] (Nat.le_add_left _ _) rfl rfl
  refine ⟨L, ?_, ?_, hS702⟩
  · rw [add_c hc116]
  · rw [addL_no (by rw [add_c hc116]; exact hc116)]

theorem D_rAddL {G : Nat → Prop} {W w : World} {Rs : List HP} {b : Nat} {n : Nat} {L : List Ev} {e : Ev} {de0 : Value} (hde0 : RdS W G de0 e.deps) (oe : e.Ok) (hS0 : Sep G W ((RefS b n L) :: Rs) w) (hG : Good n L) (hn : n ≤ 1000) (hL : L.length ≤ 1000000) : Ret Try.prog 22 [.pointer (some ⟨b, 0, none⟩), .agg (e.cells de0).toArray] w (fun r w' => r = (.int .i64 ((addE n L e)) : Value) ∧ Sep G W ((RefS b n (addL n L e)) :: Rs) w') := by
  refine Ret.mono (D_rAdd hde0 oe hS0 hG hn hL) ?_
  rintro r w' ⟨L1, h1, h2, h3⟩
  subst h2
  exact ⟨h1, h3⟩

end Go.Proofs.Ytmiihhbeclhaoaa
end

section
/- Steps of the proofs of this seat: part R4. -/
set_option linter.unusedSimpArgs false
set_option linter.unusedVariables false
set_option maxRecDepth 8000
set_option maxHeartbeats 4000000
namespace Go.Proofs.Ytmiihhbeclhaoaa
open Go.Proofs Go.RowKit

section
variable {L : List Ev} {key : Int} {k : Nat}
end
theorem D_rAll {G : Nat → Prop} {W w : World} {Rs : List HP} {b : Nat} {n : Nat} {L : List Ev} (hb : (RefS b n L).p W G) (hS0 : Sep G W Rs w) : Ret Try.prog 30 [.pointer (some ⟨b, 0, none⟩)] w (fun r w' => ∃ (v : Value), r = (v : Value) ∧ Sep G W ((RowE (α := Ev) own 36 v L) :: Rs) w') := by
 refine Calls_of_WP (args := [.pointer (some ⟨b, 0, none⟩)]) Try.func30 rfl rfl ?_
 obtain ⟨vl1, hb2, hl3⟩ := RefS.sh hb
 have hsm4 : L.length * 96 ≤ 140737488355328 := hl3.small
 refine WP_seq ?_
 refine WP_region0 (by kernel_rfl) (fun _ => ?_)
 refine st (ov_assign (v := (.slice none 0 0)) rfl ?_)
 refine st_nil ?_
 refine WP_seq ?_
 refine WP_region0 (by kernel_rfl) (fun _ => ?_)
 refine st (ov_assign (v := (.slice none 0 0)) rfl ?_)
 refine st_nil ?_
 refine WP_seq ?_
 refine WP_seq ?_
 refine WP_region0 (by kernel_rfl) (fun _ => ?_)
 refine st (ov_assign (v := .int .i64 (0)) rfl ?_)
 refine st_nil ?_
 refine WP_block ?_
 have hS5 : Sep G W ((RowE (α := Ev) own 36 (.slice none 0 0) ([] : List Ev)) :: Rs) w := hS0.rowNil own 36
 refine WP_loop (fun mq σ wq => ∃ (k : Nat) (vo : Value) (ρ : Env), mq = L.length - k ∧ σ = setAll ρ [(0, .pointer (some ⟨b, 0, none⟩)), (4, .int .i64 ((k : Nat) : Int)), (3, vo)] ∧ (k ≤ L.length) ∧ Sep G W ((RowE (α := Ev) own 36 vo (L.take k)) :: Rs) wq) ⟨0, (.slice none 0 0), _, rfl, setAll_self ⟨rfl, rfl, rfl, trivial⟩, Nat.zero_le _, hS5⟩ ?_
 rintro m7 σ8 w6 ⟨k, vo, ρl1, rfl, rfl, hkk, hS9⟩
 have hr10 := hS9.row (i := 0) rfl
 have hr10s : (L.take k).length * 96 ≤ 140737488355328 := hr10.2
 refine WP_seq ?_
 refine WP_seq ?_
 refine WP_region0 (by kernel_rfl) (fun _ => ?_)
 refine st (ov_move (v := .int .i64 ((k : Nat) : Int)) rfl ?_)
 refine st (ov_move (v := .pointer (some ⟨b, 0, none⟩)) rfl ?_)
 refine st (ov_nilCheck (b := b) (o := 0) rfl ?_)
 refine st (fd78_1 rfl ?_)
 refine st (ov_load1 (v := vl1) Try.isAgg22 rfl (blk_cellL (hS9.gblk hb2) rfl) ?_)
 refine st (ov_len (n := L.length) Try.underlying22 rfl hl3.sl ?_)
 refine st (ov_lss (k := .i64) (a := ((k : Nat) : Int)) (b := ((L.length : Nat) : Int)) rfl rfl ?_)
 refine st_nil ?_
 cases hc11 : decide (((k : Nat) : Int) < ((L.length : Nat) : Int))
 ·skip
  have hc11 := of_decide_eq_false hc11
  refine WP_cond_f rfl ?_
  refine WP_exit ?_
  refine blk_exit ?_
  refine WP_seq ?_
  refine WP_region0 (by kernel_rfl) (fun _ => ?_)
  refine st (ov_move (v := vo) rfl ?_)
  refine st (ov_assign (v := vo) rfl ?_)
  refine st_nil ?_
  refine WP_ret ?_
  refine fin1 Try.results30 (show _ = (vo : Value) from rfl) ?_
  have hk9 : k = L.length := by omega
  rw [hk9, List.take_length] at hS9
  refine ⟨vo, rfl, hS9⟩
 ·skip
  have hc11 := of_decide_eq_true hc11
  refine WP_cond_t rfl ?_
  refine WP_skip ?_
  refine WP_seq ?_
  refine WP_block ?_
  refine WP_region0 (by kernel_rfl) (fun _ => ?_)
  refine st (ov_move (v := vo) rfl ?_)
  refine st (ov_move (v := .pointer (some ⟨b, 0, none⟩)) rfl ?_)
  refine st (ov_nilCheck (b := b) (o := 0) rfl ?_)
  refine st (fd78_1 rfl ?_)
  refine st (ov_load1 (v := vl1) Try.isAgg22 rfl (blk_cellL (hS9.gblk hb2) rfl) ?_)
  refine st (ov_move (v := .int .i64 ((k : Nat) : Int)) rfl ?_)
  have hi12 : k < L.length := (by first | omega | (simp only [lens]; omega))
  refine st (ov_indexAddrN (k := 10) (i := k) Try.underlying22 Try.sizeOf36 rfl hl3.sl rfl hi12 ?_)
  have hi14 : k < L.length := (by first | omega | (simp only [lens]; omega))
  obtain ⟨hce13, hde13_0, hoke13⟩ := hl3.ev hi14
  rw [← getD_at default hi14] at hce13 hde13_0 hoke13
  have hsm15 : ((L.getD k default).deps).length * 8 ≤ 140737488355328 := hde13_0.small
  have hcw16 := hS9.cells hce13 (hl3.foot (ne_of_lt hi14))
  refine st (ov_loadk (k := 10) Try.isAgg36 Try.sizeOf36 rfl rfl hcw16 ?_)
  refine st (ov_call (f := 23) (vals := [.agg ((L.getD k default).cells (cellV W (sb vl1) (so vl1 + k * 10 + 3))).toArray]) (cap := []) (show _ = (.func (.func 23) #[] #[] : Value) from rfl) rfl Try.call23 (D_copyEvent (e := (L.getD k default)) hde13_0 hoke13 hS9) ?_)
  rintro _ w18 ⟨v17, rfl, hS19⟩
  have hr20 := hS19.row (i := 0) rfl
  have hr20s : ((L.getD k default).deps).length * 8 ≤ 140737488355328 := hr20.2
  refine st (ov_buildSlice (k := 10) (parts' := [(0, .agg ((L.getD k default).cells v17).toArray)]) (c := ((L.getD k default).cells v17).toArray) Try.underlying22 Try.sizeOf36 Try.zeroValue36 (by decide) rfl (by kernel_rfl) ?_)
  intro w23 b22 hn21
  have hS24 : Sep G W ((Blk b22 ((L.getD k default).cells v17).toArray 36) :: (RowE (α := Int) own 3 v17 ((L.getD k default).deps)) :: (RowE (α := Ev) own 36 vo (L.take k)) :: Rs) w23 := hS19.new hn21
  have hbk28 := hS24.blk (i := 0) rfl
  have hS29 : Sep G W ((RowE (α := Ev) own 36 vo (L.take k)) :: (RowE (α := Int) own 3 v17 ((L.getD k default).deps)) :: Rs) w23 := hS24.sel 3 [2, 1] (Nat.le_add_left _ _) rfl rfl
  refine st (ov_append1S (src := own) (bytes := 96) (x1 := (L.getD k default)) hS29 el22 rfl rfl hbk28 (fun _ _ hN => ⟨_, rfl, RowE.soft hN, hoke13⟩) (by first | omega | (simp only [List.length_append, List.length_cons, List.length_nil, List.length_take, List.length_drop]; omega)) rfl ?_)
  intro v26 w25 hS27
  have hr30 := hS27.row (i := 0) rfl
  have hr30s : ((L.take k) ++ [(L.getD k default)]).length * 96 ≤ 140737488355328 := hr30.2
  refine st (ov_assign (v := v26) rfl ?_)
  refine st_nil ?_
  refine WP_region0 (by kernel_rfl) (fun _ => ?_)
  refine st (ov_move (v := .int .i64 ((k : Nat) : Int)) rfl ?_)
  have hr31 : InR ((k + 1 : Nat) : Int) := by first | omega | (simp only [lens]; omega)
  refine st (ov_add (r := ((k + 1 : Nat) : Int)) (k := .i64) (a := ((k : Nat) : Int)) (b := 1) rfl rfl (by rw [show (((k : Nat) : Int) + 1 : Int) = ((k + 1 : Nat) : Int) by first | omega | (simp only [lens]; omega)]; exact wrap_in hr31) ?_)
  refine st (ov_assign (v := .int .i64 ((k + 1 : Nat) : Int)) rfl ?_)
  refine st_nil ?_
  have hL32 : (L.take (k + 1)) = (L.take k) ++ [(L.getD k default)] := (takeL_getD (by omega))
  rw [← hL32] at hS27
  exact ⟨_, by omega, k + 1, v26, _, rfl, setAll_self ⟨rfl, rfl, rfl, trivial⟩, by omega, hS27⟩

end Go.Proofs.Ytmiihhbeclhaoaa
end

section
/- Steps of the proofs of this seat: part R5. -/
set_option linter.unusedSimpArgs false
set_option linter.unusedVariables false
set_option maxRecDepth 8000
set_option maxHeartbeats 4000000
namespace Go.Proofs.Ytmiihhbeclhaoaa
open Go.Proofs Go.RowKit

theorem wrap9_range (n : Int) : InR (IntKind.i64.wrap n) := by
  rw [IntKind.wrap_i64]
  omega
theorem D_markInts {G : Nat → Prop} {W w : World} {Rs : List HP} {i : Int} (hi : InR i) (hS0 : Sep G W Rs w) : Ret Try.prog 58 [.int .i64 (i)] w (fun r w' => ∃ (m : Int), r = (.int .i64 (m) : Value) ∧ (InR m) ∧ Sep G W Rs w') := by
 refine Calls_of_WP (args := [.int .i64 (i)]) Try.func58 rfl rfl ?_
 refine WP_seq ?_
 refine WP_region0 (by kernel_rfl) (fun _ => ?_)
 refine st (ov_assign (v := .int .i64 (0)) rfl ?_)
 refine st_nil ?_
 refine WP_seq ?_
 refine WP_region0 (by kernel_rfl) (fun _ => ?_)
 refine st (ov_move (v := .int .i64 (i)) rfl ?_)
 refine st (ov_mul (r := IntKind.i64.wrap (13 * i)) (k := .i64) (a := 13) (b := i) rfl rfl rfl ?_)
 refine st (ov_add (r := IntKind.i64.wrap (7001 + (IntKind.i64.wrap (13 * i)))) (k := .i64) (a := 7001) (b := IntKind.i64.wrap (13 * i)) rfl rfl rfl ?_)
 refine st (ov_assign (v := .int .i64 (IntKind.i64.wrap (7001 + (IntKind.i64.wrap (13 * i))))) rfl ?_)
 refine st_nil ?_
 refine WP_ret ?_
 refine fin1 Try.results58 (show _ = (.int .i64 (IntKind.i64.wrap (7001 + (IntKind.i64.wrap (13 * i)))) : Value) from rfl) ?_
 refine ⟨IntKind.i64.wrap (7001 + (IntKind.i64.wrap (13 * i))), rfl, ?_, hS0⟩
 exact wrap9_range _

theorem D_SpoilInts {G : Nat → Prop} {W w : World} {Rs : List HP} {w0 : World} {f0 : Nat → Prop} {X : Nat → Nat → Prop} {vl : Value} {l : List Int} (hl9 : RdS w0 f0 vl l) (hS0 : Sep G W ((ML w0 f0 X) :: Rs) w) : Ret Try.prog 25 [vl] w (fun r w' => r = (.tuple #[] : Value) ∧ Sep G W ((ML w0 f0 X) :: Rs) w') := by
 have hl9s : l.length * 8 ≤ 140737488355328 := hl9.small
 refine Calls_of_WP (args := [vl]) Try.func25 rfl rfl ?_
 refine WP_seq ?_
 refine WP_region0 (by kernel_rfl) (fun _ => ?_)
 refine st (ov_assign (v := .int .i64 (0)) rfl ?_)
 refine st_nil ?_
 refine WP_block ?_
 refine WP_loop (fun mq σ wq => ∃ (k : Nat) (ρ : Env), mq = l.length - k ∧ σ = setAll ρ [(0, vl), (2, .int .i64 ((k : Nat) : Int))] ∧ (k ≤ l.length) ∧ Sep G W ((ML w0 f0 X) :: Rs) wq) ⟨0, _, rfl, setAll_self ⟨rfl, rfl, trivial⟩, Nat.zero_le _, hS0⟩ ?_
 rintro m2 σ3 w1 ⟨k, ρl1, rfl, rfl, hkk, hS4⟩
 refine WP_seq ?_
 refine WP_seq ?_
 refine WP_region0 (by kernel_rfl) (fun _ => ?_)
 refine st (ov_move (v := .int .i64 ((k : Nat) : Int)) rfl ?_)
 refine st (ov_move (v := vl) rfl ?_)
 refine st (ov_len (n := l.length) Try.underlying34 rfl hl9.sl ?_)
 refine st (ov_lss (k := .i64) (a := ((k : Nat) : Int)) (b := ((l.length : Nat) : Int)) rfl rfl ?_)
 refine st_nil ?_
 cases hc5 : decide (((k : Nat) : Int) < ((l.length : Nat) : Int))
 ·skip
  have hc5 := of_decide_eq_false hc5
  refine WP_cond_f rfl ?_
  refine WP_exit ?_
  refine blk_exit ?_
  refine fin0 Try.results25 ?_
  refine ⟨rfl, hS4⟩
 ·skip
  have hc5 := of_decide_eq_true hc5
  refine WP_cond_t rfl ?_
  refine WP_skip ?_
  refine WP_seq ?_
  refine WP_block ?_
  refine WP_region0 (by kernel_rfl) (fun _ => ?_)
  refine st (ov_move (v := vl) rfl ?_)
  refine st (ov_move (v := .int .i64 ((k : Nat) : Int)) rfl ?_)
  refine st (ov_move (v := .int .i64 ((k : Nat) : Int)) rfl ?_)
  have hr6 : InR ((k + 7 : Nat) : Int) := by first | omega | (simp only [lens]; omega)
  refine st (ov_add (r := ((k + 7 : Nat) : Int)) (k := .i64) (a := ((k : Nat) : Int)) (b := 7) rfl rfl (by rw [show (((k : Nat) : Int) + 7 : Int) = ((k + 7 : Nat) : Int) by first | omega | (simp only [lens]; omega)]; exact wrap_in hr6) ?_)
  refine st (ov_call (f := 58) (vals := [.int .i64 ((k + 7 : Nat) : Int)]) (cap := []) (show _ = (.func (.func 58) #[] #[] : Value) from rfl) rfl Try.call58 (D_markInts (i := ((k + 7 : Nat) : Int)) hr6 hS4) ?_)
  rintro _ w9 ⟨m7, rfl, hr8, hS10⟩
  have hi11 : k < l.length := (by first | omega | (simp only [lens]; omega))
  refine st (ov_indexAddrN (k := 1) (i := k) Try.underlying34 Try.sizeOf3 rfl hl9.sl rfl hi11 ?_)
  have hi14 : k < l.length := (by first | omega | (simp only [lens]; omega))
  obtain ⟨hce13, _⟩ := hl9.int hi14
  refine stn (ov_storeML (b := sb vl) (o := so vl + k * 1) (u := .int .i64 (m7)) (us := [.int .i64 (m7)]) (X' := X) hS10 Try.sizeOf3 rfl (hl9.foot (ne_of_lt hi14)) rfl rfl (all1 ⟨rfl, trivial⟩) hce13 rfl (Nat.zero_lt_succ _) (fun j9 v9 u9 a9 b9 => .inr (MildAll.at_ (show MildAll [.int .i64 (l[k])] [.int .i64 (m7)] from ⟨MildV.num (by omega), trivial⟩) j9 v9 u9 a9 b9)) (fun _ _ h => h) ?_)
  intro w12 hS15
  refine st_nil ?_
  refine WP_region0 (by kernel_rfl) (fun _ => ?_)
  refine st (ov_move (v := .int .i64 ((k : Nat) : Int)) rfl ?_)
  have hr16 : InR ((k + 1 : Nat) : Int) := by first | omega | (simp only [lens]; omega)
  refine st (ov_add (r := ((k + 1 : Nat) : Int)) (k := .i64) (a := ((k : Nat) : Int)) (b := 1) rfl rfl (by rw [show (((k : Nat) : Int) + 1 : Int) = ((k + 1 : Nat) : Int) by first | omega | (simp only [lens]; omega)]; exact wrap_in hr16) ?_)
  refine st (ov_assign (v := .int .i64 ((k + 1 : Nat) : Int)) rfl ?_)
  refine st_nil ?_
  exact ⟨_, by omega, k + 1, _, rfl, setAll_self ⟨rfl, rfl, trivial⟩, by omega, hS15⟩

theorem D_SpoilEvents {G : Nat → Prop} {W w : World} {Rs : List HP} {w0 : World} {f0 : Nat → Prop} {vl : Value} {l : List Ev} (hl9 : RdS w0 f0 vl l) (hS0 : Sep G W ((ML w0 f0 noX) :: Rs) w) : Ret Try.prog 31 [vl] w (fun r w' => r = (.tuple #[] : Value) ∧ Sep G W Rs w') := by
 have hl9s : l.length * 96 ≤ 140737488355328 := hl9.small
 refine Calls_of_WP (args := [vl]) Try.func31 rfl rfl ?_
 refine WP_seq ?_
 refine WP_region0 (by kernel_rfl) (fun _ => ?_)
 refine st (ov_assign (v := .int .i64 (0)) rfl ?_)
 refine st_nil ?_
 refine WP_block ?_
 refine WP_loop (fun mq σ wq => ∃ (k : Nat) (ρ : Env), mq = l.length - k ∧ σ = setAll ρ [(0, vl), (2, .int .i64 ((k : Nat) : Int))] ∧ (k ≤ l.length) ∧ Sep G W ((ML w0 f0 noX) :: Rs) wq) ⟨0, _, rfl, setAll_self ⟨rfl, rfl, trivial⟩, Nat.zero_le _, hS0⟩ ?_
 rintro m2 σ3 w1 ⟨k, ρl1, rfl, rfl, hkk, hS4⟩
 refine WP_seq ?_
 refine WP_seq ?_
 refine WP_region0 (by kernel_rfl) (fun _ => ?_)
 refine st (ov_move (v := .int .i64 ((k : Nat) : Int)) rfl ?_)
 refine st (ov_move (v := vl) rfl ?_)
 refine st (ov_len (n := l.length) Try.underlying22 rfl hl9.sl ?_)
 refine st (ov_lss (k := .i64) (a := ((k : Nat) : Int)) (b := ((l.length : Nat) : Int)) rfl rfl ?_)
 refine st_nil ?_
 cases hc5 : decide (((k : Nat) : Int) < ((l.length : Nat) : Int))
 ·skip
  have hc5 := of_decide_eq_false hc5
  refine WP_cond_f rfl ?_
  refine WP_exit ?_
  refine blk_exit ?_
  refine fin0 Try.results31 ?_
  have hS6 : Sep G W Rs w1 := hS4.sel 1 [] (Nat.le_add_left _ _) rfl rfl
  refine ⟨rfl, hS6⟩
 ·skip
  have hc5 := of_decide_eq_true hc5
  refine WP_cond_t rfl ?_
  refine WP_skip ?_
  refine WP_seq ?_
  refine WP_block ?_
  refine WP_seq ?_
  refine WP_region0 (by kernel_rfl) (fun _ => ?_)
  refine st (ov_move (v := vl) rfl ?_)
  refine st (ov_move (v := .int .i64 ((k : Nat) : Int)) rfl ?_)
  have hi7 : k < l.length := (by first | omega | (simp only [lens]; omega))
  refine st (ov_indexAddrN (k := 10) (i := k) Try.underlying22 Try.sizeOf36 rfl hl9.sl rfl hi7 ?_)
  refine st (fd36_2 rfl ?_)
  have hi9 : k < l.length := (by first | omega | (simp only [lens]; omega))
  obtain ⟨hce8, hde8_0, _⟩ := hl9.ev hi9
  rw [← getD_at default hi9] at hce8 hde8_0
  refine st (ov_load1 (v := (cellV w0 (sb vl) (so vl + k * 10 + 3))) Try.isAgg34 rfl (hS4.mlHead (i := 0) rfl (hl9.foot (ne_of_lt hi9)) hce8 (j := 3) rfl (fun h => h) (IsSl.num hde8_0.sl)) ?_)
  refine st (ov_call (f := 25) (vals := [(cellV w0 (sb vl) (so vl + k * 10 + 3))]) (cap := []) (show _ = (.func (.func 25) #[] #[] : Value) from rfl) rfl Try.call25 (D_SpoilInts  hde8_0 hS4) ?_)
  rintro _ w10 ⟨rfl, hS11⟩
  refine st_nil ?_
  refine WP_seq ?_
  refine WP_region0 (by kernel_rfl) (fun _ => ?_)
  refine st (ov_move (v := vl) rfl ?_)
  refine st (ov_move (v := .int .i64 ((k : Nat) : Int)) rfl ?_)
  have hi12 : k < l.length := (by first | omega | (simp only [lens]; omega))
  refine st (ov_indexAddrN (k := 10) (i := k) Try.underlying22 Try.sizeOf36 rfl hl9.sl rfl hi12 ?_)
  refine st (fd36_1 rfl ?_)
  have hi15 : k < l.length := (by first | omega | (simp only [lens]; omega))
  obtain ⟨hce14, hde14_0, _⟩ := hl9.ev hi15
  rw [← getD_at default hi15] at hce14 hde14_0
  refine stn (ov_storeML (b := sb vl) (o := so vl + k * 10 + 2) (u := .int .i64 (77)) (us := [.int .i64 (77)]) (X' := noX) hS11 Try.sizeOf3 rfl (hl9.foot (ne_of_lt hi15)) rfl rfl (all1 ⟨rfl, trivial⟩) (CellsAt.sub hce14 2 (cs2 := [.int .i64 ((l.getD k default).lam)]) rfl) rfl (Nat.zero_lt_succ _) (fun j9 v9 u9 a9 b9 => .inr (MildAll.at_ (show MildAll [.int .i64 ((l.getD k default).lam)] [.int .i64 (77)] from ⟨MildV.num (by decide), trivial⟩) j9 v9 u9 a9 b9)) (fun _ _ h => h) ?_)
  intro w13 hS16
  refine st_nil ?_
  refine WP_region0 (by kernel_rfl) (fun _ => ?_)
  refine st (ov_move (v := vl) rfl ?_)
  refine st (ov_move (v := .int .i64 ((k : Nat) : Int)) rfl ?_)
  have hi17 : k < l.length := (by first | omega | (simp only [lens]; omega))
  refine st (ov_indexAddrN (k := 10) (i := k) Try.underlying22 Try.sizeOf36 rfl hl9.sl rfl hi17 ?_)
  refine st (fd36_7 rfl ?_)
  have hi20 : k < l.length := (by first | omega | (simp only [lens]; omega))
  obtain ⟨hce19, hde19_0, _⟩ := hl9.ev hi20
  rw [← getD_at default hi20] at hce19 hde19_0
  refine stn (ov_storeML (b := sb vl) (o := so vl + k * 10 + 8) (u := .int .i64 (-7)) (us := [.int .i64 (-7)]) (X' := noX) hS16 Try.sizeOf3 rfl (hl9.foot (ne_of_lt hi20)) rfl rfl (all1 ⟨rfl, trivial⟩) (CellsAt.sub hce19 8 (cs2 := [.int .i64 ((l.getD k default).arg)]) rfl) rfl (Nat.zero_lt_succ _) (fun j9 v9 u9 a9 b9 => .inr (MildAll.at_ (show MildAll [.int .i64 ((l.getD k default).arg)] [.int .i64 (-7)] from ⟨MildV.num (by decide), trivial⟩) j9 v9 u9 a9 b9)) (fun _ _ h => h) ?_)
  intro w18 hS21
  refine st_nil ?_
  refine WP_region0 (by kernel_rfl) (fun _ => ?_)
  refine st (ov_move (v := .int .i64 ((k : Nat) : Int)) rfl ?_)
  have hr22 : InR ((k + 1 : Nat) : Int) := by first | omega | (simp only [lens]; omega)
  refine st (ov_add (r := ((k + 1 : Nat) : Int)) (k := .i64) (a := ((k : Nat) : Int)) (b := 1) rfl rfl (by rw [show (((k : Nat) : Int) + 1 : Int) = ((k + 1 : Nat) : Int) by first | omega | (simp only [lens]; omega)]; exact wrap_in hr22) ?_)
  refine st (ov_assign (v := .int .i64 ((k + 1 : Nat) : Int)) rfl ?_)
  refine st_nil ?_
  exact ⟨_, by omega, k + 1, _, rfl, setAll_self ⟨rfl, rfl, trivial⟩, by omega, hS21⟩

end Go.Proofs.Ytmiihhbeclhaoaa
end
