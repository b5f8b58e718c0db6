/- Texts of this claim, part 7. -/
import Derived.Test.YtmiihhbeclhaoaaY6
set_option linter.unusedSimpArgs false
set_option linter.unusedVariables false
set_option linter.unusedSectionVars false
/- Steps of the proofs of this seat: part A9. -/
set_option maxRecDepth 8000
set_option maxHeartbeats 4000000
namespace Go.Proofs.Ytmiihhbeclhaoaa
open Go.Proofs Go.RowKit

theorem QM {P : Program} {σ : Env} {w : World} {fn : Func} {a u : Tmp} {t : TypeId} {R : Value → World → Prop} {b k : Nat} {cs : List Value} {v' : Value} (hr : fn.results = #[.cell a t, .tmp u]) (hA : ∀ w, (isAgg t).run P w = .ok true w) (hS : ∀ w, (sizeOf t).run P w = .ok k w) (hk : cs.length = k)
    (hv : σ a = .pointer (some ⟨b, 0, none⟩)) (hc : CellsAt w b 0 cs) (hu : σ u = v') (h : R (.tuple #[.agg cs.toArray, v']) w) : Yr P fn R .ret σ w := by
  subst hk
  refine ⟨_, fun tmps ht => ?_, h⟩
  have := yW (P := P) (w := w) b 0 cs 0 #[] (fun j hj => by simpa using hc j hj)
  have e : tmps[a]?.getD undef = .pointer (some ⟨b, 0, none⟩) := by rw [← hv, ← ht a]; simp
  have e2 : tmps[u]?.getD undef = v' := by rw [← hu, ← ht u]; simp
  simp [results, hr, e, e2, asAddr, loadVar, hA, hS, loadCells, this, go_sem]
theorem Yj {d : Option Tmp} {ty : TypeId} {pos : String} {af : Array Edge} {g : Option (Nat × Bool)} {σ : Env} {w : World} {K : Value → World → Prop} {x : Operand} {b o : Nat} (hx : ev σ x = .pointer (some ⟨b, o, none⟩)) (h : K (.pointer (some ⟨b, o + 1, none⟩)) w) : opV Try.prog ⟨d, .fieldAddr 59 x 1, ty, pos, af, g⟩ σ w K := zR Try.underlying59 rfl rfl (fun w => ⟨0, Try.sizeOf57 w⟩) hx h
theorem Ja {G : Nat → Prop} {W w : World} {Rs : List HP} {b : Nat} {n : Nat} {L : List Ev} (hb : (SetO b n L).p W G) {o q : Int} (ho : InR o) (hq : InR q) (hS0 : Sep G W Rs w) : Ret Try.prog 15 [.pointer (some ⟨b, 0, none⟩), .agg #[.int .i64 (o), .int .i64 (q)]] w (fun r w' => ∃ (v : Value), r = (.tuple #[.agg (((zq L (o, q)).getD default).cells v).toArray, .bool (zq L (o, q)).isSome] : Value) ∧ (((zq L (o, q)).getD default).Ok) ∧ Sep G W ((RowE (α := Int) own 3 v (((zq L (o, q)).getD default).deps)) :: Rs) w') := by
 refine zp (args := [.pointer (some ⟨b, 0, none⟩), .agg #[.int .i64 (o), .int .i64 (q)]]) Try.func15 rfl rfl ?_
 obtain ⟨vv1, m2, R3, hb4, hv5, hr6⟩ := SetO.sh hb
 have hsm7 : (zz n L).length * 8 ≤ 140737488355328 := hv5.small
 refine zc ?_
 refine za (by kernel_rfl) (fun _ => ?_)
 refine st (yg (v := .agg #[.int .i64 (o), .int .i64 (q)]) rfl ?_)
 intro w10 b9 hn8
 have hS11 := hS0.new hn8
 refine st (ye Try.zeroValue36 ?_)
 intro w14 b13 hn12
 have hS15 := hS11.new hn12
 refine st (zd (v := .bool false) rfl ?_)
 refine ze ?_
 refine zc ?_
 obtain ⟨x16, vd17, hx18, hv19, hok20, hd21, hb22⟩ := hr6.at_ (o, q)
 have hsm23 : x16.deps.length * 8 ≤ 140737488355328 := hd21.small
 refine zM ((fun TT pp0 => WF [fun vals wq => Sep G W (pp0 :: TT) wq, fun vals wq => ∃ (b97 : Nat), (vals 9 = (.pointer (some ⟨b97, 0, none⟩) : Value)) ∧ Sep G W ((Blk b97 #[.int .i64 (0), .int .i64 (0), .int .i64 (0), (.slice none 0 0), .int .i64 (0), .int .i64 (0), .int .i64 (0), .int .i64 (0), .int .i64 (0), .int .i64 (0)] 36) :: pp0 :: TT) wq, fun vals wq => ∃ (b97 : Nat), (vals 9 = (.pointer (some ⟨b97, 0, none⟩) : Value)) ∧ Sep G W ((Blk b97 (x16.cells vd17).toArray 36) :: pp0 :: TT) wq]) ((Blk b9 #[.int .i64 (o), .int .i64 (q)] 33) :: Rs) (Blk b13 #[.int .i64 (0), .int .i64 (0), .int .i64 (0), (.slice none 0 0), .int .i64 (0), .int .i64 (0), .int .i64 (0), .int .i64 (0), .int .i64 (0), .int .i64 (0)] 36)) (AF [Vl 0 (.pointer (some ⟨b, 0, none⟩)), Vl 1 (.pointer (some ⟨b, 0, none⟩)), Vl 2 (.pointer (some ⟨b, 1, none⟩)), Vl 3 (.map (some m2)), Vl 4 (.agg #[.int .i64 (o), .int .i64 (q)]), Vl 5 (.tuple #[.agg (x16.cells vd17).toArray, .bool ((zq L (o, q)).isSome)]), Vl 6 (.tuple #[.agg (x16.cells vd17).toArray, .bool ((zq L (o, q)).isSome)]), Vl 7 (.agg (x16.cells vd17).toArray), Vl 8 (.bool ((zq L (o, q)).isSome)), fun _ => True, fun _ => True, Vl 11 (.bool ((zq L (o, q)).isSome))]) [[], [0], [0, 1], [0, 1, 2], [], [0, 1, 2, 3, 4], [0, 1, 2, 3, 4, 5], [0, 1, 2, 3, 4, 5, 6], [0, 1, 2, 3, 4, 5, 6], [], [0, 1, 2, 3, 4, 5, 6, 7, 9], [0, 1, 2, 3, 4, 5, 6, 7, 8, 9, 10]] [9, 10] [(0, 1), (0, 1), (0, 1), (0, 1), (0, 1), (0, 1), (0, 1), (0, 1), (0, 2), (0, 0), (1, 1), (2, 2)] (by kernel_rfl) (by kernel_rfl) (by kernel_rfl) rfl (by kernel_rfl) (by kernel_rfl) (fun _ h1 h2 h3 h4 _ => hS15.same h1 h2 h3 h4) ?_ (yc ⟨dA, dA, dA, dA, dA, dA, dA, dA, dA, dT, dT, dA, trivial⟩) ⟨?_, ?_, ?_, ?_, ?_, ?_, ?_, ?_, ?_, ?_, ?_, ?_, trivial⟩ ?_
 ·intro k vals vals' w hv h
  have e : ∀ j ∈ ([9, 10] : List Nat), vals' j = vals j := hv
  match k, h with
  | 0, h => exact h
  | 1, h => exact (by simpa only [WF, List.getElem?_cons_zero, List.getElem?_cons_succ, e 9 (by decide)] using h)
  | 2, h => exact (by simpa only [WF, List.getElem?_cons_zero, List.getElem?_cons_succ, e 9 (by decide)] using h)
  | _ + 3, _ => trivial
 ·intro k119 vals w120 h123 h124 hW122 hA121
  refine obl rfl ?_
  exact zb (v := .pointer (some ⟨b, 0, none⟩)) rfl (fun vals' hv _ => ⟨rfl, hv⟩)
 ·intro k125 vals w126 h129 h130 hW128 hA127
  have e131 := hA127 0 (by decide)
  refine obl rfl ?_
  exact zn (b := b) (o := 0) e131 (fun vals' hv _ => ⟨rfl, hv⟩)
 ·intro k132 vals w133 h136 h137 hW135 hA134
  have e138 := hA134 1 (by decide)
  refine obl rfl ?_
  exact Yj e138 (fun vals' hv _ => ⟨rfl, hv⟩)
 ·intro k139 vals w140 h143 h144 hW142 hA141
  have hkk : k139 = 0 ∨ k139 = 1 := by have h1 : 0 ≤ k139 := h143; have h2 : k139 ≤ 1 := h144; omega
  rcases hkk with rfl | rfl
  ·skip
   have hS145 : Sep _ _ _ _ := hW142
   have e146 := hA141 2 (by decide)
   refine obl rfl ?_
   exact zg (v := .map (some m2)) Try.isAgg57 e146 (zf (hS145.gblk hb4) rfl) (fun vals' hv _ => ⟨rfl, hv⟩)
  ·skip
   obtain ⟨b97, he100, hS147⟩ := hW142
   have e148 := hA141 2 (by decide)
   refine obl rfl ?_
   exact zg (v := .map (some m2)) Try.isAgg57 e148 (zf (hS147.gblk hb4) rfl) (fun vals' hv _ => ⟨rfl, hv⟩)
 ·intro k149 vals w150 h153 h154 hW152 hA151
  have hkk : k149 = 0 ∨ k149 = 1 := by have h1 : 0 ≤ k149 := h153; have h2 : k149 ≤ 1 := h154; omega
  rcases hkk with rfl | rfl
  ·skip
   have hS155 : Sep _ _ _ _ := hW152
   refine obl rfl ?_
   exact zr (k := 2) Try.isAgg33 Try.sizeOf33 rfl rfl (CellsAt.all (hS155.blk (i := 1) rfl)) (fun vals' hv _ => ⟨rfl, hv⟩)
  ·skip
   obtain ⟨b97, he100, hS156⟩ := hW152
   refine obl rfl ?_
   exact zr (k := 2) Try.isAgg33 Try.sizeOf33 rfl rfl (CellsAt.all (hS156.blk (i := 2) rfl)) (fun vals' hv _ => ⟨rfl, hv⟩)
 ·intro k157 vals w158 h161 h162 hW160 hA159
  have hkk : k157 = 0 ∨ k157 = 1 := by have h1 : 0 ≤ k157 := h161; have h2 : k157 ≤ 1 := h162; omega
  rcases hkk with rfl | rfl
  ·skip
   have hS163 : Sep _ _ _ _ := hW160
   have e164 := hA159 3 (by decide)
   have e165 := hA159 4 (by decide)
   refine obl rfl ?_
   exact xM (k := (o, q)) hS163 hr6 K2 Try.underlying57 Try.zeroValue36 e164 (show _ = (.agg #[.int .i64 (o), .int .i64 (q)] : Value) from e165) hv19 hb22 (fun vals' hv _ => ⟨rfl, hv⟩)
  ·skip
   obtain ⟨b97, he100, hS166⟩ := hW160
   have e167 := hA159 3 (by decide)
   have e168 := hA159 4 (by decide)
   refine obl rfl ?_
   exact xM (k := (o, q)) hS166 hr6 K2 Try.underlying57 Try.zeroValue36 e167 (show _ = (.agg #[.int .i64 (o), .int .i64 (q)] : Value) from e168) hv19 hb22 (fun vals' hv _ => ⟨rfl, hv⟩)
 ·intro k169 vals w170 h173 h174 hW172 hA171
  have e175 := hA171 5 (by decide)
  refine obl rfl ?_
  exact zb (v := .tuple #[.agg (x16.cells vd17).toArray, .bool ((zq L (o, q)).isSome)]) e175 (fun vals' hv _ => ⟨rfl, hv⟩)
 ·intro k176 vals w177 h180 h181 hW179 hA178
  have e182 := hA178 6 (by decide)
  refine obl rfl ?_
  exact zV (vs := [.agg (x16.cells vd17).toArray, .bool ((zq L (o, q)).isSome)]) (i := 0) (v := .agg (x16.cells vd17).toArray) e182 rfl (fun vals' hv _ => ⟨rfl, hv⟩)
 ·intro k183 vals w184 h187 h188 hW186 hA185
  have e189 := hA185 6 (by decide)
  refine obl rfl ?_
  exact zV (vs := [.agg (x16.cells vd17).toArray, .bool ((zq L (o, q)).isSome)]) (i := 1) (v := .bool ((zq L (o, q)).isSome)) e189 rfl (fun vals' hv _ => ⟨rfl, hv⟩)
 ·intro k89 vals w90 h93 h94 hW92 hA91
  obtain rfl : k89 = 0 := Nat.le_antisymm h94 h93
  have hS95 : Sep _ _ _ _ := hW92
  refine obl rfl ?_
  refine (ye Try.zeroValue36 ?_)
  intro w98 b97 hn96
  have hS99 := hS95.new hn96
  intro vals' hv hv'
  refine ⟨?_, trivial⟩
  show ∃ (b97 : Nat), (vals' 9 = (.pointer (some ⟨b97, 0, none⟩) : Value)) ∧ Sep G W ((Blk b97 #[.int .i64 (0), .int .i64 (0), .int .i64 (0), (.slice none 0 0), .int .i64 (0), .int .i64 (0), .int .i64 (0), .int .i64 (0), .int .i64 (0), .int .i64 (0)] 36) :: (Blk b13 #[.int .i64 (0), .int .i64 (0), .int .i64 (0), (.slice none 0 0), .int .i64 (0), .int .i64 (0), .int .i64 (0), .int .i64 (0), .int .i64 (0), .int .i64 (0)] 36) :: (Blk b9 #[.int .i64 (o), .int .i64 (q)] 33) :: Rs) w98
  exact ⟨b97, hv, hS99⟩
 ·intro k101 vals w102 h105 h106 hW104 hA103
  obtain rfl : k101 = 1 := Nat.le_antisymm h106 h105
  obtain ⟨b97, he100, hS107⟩ := hW104
  have e108 := hA103 7 (by decide)
  refine obl rfl ?_
  refine (zY (v := .agg (x16.cells vd17).toArray) (c' := (x16.cells vd17).toArray) Try.sizeOf36 he100 e108 (hS107.blk (i := 0) rfl) (yU ⟨rfl, rfl, rfl, hd21.sl.one, rfl, rfl, rfl, rfl, rfl, rfl, trivial⟩) (Nat.le_of_ble_eq_true rfl) rfl ?_)
  intro w109 hp110
  have hS111 := hS107.pt0 hp110
  intro vals' hv hv'
  refine ⟨?_, trivial⟩
  show ∃ (b97 : Nat), (vals' 9 = (.pointer (some ⟨b97, 0, none⟩) : Value)) ∧ Sep G W ((Blk b97 (x16.cells vd17).toArray 36) :: (Blk b13 #[.int .i64 (0), .int .i64 (0), .int .i64 (0), (.slice none 0 0), .int .i64 (0), .int .i64 (0), .int .i64 (0), .int .i64 (0), .int .i64 (0), .int .i64 (0)] 36) :: (Blk b9 #[.int .i64 (o), .int .i64 (q)] 33) :: Rs) w109
  exact ⟨b97, (by rw [hv' 9 (by decide)]; exact he100), hS111⟩
 ·intro k190 vals w191 h194 h195 hW193 hA192
  have e196 := hA192 8 (by decide)
  refine obl rfl ?_
  exact zd (v := .bool ((zq L (o, q)).isSome)) e196 (fun vals' hv _ => ⟨rfl, hv⟩)
 intro vals w197 hW198 hA199
 obtain ⟨b97, he100, hS200⟩ := hW198
 have e201 := hA199 11 (by decide)
 refine yb (kv := [(0, .pointer (some ⟨b, 0, none⟩)), (1, .agg #[.int .i64 (o), .int .i64 (q)]), (3, .pointer (some ⟨b9, 0, none⟩)), (4, .pointer (some ⟨b13, 0, none⟩)), (5, .bool false), (6, .pointer (some ⟨b97, 0, none⟩)), (7, .bool ((zq L (o, q)).isSome))]) ⟨rfl, rfl, rfl, rfl, rfl, (by exact he100), (by exact e201), trivial⟩ (fun ρw197 => ?_)
 refine ze ?_
 refine zc ?_
 refine za (by kernel_rfl) (fun _ => ?_)
 refine st (zr (k := 10) Try.isAgg36 Try.sizeOf36 rfl rfl (CellsAt.all (hS200.blk (i := 0) rfl)) ?_)
 refine st (zj (f := 38) (vals := [.agg (x16.cells vd17).toArray]) (cap := []) rfl rfl Try.call38 (YQ (e := x16) hd21 hok20 hS200) ?_)
 rintro _ w203 ⟨v202, rfl, hS204⟩
 have hr205 := hS204.row (i := 0) rfl
 have hr205s : _ * 8 ≤ _ := hr205.2
 refine st (zb (v := .bool ((zq L (o, q)).isSome)) rfl ?_)
 refine stn (zY (v := .agg (x16.cells v202).toArray) (c' := (x16.cells v202).toArray) Try.sizeOf36 rfl rfl (hS204.blk (i := 2) rfl) (yU ⟨rfl, rfl, rfl, hr205.1.one, rfl, rfl, rfl, rfl, rfl, rfl, trivial⟩) (Nat.le_of_ble_eq_true rfl) rfl ?_)
 intro w206 hp207
 have hS208 := hS204.pt2 hp207
 refine st (zd (v := .bool ((zq L (o, q)).isSome)) rfl ?_)
 refine ze ?_
 refine zw ?_
 refine QM (b := b13) Try.results15 Try.isAgg36 Try.sizeOf36 rfl rfl (CellsAt.all (hS208.blk (i := 2) rfl)) (show _ = (.bool ((zq L (o, q)).isSome) : Value) from rfl) ?_
 have hS209 : Sep G W ((RowE (α := Int) own 3 v202 x16.deps) :: Rs) w206 := hS208.sel 4 [0] (Nat.le_add_left _ _) rfl rfl
 subst hx18
 refine ⟨v202, rfl, ?_, hS209⟩
 exact hok20

def yN (L : List Ev) (e : Ev) (o : Nat) : Bool := decide (e.deps.getD o 0 = 0) || match zq L ((o : Int), e.deps.getD o 0) with
  | none => false
  | some x => decide (x.lam < e.lam) && (List.range x.deps.length).all fun i => decide (x.deps.getD i 0 ≤ e.deps.getD i 0)
theorem Kb {L : List Ev} {e : Ev} {o : Nat} (h : e.deps.getD o 0 = 0) : yN L e o = true := by unfold yN; rw [decide_eq_true h]; rfl
theorem QC {L : List Ev} {e : Ev} {o : Nat} (h : ¬ e.deps.getD o 0 = 0) (hn : (zq L ((o : Int), e.deps.getD o 0)).isSome = false) : yN L e o = false := by
  unfold yN
  rw [Option.isSome_eq_false_iff, Option.isNone_iff_eq_none] at hn
  rw [hn, decide_eq_false h]; rfl
theorem Yd {L : List Ev} {e x : Ev} {o : Nat} (h : ¬ e.deps.getD o 0 = 0) (hx : x = (zq L ((o : Int), e.deps.getD o 0)).getD default) (hn : (zq L ((o : Int), e.deps.getD o 0)).isSome = true) :
    yN L e o = (decide (x.lam < e.lam) && (List.range x.deps.length).all fun i => decide (x.deps.getD i 0 ≤ e.deps.getD i 0)) := by
  unfold yN
  obtain ⟨y, hy⟩ := Option.isSome_iff_exists.1 hn
  rw [hy] at hx
  simp only [Option.getD_some] at hx
  subst hx
  rw [hy]; simp only [decide_eq_false h, Bool.false_or]
theorem Zi {L : List Ev} {k : Int × Int} {x : Ev} (h : zq L k = some x) : x ∈ L ∧ x.origin = k.1 ∧ x.seq = k.2 := by
  have h1 := List.mem_of_find?_eq_some h
  have h2 := List.find?_some h
  simp only [decide_eq_true_eq] at h2
  exact ⟨h1, h2⟩
theorem WD {n : Nat} {L : List Ev} {k : Int × Int} {x : Ev} (hl : ∀ y ∈ L, y.deps.length = n) (hx : x = (zq L k).getD default) (hn : (zq L k).isSome = true) : x.deps.length = n := by
  obtain ⟨y, hy⟩ := Option.isSome_iff_exists.1 hn
  rw [hy] at hx
  simp only [Option.getD_some] at hx
  subst hx
  exact hl _ (Zi hy).1
theorem Jm {G : Nat → Prop} {W w : World} {Rs : List HP} {b : Nat} {n : Nat} {L : List Ev} (hb : (SetO b n L).p W G) {e : Ev} {de0 : Value} (hde0 : RdS W G de0 e.deps) (oe : e.Ok) {o : Nat} (ho : o < n) (hS0 : Sep G W Rs w) (hel : e.deps.length = n) (hlen : ∀ y ∈ L, y.deps.length = n) : Ret Try.prog 37 [.pointer (some ⟨b, 0, none⟩), .agg (e.cells de0).toArray, .int .i64 ((o : Nat) : Int)] w (fun r w' => r = (.bool ((yN L e o)) : Value) ∧ Sep G W Rs w') := by
 have hde0s : _ * 8 ≤ _ := hde0.small
 refine zp (args := [.pointer (some ⟨b, 0, none⟩), .agg (e.cells de0).toArray, .int .i64 ((o : Nat) : Int)]) Try.func37 rfl rfl ?_
 obtain ⟨vv1, m2, R3, hb4, hv5, hr6⟩ := SetO.sh hb
 have hsm7 : (zz n L).length * 8 ≤ 140737488355328 := hv5.small
 refine zc ?_
 refine za (by kernel_rfl) (fun _ => ?_)
 refine st (yg (v := .agg (e.cells de0).toArray) rfl ?_)
 intro w10 b9 hn8
 have hS11 := hS0.new hn8
 refine st (zd (v := .bool false) rfl ?_)
 refine ze ?_
 refine zc ?_
 refine za (by kernel_rfl) (fun _ => ?_)
 refine st (yB rfl ?_)
 refine st (zg (v := de0) Try.isAgg34 rfl (zf (hS11.blk (i := 0) rfl) rfl) ?_)
 refine st (zb (v := .int .i64 ((o : Nat) : Int)) rfl ?_)
 have hi12 : o < e.deps.length := (by first | omega | (simp only [lens]; omega))
 refine st (zl (k := 1) (i := o) Try.underlying34 Try.sizeOf3 rfl hde0.sl rfl hi12 ?_)
 have hi14 : o < e.deps.length := (by first | omega | (simp only [lens]; omega))
 obtain ⟨hce13, hxe13⟩ := hde0.int hi14
 rw [← zm 0 hi14] at hce13 hxe13
 have hcw15 := hS11.cells hce13 (hde0.foot (ne_of_lt hi14))
 refine st (zg (v := .int .i64 ((e.deps.getD o 0))) Try.isAgg3 rfl (hcw15.get (j := 0) rfl) ?_)
 refine st (zd (v := .int .i64 ((e.deps.getD o 0))) rfl ?_)
 refine ze ?_
 refine zc ?_
 refine zc ?_
 refine za (by kernel_rfl) (fun _ => ?_)
 refine st (zb (v := .int .i64 ((e.deps.getD o 0))) rfl ?_)
 refine st (yq (k := .i64) (a := (e.deps.getD o 0)) (b := 0) rfl rfl ?_)
 refine ze ?_
 cases hc16 : decide ((e.deps.getD o 0) = 0)
 ·skip
  have hc16r := hc16
  have hc16 := of_decide_eq_false hc16
  refine zi rfl ?_
  refine zo ?_
  refine zc ?_
  refine za (by kernel_rfl) (fun _ => ?_)
  refine st (zb (v := .pointer (some ⟨b, 0, none⟩)) rfl ?_)
  refine st (zn (b := b) (o := 0) rfl ?_)
  refine st (Yj rfl ?_)
  refine st (zg (v := .map (some m2)) Try.isAgg57 rfl (zf (hS11.gblk hb4) rfl) ?_)
  refine st (zb (v := .int .i64 ((o : Nat) : Int)) rfl ?_)
  refine st (zb (v := .int .i64 ((e.deps.getD o 0))) rfl ?_)
  refine st (yP (parts' := [(0, .int .i64 ((o : Nat) : Int)), (1, .int .i64 ((e.deps.getD o 0)))]) (v := .agg #[.int .i64 ((o : Nat) : Int), .int .i64 ((e.deps.getD o 0))]) rfl (by simp [Instr.build, Instr.fill, Ev.cells, go_sem, Ev.cells]) ?_)
  obtain ⟨x17, vd18, hx19, hv20, hok21, hd22, hb23⟩ := hr6.at_ (((o : Nat) : Int), (e.deps.getD o 0))
  have hsm24 : x17.deps.length * 8 ≤ 140737488355328 := hd22.small
  refine st (xM (k := (((o : Nat) : Int), (e.deps.getD o 0))) hS11 hr6 K2 Try.underlying57 Try.zeroValue36 rfl (show _ = (.agg #[.int .i64 ((o : Nat) : Int), .int .i64 ((e.deps.getD o 0))] : Value) from rfl) hv20 hb23 ?_)
  refine st (zb (v := .tuple #[.agg (x17.cells vd18).toArray, .bool ((zq L (((o : Nat) : Int), (e.deps.getD o 0))).isSome)]) rfl ?_)
  refine st (zV (vs := [.agg (x17.cells vd18).toArray, .bool ((zq L (((o : Nat) : Int), (e.deps.getD o 0))).isSome)]) (i := 0) (v := .agg (x17.cells vd18).toArray) rfl rfl ?_)
  refine st (zV (vs := [.agg (x17.cells vd18).toArray, .bool ((zq L (((o : Nat) : Int), (e.deps.getD o 0))).isSome)]) (i := 1) (v := .bool ((zq L (((o : Nat) : Int), (e.deps.getD o 0))).isSome)) rfl rfl ?_)
  refine st (ye Try.zeroValue36 ?_)
  intro w27 b26 hn25
  have hS28 := hS11.new hn25
  refine stn (zY (v := .agg (x17.cells vd18).toArray) (c' := (x17.cells vd18).toArray) Try.sizeOf36 rfl rfl (hS28.blk (i := 0) rfl) (yU ⟨rfl, rfl, rfl, hd22.sl.one, rfl, rfl, rfl, rfl, rfl, rfl, trivial⟩) (Nat.le_of_ble_eq_true rfl) rfl ?_)
  intro w29 hp30
  have hS31 := hS28.pt0 hp30
  refine st (zd (v := .bool ((zq L (((o : Nat) : Int), (e.deps.getD o 0))).isSome)) rfl ?_)
  refine ze ?_
  refine zc ?_
  refine zc ?_
  refine zW (by kernel_rfl) ?_
  refine st (zb (v := .bool ((zq L (((o : Nat) : Int), (e.deps.getD o 0))).isSome)) rfl ?_)
  refine st (yA (a := (zq L (((o : Nat) : Int), (e.deps.getD o 0))).isSome) rfl ?_)
  refine st (zb (v := .bool (!((zq L (((o : Nat) : Int), (e.deps.getD o 0))).isSome))) rfl ?_)
  refine stc (V := .pointer (some ⟨b26, 2, none⟩)) rfl rfl (fun hb32 => ?_) ?_
  ·have hl33 := hb32
   try simp only [zx] at hl33
   exact yO rfl ⟨rfl, rfl⟩
  refine stc (V := .int .i64 (x17.lam)) rfl rfl (fun hb34 => ?_) ?_
  ·have hl35 := hb34
   try simp only [zx] at hl35
   exact zg (v := .int .i64 (x17.lam)) Try.isAgg3 (show _ = (.pointer (some ⟨b26, 2, none⟩) : Value) from (if_pos hb34)) (zf (hS31.blk (i := 0) rfl) rfl) ⟨rfl, rfl⟩
  refine stc (V := .pointer (some ⟨b9, 2, none⟩)) rfl rfl (fun hb36 => ?_) ?_
  ·have hl37 := hb36
   try simp only [zx] at hl37
   exact yO rfl ⟨rfl, rfl⟩
  refine stc (V := .int .i64 (e.lam)) rfl rfl (fun hb38 => ?_) ?_
  ·have hl39 := hb38
   try simp only [zx] at hl39
   exact zg (v := .int .i64 (e.lam)) Try.isAgg3 (show _ = (.pointer (some ⟨b9, 2, none⟩) : Value) from (if_pos hb38)) (zf (hS31.blk (i := 1) rfl) rfl) ⟨rfl, rfl⟩
  refine stc (V := .bool (decide (e.lam ≤ x17.lam))) rfl rfl (fun hb40 => ?_) ?_
  ·have hl41 := hb40
   try simp only [zx] at hl41
   exact xv (k := .i64) (a := x17.lam) (b := e.lam) (show _ = (.int .i64 (x17.lam) : Value) from (if_pos hb40)) (show _ = (.int .i64 (e.lam) : Value) from (if_pos hb40)) ⟨rfl, rfl⟩
  refine st (zX (b := !((zq L (((o : Nat) : Int), (e.deps.getD o 0))).isSome)) (b' := decide (e.lam ≤ x17.lam)) rfl (fun hbp => (show _ = (.bool (decide (e.lam ≤ x17.lam)) : Value) from (if_pos hbp))) ?_)
  refine ze ?_
  cases hc42 : (!((zq L (((o : Nat) : Int), (e.deps.getD o 0))).isSome)) || (decide (e.lam ≤ x17.lam))
  ·skip
   have hc42r := hc42
   try simp only [zx] at hc42
   have hq9 := hc42r
   simp only [Bool.or_eq_false_iff, Bool.not_eq_false', decide_eq_false_iff_not, Bool.not_eq_eq_eq_not, Bool.not_false] at hq9
   have hxl9 := WD hlen hx19 hq9.1
   refine zi rfl ?_
   refine zo ?_
   refine zc ?_
   refine zc ?_
   refine za (by kernel_rfl) (fun _ => ?_)
   refine st (yB rfl ?_)
   refine st (zg (v := vd18) Try.isAgg34 rfl (zf (hS31.blk (i := 0) rfl) rfl) ?_)
   refine st (zJ (n := x17.deps.length) Try.underlying34 rfl hd22.sl ?_)
   refine st (zb (v := .int .i64 (0)) rfl ?_)
   refine ze ?_
   refine zt ?_
   refine zP (fun mq σ wq => ∃ (k : Nat) (ρ : Env), mq = x17.deps.length - k ∧ σ = zQ ρ [(0, .pointer (some ⟨b, 0, none⟩)), (4, .pointer (some ⟨b9, 0, none⟩)), (40, vd18), (41, .int .i64 ((x17.deps.length : Nat) : Int)), (42, .int .i64 ((k : Nat) : Int))] ∧ (k ≤ x17.deps.length) ∧ (∀ i, i < k → x17.deps.getD i 0 ≤ e.deps.getD i 0) ∧ Sep G W ((Blk b26 (x17.cells vd18).toArray 36) :: (Blk b9 (e.cells de0).toArray 36) :: Rs) wq) ⟨0, _, rfl, zh ⟨rfl, rfl, rfl, rfl, rfl, trivial⟩, Nat.zero_le _, (fun i h => absurd h (Nat.not_lt_zero i)), hS31⟩ ?_
   rintro m44 σ45 w43 ⟨k, ρl1, rfl, rfl, hkk, hm, hS46⟩
   refine zc ?_
   refine za (by kernel_rfl) (fun _ => ?_)
   refine st (zH (k := .i64) (a := ((k : Nat) : Int)) (b := ((x17.deps.length : Nat) : Int)) rfl rfl ?_)
   refine ze ?_
   refine zc ?_
   cases hc47 : decide (((k : Nat) : Int) < ((x17.deps.length : Nat) : Int))
   ·skip
    have hc47r := hc47
    have hc47 := of_decide_eq_false hc47
    refine zi rfl ?_
    refine zO ?_
    refine zF ?_
    refine zc ?_
    refine za (by kernel_rfl) (fun _ => ?_)
    refine st (zd (v := .bool true) rfl ?_)
    refine ze ?_
    refine zw ?_
    refine zL Try.results37 (show _ = (.bool true : Value) from rfl) ?_
    have hS48 : Sep G W Rs w43 := hS46.sel 2 [] (Nat.le_add_left _ _) rfl rfl
    refine ⟨?_, hS48⟩
    rw [Yd hc16 hx19 hq9.1, decide_eq_true (show x17.lam < e.lam by omega), Bool.true_and]
    rw [List.all_eq_true.2 (fun i hi => decide_eq_true (hm i (by have := List.mem_range.1 hi; omega)))]
   ·skip
    have hc47r := hc47
    have hc47 := of_decide_eq_true hc47
    refine zk rfl ?_
    refine zo ?_
    refine zc ?_
    refine zt ?_
    refine zc ?_
    refine za (by kernel_rfl) (fun _ => ?_)
    refine st (zb (v := .int .i64 ((k : Nat) : Int)) rfl ?_)
    have hi49 : k < x17.deps.length := (by first | omega | (simp only [lens]; omega))
    refine st (zl (k := 1) (i := k) Try.underlying34 Try.sizeOf3 rfl hd22.sl rfl hi49 ?_)
    have hi51 : k < x17.deps.length := (by first | omega | (simp only [lens]; omega))
    obtain ⟨hce50, hxe50⟩ := hd22.int hi51
    rw [← zm 0 hi51] at hce50 hxe50
    have hcw52 := hS46.cells hce50 (hd22.foot (ne_of_lt hi51))
    refine st (zg (v := .int .i64 ((x17.deps.getD k 0))) Try.isAgg3 rfl (hcw52.get (j := 0) rfl) ?_)
    refine st (zd (v := .int .i64 ((k : Nat) : Int)) rfl ?_)
    refine st (zd (v := .int .i64 ((x17.deps.getD k 0))) rfl ?_)
    refine ze ?_
    refine zc ?_
    refine za (by kernel_rfl) (fun _ => ?_)
    refine st (zb (v := .int .i64 ((x17.deps.getD k 0))) rfl ?_)
    refine st (yB rfl ?_)
    refine st (zg (v := de0) Try.isAgg34 rfl (zf (hS46.blk (i := 1) rfl) rfl) ?_)
    refine st (zb (v := .int .i64 ((k : Nat) : Int)) rfl ?_)
    have hi53 : k < e.deps.length := (by first | omega | (simp only [lens]; omega))
    refine st (zl (k := 1) (i := k) Try.underlying34 Try.sizeOf3 rfl hde0.sl rfl hi53 ?_)
    have hi55 : k < e.deps.length := (by first | omega | (simp only [lens]; omega))
    obtain ⟨hce54, hxe54⟩ := hde0.int hi55
    rw [← zm 0 hi55] at hce54 hxe54
    have hcw56 := hS46.cells hce54 (hde0.foot (ne_of_lt hi55))
    refine st (zg (v := .int .i64 ((e.deps.getD k 0))) Try.isAgg3 rfl (hcw56.get (j := 0) rfl) ?_)
    refine st (xC (k := .i64) (a := (x17.deps.getD k 0)) (b := (e.deps.getD k 0)) rfl rfl ?_)
    refine ze ?_
    cases hc57 : decide ((e.deps.getD k 0) < (x17.deps.getD k 0))
    ·skip
     have hc57r := hc57
     have hc57 := of_decide_eq_false hc57
     refine zi rfl ?_
     refine zo ?_
     refine za (by kernel_rfl) (fun _ => ?_)
     have hr58 : InR ((k + 1 : Nat) : Int) := by first | omega | (simp only [lens]; omega)
     refine st (zB (r := ((k + 1 : Nat) : Int)) (k := .i64) (a := ((k : Nat) : Int)) (b := 1) rfl rfl (by rw [show (((k : Nat) : Int) + 1 : Int) = ((k + 1 : Nat) : Int) by first | omega | (simp only [lens]; omega)]; exact zy hr58) ?_)
     refine st (zb (v := .int .i64 ((k + 1 : Nat) : Int)) rfl ?_)
     refine ze ?_
     exact ⟨_, by omega, k + 1, _, rfl, zh ⟨rfl, rfl, rfl, rfl, rfl, trivial⟩, by omega, (yE hm (by omega)), hS46⟩
    ·skip
     have hc57r := hc57
     have hc57 := of_decide_eq_true hc57
     refine zk rfl ?_
     refine zc ?_
     refine za (by kernel_rfl) (fun _ => ?_)
     refine st (zd (v := .bool false) rfl ?_)
     refine ze ?_
     refine zw ?_
     refine zL Try.results37 (show _ = (.bool false : Value) from rfl) ?_
     have hS59 : Sep G W Rs w43 := hS46.sel 2 [] (Nat.le_add_left _ _) rfl rfl
     refine ⟨?_, hS59⟩
     rw [Yd hc16 hx19 hq9.1, decide_eq_true (show x17.lam < e.lam by omega), Bool.true_and]
     congr 1
     symm
     rw [List.all_eq_false]
     exact ⟨k, List.mem_range.2 (by omega), by simp only [decide_eq_true_eq]; omega⟩
  ·skip
   have hc42r := hc42
   try simp only [zx] at hc42
   refine zk rfl ?_
   refine zc ?_
   refine za (by kernel_rfl) (fun _ => ?_)
   refine st (zd (v := .bool false) rfl ?_)
   refine ze ?_
   refine zw ?_
   refine zL Try.results37 (show _ = (.bool false : Value) from rfl) ?_
   have hS60 : Sep G W Rs w29 := hS31.sel 2 [] (Nat.le_add_left _ _) rfl rfl
   refine ⟨?_, hS60⟩
   cases hq9 : (zq L (((o : Nat) : Int), (e.deps.getD o 0))).isSome
   · rw [QC hc16 hq9]
   · rw [Yd hc16 hx19 hq9]
     have h9 : ¬ x17.lam < e.lam := by rw [hq9] at hc42r; simpa using hc42r
     simp [h9]
 ·skip
  have hc16r := hc16
  have hc16 := of_decide_eq_true hc16
  refine zk rfl ?_
  refine zc ?_
  refine za (by kernel_rfl) (fun _ => ?_)
  refine st (zd (v := .bool true) rfl ?_)
  refine ze ?_
  refine zw ?_
  refine zL Try.results37 (show _ = (.bool true : Value) from rfl) ?_
  have hS61 : Sep G W Rs w10 := hS11.sel 1 [] (Nat.le_add_left _ _) rfl rfl
  refine ⟨?_, hS61⟩
  rw [Kb hc16]

end Go.Proofs.Ytmiihhbeclhaoaa
