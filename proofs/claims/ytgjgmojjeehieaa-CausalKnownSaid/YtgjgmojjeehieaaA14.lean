/- Steps of the proofs of this seat: part A14. -/
import Derived.Test.YtgjgmojjeehieaaA13
set_option linter.unusedSimpArgs false
set_option linter.unusedVariables false
set_option maxRecDepth 8000
set_option maxHeartbeats 4000000
namespace Go.Proofs.Ytgjgmojjeehieaa
open Go.Proofs Go.RowKit

def missE (l : List Int) (e : Ev) : Bool := decide (max 0 (vget l e.origin) < e.seq)
def keyP (key : Int) (e : Ev) : Bool := (!decide (key = 0)) && decide (e.key = key)
def keyE (L : List Ev) (key : Int) : Option Ev := L.find? (keyP key)
/-- Where an event's numbers lie that is part of something else. -/
def DepO (d : Value) (l : List Int) : HP := ⟨fun w f => RdS w (fun b => f b ∧ Soft w b) d l, fun h hf => h.mono fun b hb hlt => ⟨(hf b hb.1 hlt).1, (hf b hb.1 hlt).2, hb.2.keep (hf b hb.1 hlt).1⟩⟩
theorem DepO.rd {d : Value} {l : List Int} {w : World} {f : Nat → Prop} (h : (DepO d l).p w f) : RdS w f d l := RdS.weak h (fun _ _ hb => hb.1)
section
variable {G : Nat → Prop} {W w : World} {As : List HP} {T : TypeId} {v : Value} {l : List Ev}
theorem Sep.depo (h : Sep G W (RowE (α := Ev) own T v l :: As) w) {i : Nat} (hi : i < l.length) : ∃ d, CellsAt w (sb v) (so v + i * 10) ((l.getD i default).cells d) ∧ (l.getD i default).Ok ∧ Sep G W (DepO d (l.getD i default).deps :: As) w := by
  obtain ⟨f, hA, hfl, hT⟩ := h.take (i := 0) rfl
  obtain ⟨cs, hc, he⟩ := RowE.elem hA hi
  rw [← getD_at default hi] at he
  obtain ⟨d, rfl, hd, ho⟩ := he
  refine ⟨d, hc, ho, hT w _ f (Chg.refl _ _) ?_ (fun _ hb => .inl hb)⟩
  exact RdS.weak hd (fun b _ hb => hb)
theorem Sep.depSl {d : Value} {l : List Int} (h : Sep G W As w) {i : Nat} (hi : As[i]? = some (DepO d l)) : IsSl d l.length := by
  obtain ⟨f, h1, _⟩ := h.get hi; exact h1.sl
theorem Sep.depoNil (h : Sep G W As w) : Sep G W (DepO (.slice none 0 0) [] :: As) w := h.push (Chg.refl _ _) (f := fun _ => False) (RdS.nil _ _) (fun _ h => h.elim)
theorem EP.takeF {α : Type} [Rep α] {q : List Value → α → Prop} (hl : ∀ cs x, q cs x → cs.length = Rep.k α) (j : Nat) : ∀ {css : List (List Value)} {l : List α}, EP q css l → (css.take j).flatten = css.flatten.take (j * Rep.k α) := by
  induction j with
  | zero => intro css l h; simp
  | succ j ih =>
    intro css l h
    cases css with
    | nil => simp
    | cons c css =>
      cases l with
      | nil => exact h.elim
      | cons x l =>
        have h1 := hl _ _ h.1
        rw [List.take_succ_cons, List.flatten_cons, List.flatten_cons, ih h.2, show (j + 1) * Rep.k α = c.length + j * Rep.k α by rw [h1, Nat.add_mul, Nat.one_mul, Nat.add_comm], List.take_length_add_append]
theorem Sep.rowTake (h : Sep G W (RowE (α := Ev) own T v l :: As) w) {j : Nat} (hj : j ≤ l.length) : Sep G W (RowE (α := Ev) own T (subV 10 v 0 j) (l.take j) :: As) w := by
  refine h.impl (i := 0) rfl (fun f hA => ?_)
  obtain ⟨css, h1, h2, h3, h4⟩ := hA
  have hl : ∀ cs x, ((own (α := Ev)).el cs x).p w (fun b => f b ∧ v.ownBlock ≠ some b) → cs.length = Rep.k Ev := fun cs x h => Src.len _ h
  rcases h2.2 with ⟨rfl, h0⟩ | ⟨g, cap, cur, rfl, hg, hb, hn, hm, hs, ht⟩
  · have : l = [] := List.length_eq_zero_iff.1 h0
    subst this
    have hj0 : j = 0 := by simpa using hj
    subst hj0
    exact RowE.nil _ _ _ _
  · have ev : ∃ cap', j ≤ cap' ∧ cap' = cap ∧ subV 10 (.slice (some ⟨g, 0, none⟩) l.length cap) 0 j = .slice (some ⟨g, 0, none⟩) j cap := by
      refine ⟨cap, by omega, rfl, ?_⟩
      by_cases hc : cap = 0
      · subst hc
        have : j = 0 := by omega
        subst this
        rfl
      · simp [subV, hc, Addr.add]
    obtain ⟨cap', hjc, rfl, e⟩ := ev
    rw [e]
    refine ⟨css.take j, (h1.take j).mono (fun cs x h => h), ⟨?_, .inr ⟨g, cap', cur, ?_, hg, hb, ?_, hm, hs, ?_⟩⟩, h3, ?_⟩
    · rw [EP.flat hl (h1.take j)]
    · rw [List.length_take, Nat.min_eq_left hj]
    · rw [List.length_take, Nat.min_eq_left hj]; exact hjc
    · rw [List.length_take, Nat.min_eq_left hj, EP.takeF hl j h1, ← ht, List.take_take, Nat.min_eq_left (Nat.mul_le_mul_right _ hj)]
    · rw [List.length_take, Nat.min_eq_left hj]; exact Nat.le_trans (Nat.mul_le_mul_right _ hj) h4
theorem ov_lenS {P : Program} {K : Value → World → Prop} {d : Option Tmp} {ty : TypeId} {pos : String} {af : Array Edge} {g : Option (Nat × Bool)} {σ : Env} {t kt et : TypeId} {x : Operand} {m : Nat} {L : List Ev} {R : List ((Int × Int) × Value)} (h : Sep G W As w) (hr : SetR W G m R L) (hid : (L.map idE).Nodup) (hU : P.underlying t = some (.map kt et)) (hx : ev σ x = .map (some m))
    (hk : K (.int .i64 ((L.length : Nat) : Int)) w) : opV P ⟨d, .call ⟨.builtin .len, #[x], #[t]⟩, ty, pos, af, g⟩ σ w K := by
  obtain ⟨es, clock, hes, hst, hent, hclk⟩ := hr.is
  have hb := (h.gb hr.gm).trans hes
  have hlen : es.size = L.length := by
    have h1 := hent.len
    have h2 := (hr.perm (IsMap.nodup hr.is) hid).length_eq
    simp at h1 h2
    omega
  refine ov_run (v := .int .i64 ((L.length : Nat) : Int)) (w' := w) ?_ hk
  have := MapKept.run_getObj_map (P := P) hb
  simp [hx, Builtin.len_, run_underlying hU, goInt, go_sem, this, hlen]
end
theorem D_all1 {G : Nat → Prop} {W w : World} {Rs : List HP} {e : Ev} {de0 : Value} (hde0 : RdS W G de0 e.deps) (oe : e.Ok) (hS0 : Sep G W Rs w) : Ret Try.prog 54 [.agg (e.cells de0).toArray] w (fun r w' => r = (.bool true : Value) ∧ Sep G W Rs w') := by
 have hde0s : e.deps.length * 8 ≤ 140737488355328 := hde0.small
 refine Calls_of_WP (args := [.agg (e.cells de0).toArray]) Try.func54 rfl rfl ?_
 refine WP_seq ?_
 refine WP_region0 (by kernel_rfl) (fun _ => ?_)
 refine st (ov_box (v := .agg (e.cells de0).toArray) rfl ?_)
 intro w3 b2 hn1
 have hS4 : Sep G W ((Blk b2 (e.cells de0).toArray 36) :: Rs) w3 := hS0.new hn1
 refine st (ov_assign (v := .bool false) rfl ?_)
 refine st_nil ?_
 refine WP_seq ?_
 refine WP_region0 (by kernel_rfl) (fun _ => ?_)
 refine st (ov_assign (v := .bool true) rfl ?_)
 refine st_nil ?_
 refine WP_ret ?_
 refine fin1 Try.results54 (show _ = (.bool true : Value) from rfl) ?_
 have hS5 : Sep G W Rs w3 := hS4.sel 1 [] (Nat.le_add_left _ _) rfl rfl
 refine ⟨rfl, hS5⟩

theorem D_miss1 {G : Nat → Prop} {W w : World} {Rs : List HP} {e : Ev} {de0 : Value} (hde0 : RdS W G de0 e.deps) (oe : e.Ok) {bx : Nat} {vl : Value} {l : List Int} (hbx : (Blk bx #[vl] 34).p W G) (hl : RdS W G vl l) (hS0 : Sep G W Rs w) : Ret Try.prog 58 [.agg (e.cells de0).toArray, .pointer (some ⟨bx, 0, none⟩)] w (fun r w' => r = (.bool (missE l e) : Value) ∧ Sep G W Rs w') := by
 have hde0s : e.deps.length * 8 ≤ 140737488355328 := hde0.small
 have hls : l.length * 8 ≤ 140737488355328 := hl.small
 refine Calls_of_WP (args := [.agg (e.cells de0).toArray, .pointer (some ⟨bx, 0, none⟩)]) Try.func58 rfl rfl ?_
 refine WP_seq ?_
 refine WP_region0 (by kernel_rfl) (fun _ => ?_)
 refine st (ov_box (v := .agg (e.cells de0).toArray) rfl ?_)
 intro w3 b2 hn1
 have hS4 : Sep G W ((Blk b2 (e.cells de0).toArray 36) :: Rs) w3 := hS0.new hn1
 refine st (ov_assign (v := .bool false) rfl ?_)
 refine st_nil ?_
 refine WP_seq ?_
 refine WP_draw4 (WF [fun vals wq => Sep G W ((Blk b2 (e.cells de0).toArray 36) :: Rs) wq, fun vals wq => (vals 7 = (.int .i64 (vget l e.origin) : Value)) ∧ (InR (vget l e.origin)) ∧ Sep G W ((Blk b2 (e.cells de0).toArray 36) :: Rs) wq]) (AF [Vl 0 (.pointer (some ⟨b2, 0, none⟩)), Vl 1 (.pointer (some ⟨b2, 1, none⟩)), Vl 2 (.int .i64 (e.seq)), Vl 3 (vl), Vl 4 (.pointer (some ⟨b2, 0, none⟩)), Vl 5 (.pointer (some ⟨b2, 0, none⟩)), Vl 6 (.int .i64 (e.origin)), fun _ => True, Vl 8 (.int .i64 (max 0 (vget l e.origin))), Vl 9 (.bool (decide ((max 0 (vget l e.origin)) < e.seq))), Vl 10 (.bool (decide ((max 0 (vget l e.origin)) < e.seq)))]) [[], [0], [0, 1], [], [], [4], [4, 5], [3, 4, 5, 6], [3, 4, 5, 6, 7], [0, 1, 2, 3, 4, 5, 6, 7, 8], [0, 1, 2, 3, 4, 5, 6, 7, 8, 9]] [7] [(0, 1), (0, 1), (0, 1), (0, 0), (0, 0), (0, 0), (0, 0), (0, 0), (1, 1), (1, 1), (1, 1)] (by kernel_rfl) (by kernel_rfl) (by kernel_rfl) rfl (by kernel_rfl) (by kernel_rfl) (fun _ h1 h2 h3 h4 _ => hS4.same h1 h2 h3 h4) ?_ (AF_loc ⟨dA, dA, dA, dA, dA, dA, dA, dT, dA, dA, dA, trivial⟩) ⟨?_, ?_, ?_, ?_, ?_, ?_, ?_, ?_, ?_, ?_, ?_, trivial⟩ ?_
 ·intro k vals vals' w hv h
  have e : ∀ j ∈ ([7] : List Nat), vals' j = vals j := hv
  match k, h with
  | 0, h => exact h
  | 1, h => exact (by simpa only [WF, List.getElem?_cons_zero, List.getElem?_cons_succ, e 7 (by decide)] using h)
  | _ + 2, _ => trivial
 ·intro k90 vals w91 h94 h95 hW93 hA92
  refine obl rfl ?_
  exact fd36_0 rfl (fun vals' hv _ => ⟨rfl, hv⟩)
 ·intro k96 vals w97 h100 h101 hW99 hA98
  have e102 := hA98 0 (by decide)
  refine obl rfl ?_
  exact fd33_1 e102 (fun vals' hv _ => ⟨rfl, hv⟩)
 ·intro k103 vals w104 h107 h108 hW106 hA105
  have hkk : k103 = 0 ∨ k103 = 1 := by have h1 : 0 ≤ k103 := h107; have h2 : k103 ≤ 1 := h108; omega
  rcases hkk with rfl | rfl
  ·skip
   have hS109 : Sep G W ((Blk b2 (e.cells de0).toArray 36) :: Rs) w104 := hW106
   have e110 := hA105 1 (by decide)
   refine obl rfl ?_
   exact ov_load1 (v := .int .i64 (e.seq)) Try.isAgg3 e110 (blk_cellL (hS109.blk (i := 0) rfl) rfl) (fun vals' hv _ => ⟨rfl, hv⟩)
  ·skip
   obtain ⟨he66, hg63, hS111⟩ := hW106
   have e112 := hA105 1 (by decide)
   refine obl rfl ?_
   exact ov_load1 (v := .int .i64 (e.seq)) Try.isAgg3 e112 (blk_cellL (hS111.blk (i := 0) rfl) rfl) (fun vals' hv _ => ⟨rfl, hv⟩)
 ·intro k113 vals w114 h117 h118 hW116 hA115
  obtain rfl : k113 = 0 := Nat.le_antisymm h118 h117
  have hS119 : Sep G W ((Blk b2 (e.cells de0).toArray 36) :: Rs) w114 := hW116
  refine obl rfl ?_
  exact ov_load1 (v := vl) Try.isAgg34 rfl (blk_cellL (hS119.gblk hbx) rfl) (fun vals' hv _ => ⟨rfl, hv⟩)
 ·intro k120 vals w121 h124 h125 hW123 hA122
  refine obl rfl ?_
  exact fd36_0 rfl (fun vals' hv _ => ⟨rfl, hv⟩)
 ·intro k126 vals w127 h130 h131 hW129 hA128
  have e132 := hA128 4 (by decide)
  refine obl rfl ?_
  exact fd33_0 e132 (fun vals' hv _ => ⟨rfl, hv⟩)
 ·intro k133 vals w134 h137 h138 hW136 hA135
  obtain rfl : k133 = 0 := Nat.le_antisymm h138 h137
  have hS139 : Sep G W ((Blk b2 (e.cells de0).toArray 36) :: Rs) w134 := hW136
  have e140 := hA135 5 (by decide)
  refine obl rfl ?_
  exact ov_load1 (v := .int .i64 (e.origin)) Try.isAgg3 e140 (blk_cellL (hS139.blk (i := 0) rfl) rfl) (fun vals' hv _ => ⟨rfl, hv⟩)
 ·intro k54 vals w55 h58 h59 hW57 hA56
  obtain rfl : k54 = 0 := Nat.le_antisymm h59 h58
  have hS60 : Sep G W ((Blk b2 (e.cells de0).toArray 36) :: Rs) w55 := hW57
  have e61 := hA56 3 (by decide)
  have e62 := hA56 6 (by decide)
  refine obl rfl ?_
  refine (ov_call (f := 59) (vals := [vl, .int .i64 (e.origin)]) (cap := []) (show _ = (.func (.func 59) #[] #[] : Value) from rfl) (mapL ⟨e61, e62, trivial⟩) Try.call59 (D_vget (v := l) (vv := vl) (o := e.origin) hl oe.origin hS60) ?_)
  rintro _ w64 ⟨rfl, hg63, hS65⟩
  intro vals' hv hv'
  refine ⟨?_, trivial⟩
  show (vals' 7 = (.int .i64 (vget l e.origin) : Value)) ∧ (InR (vget l e.origin)) ∧ Sep G W ((Blk b2 (e.cells de0).toArray 36) :: Rs) w64
  exact ⟨hv, hg63, hS65⟩
 ·intro k141 vals w142 h145 h146 hW144 hA143
  obtain rfl : k141 = 1 := Nat.le_antisymm h146 h145
  obtain ⟨he66, hg63, hS147⟩ := hW144
  refine obl rfl ?_
  exact ov_max (k := .i64) (a := 0) (b := vget l e.origin) rfl he66 (fun vals' hv _ => ⟨rfl, hv⟩)
 ·intro k148 vals w149 h152 h153 hW151 hA150
  obtain rfl : k148 = 1 := Nat.le_antisymm h153 h152
  obtain ⟨he66, hg63, hS154⟩ := hW151
  have e155 := hA150 2 (by decide)
  have e156 := hA150 8 (by decide)
  refine obl rfl ?_
  exact ov_gtr (k := .i64) (a := e.seq) (b := max 0 (vget l e.origin)) e155 e156 (fun vals' hv _ => ⟨rfl, hv⟩)
 ·intro k157 vals w158 h161 h162 hW160 hA159
  have e163 := hA159 9 (by decide)
  refine obl rfl ?_
  exact ov_assign (v := .bool (decide ((max 0 (vget l e.origin)) < e.seq))) e163 (fun vals' hv _ => ⟨rfl, hv⟩)
 intro vals w164 hW165 hA166
 obtain ⟨he66, hg63, hS167⟩ := hW165
 have e168 := hA166 10 (by decide)
 refine st_env (kv := [(0, .agg (e.cells de0).toArray), (1, .pointer (some ⟨bx, 0, none⟩)), (2, .pointer (some ⟨b2, 0, none⟩)), (3, .bool (decide ((max 0 (vget l e.origin)) < e.seq)))]) ⟨rfl, rfl, rfl, (by exact e168), trivial⟩ (fun ρw164 => ?_)
 refine st_nil ?_
 refine WP_ret ?_
 refine fin1 Try.results58 (show _ = (.bool (decide ((max 0 (vget l e.origin)) < e.seq)) : Value) from rfl) ?_
 have hS169 : Sep G W Rs w164 := hS167.sel 1 [] (Nat.le_add_left _ _) rfl rfl
 refine ⟨rfl, hS169⟩

theorem D_key1 {G : Nat → Prop} {W w : World} {Rs : List HP} {e : Ev} {de0 : Value} (hde0 : RdS W G de0 e.deps) (oe : e.Ok) {bx : Nat} {key : Int} (hbx : (Blk bx #[.int .i64 key] 3).p W G) (hS0 : Sep G W Rs w) : Ret Try.prog 61 [.agg (e.cells de0).toArray, .pointer (some ⟨bx, 0, none⟩)] w (fun r w' => r = (.bool (keyP key e) : Value) ∧ Sep G W Rs w') := by
 have hde0s : e.deps.length * 8 ≤ 140737488355328 := hde0.small
 refine Calls_of_WP (args := [.agg (e.cells de0).toArray, .pointer (some ⟨bx, 0, none⟩)]) Try.func61 rfl rfl ?_
 refine WP_seq ?_
 refine WP_region0 (by kernel_rfl) (fun _ => ?_)
 refine st (ov_box (v := .agg (e.cells de0).toArray) rfl ?_)
 intro w3 b2 hn1
 have hS4 : Sep G W ((Blk b2 (e.cells de0).toArray 36) :: Rs) w3 := hS0.new hn1
 refine st (ov_assign (v := .bool false) rfl ?_)
 refine st_nil ?_
 refine WP_seq ?_
 refine WP_region (by kernel_rfl) ?_
 refine st (ov_load1 (v := .int .i64 (key)) Try.isAgg3 rfl (blk_cellL (hS4.gblk hbx) rfl) ?_)
 refine st (ov_neq (k := .i64) (a := key) (b := 0) rfl rfl ?_)
 refine st (ov_move (v := .bool (!decide (key = 0))) rfl ?_)
 refine stc (V := .pointer (some ⟨b2, 9, none⟩)) rfl rfl (fun hb5 => ?_) ?_
 ·have hl6 := hb5
  have hl6 := ndec_true hl6
  exact fd36_8 rfl ⟨rfl, rfl⟩
 refine stc (V := .int .i64 (e.key)) rfl rfl (fun hb7 => ?_) ?_
 ·have hl8 := hb7
  have hl8 := ndec_true hl8
  exact ov_load1 (v := .int .i64 (e.key)) Try.isAgg3 (show _ = (.pointer (some ⟨b2, 9, none⟩) : Value) from (if_pos hb7)) (blk_cellL (hS4.blk (i := 0) rfl) rfl) ⟨rfl, rfl⟩
 refine stc (V := .int .i64 (key)) rfl rfl (fun hb9 => ?_) ?_
 ·have hl10 := hb9
  have hl10 := ndec_true hl10
  exact ov_load1 (v := .int .i64 (key)) Try.isAgg3 rfl (blk_cellL (hS4.gblk hbx) rfl) ⟨rfl, rfl⟩
 refine stc (V := .bool (decide (e.key = key))) rfl rfl (fun hb11 => ?_) ?_
 ·have hl12 := hb11
  have hl12 := ndec_true hl12
  exact ov_eql (k := .i64) (a := e.key) (b := key) (show _ = (.int .i64 (e.key) : Value) from (if_pos hb11)) (show _ = (.int .i64 (key) : Value) from (if_pos hb11)) ⟨rfl, rfl⟩
 refine st (ov_pick_and (b := !decide (key = 0)) (b' := decide (e.key = key)) rfl (fun hbp => (show _ = (.bool (decide (e.key = key)) : Value) from (if_pos hbp))) ?_)
 refine st (ov_assign (v := .bool ((!decide (key = 0)) && (decide (e.key = key)))) rfl ?_)
 refine st_nil ?_
 refine WP_ret ?_
 refine fin1 Try.results61 (show _ = (.bool ((!decide (key = 0)) && (decide (e.key = key))) : Value) from rfl) ?_
 have hS13 : Sep G W Rs w3 := hS4.sel 1 [] (Nat.le_add_left _ _) rfl rfl
 refine ⟨rfl, hS13⟩

theorem D_Len {G : Nat → Prop} {W w : World} {Rs : List HP} {b : Nat} {n : Nat} {L : List Ev} (hb : (SetO b n L).p W G) (hS0 : Sep G W Rs w) (hid : (L.map idE).Nodup) : Ret Try.prog 24 [.pointer (some ⟨b, 0, none⟩)] w (fun r w' => r = (.int .i64 ((L.length : Nat) : Int) : Value) ∧ Sep G W Rs w') := by
 refine Calls_of_WP (args := [.pointer (some ⟨b, 0, none⟩)]) Try.func24 rfl rfl ?_
 obtain ⟨vv1, m2, R3, hb4, hv5, hr6⟩ := SetO.sh hb
 have hsm7 : (vecE n L).length * 8 ≤ 140737488355328 := hv5.small
 refine WP_seq ?_
 refine WP_region0 (by kernel_rfl) (fun _ => ?_)
 refine st (ov_assign (v := .int .i64 (0)) rfl ?_)
 refine st_nil ?_
 refine WP_seq ?_
 refine WP_region0 (by kernel_rfl) (fun _ => ?_)
 refine st (ov_move (v := .pointer (some ⟨b, 0, none⟩)) rfl ?_)
 refine st (ov_nilCheck (b := b) (o := 0) rfl ?_)
 refine st (fd73_1 rfl ?_)
 refine st (ov_load1 (v := .map (some m2)) Try.isAgg71 rfl (blk_cellL (hS0.gblk hb4) rfl) ?_)
 refine st (ov_lenS hS0 hr6 hid Try.underlying71 rfl ?_)
 refine st (ov_assign (v := .int .i64 ((L.length : Nat) : Int)) rfl ?_)
 refine st_nil ?_
 refine WP_ret ?_
 refine fin1 Try.results24 (show _ = (.int .i64 ((L.length : Nat) : Int) : Value) from rfl) ?_
 refine ⟨rfl, hS0⟩

theorem D_All {G : Nat → Prop} {W w : World} {Rs : List HP} {b : Nat} {n : Nat} {L : List Ev} (hb : (SetO b n L).p W G) (hS0 : Sep G W Rs w) (hid : (L.map idE).Nodup) (hsr : Srt L) (hL : L.length ≤ 1000000) : Ret Try.prog 19 [.pointer (some ⟨b, 0, none⟩)] w (fun r w' => ∃ (v : Value), r = (v : Value) ∧ Sep G W ((RowE (α := Ev) own 36 v L) :: Rs) w') := by
 refine Calls_of_WP (args := [.pointer (some ⟨b, 0, none⟩)]) Try.func19 rfl rfl ?_
 obtain ⟨vv1, m2, R3, hb4, hv5, hr6⟩ := SetO.sh hb
 have hsm7 : (vecE n L).length * 8 ≤ 140737488355328 := hv5.small
 refine WP_seq ?_
 refine WP_region0 (by kernel_rfl) (fun _ => ?_)
 refine st (ov_assign (v := (.slice none 0 0)) rfl ?_)
 refine st_nil ?_
 refine WP_seq ?_
 refine WP_region0 (by kernel_rfl) (fun _ => ?_)
 refine st (ov_move (v := .pointer (some ⟨b, 0, none⟩)) rfl ?_)
 refine st (ov_call (f := 53) (vals := [.pointer (some ⟨b, 0, none⟩), .func (.func 54) #[] #[]]) (cap := []) (show _ = (.func (.func 53) #[] #[] : Value) from rfl) rfl Try.call53 (D_some (p := fun _ => true) (caps := []) hb Try.call54 (fun hd9 ok9 hS9 => D_all1 hd9 ok9 hS9) hS0 (hid) (hsr) (hL)) ?_)
 rintro v8 w9 ⟨_, rfl, hS10⟩
 have hr11 := hS10.row (i := 0) rfl
 have hr11s : (L.filter (fun _ => true)).length * 96 ≤ 140737488355328 := hr11.2
 refine st (ov_assign (v := v8) rfl ?_)
 refine st_nil ?_
 refine WP_ret ?_
 refine fin1 Try.results19 (show _ = (v8 : Value) from rfl) ?_
 rw [List.filter_eq_self.2 (fun _ _ => rfl)] at hS10
 refine ⟨v8, rfl, hS10⟩

end Go.Proofs.Ytgjgmojjeehieaa
