/- Steps of the proofs of this seat: part C16. -/
import Derived.Test.YtlblilbmpdejgaaC15
set_option linter.unusedSimpArgs false
set_option linter.unusedVariables false
namespace Go.Proofs.Ytlblilbmpdejgaa
open Go.Proofs Go.RowKit

theorem iins_len {l : List Int} (x : Int) : (insS l x).length ≤ l.length + 1 := by
  unfold insS
  split
  · omega
  · have key : ∀ l : List Int, (l.filter (fun y => decide (y < x))).length + (l.filter (fun y => decide (x < y))).length ≤ l.length := by
      intro l
      induction l with
      | nil => simp
      | cons z l ih =>
        rw [List.filter_cons, List.filter_cons]
        by_cases h1 : z < x
        · rw [if_pos (by simpa using h1), if_neg (by simp; omega)]; simp only [List.length_cons]; omega
        · rw [if_neg (by simpa using h1)]
          split
          · simp only [List.length_cons]; omega
          · simp only [List.length_cons]; omega
    have := key l
    simp only [List.length_append, List.length_cons]; omega
structure SetOk (t : Typ) (f : Int) (c : List Cel) : Prop where
  lo : 0 ≤ f
  hi : f < t.fields.length
  len : f < c.length
  asc : Asc (celAt c f).set
  few : (celAt c f).set.length ≤ 500
theorem celAt_do {t : Typ} {c : List Cel} {f op a : Int} (h0 : 0 ≤ f) (h : f < c.length) : celAt (doL t c f op a) f = doCel (fldAt t f) (celAt c f) op a := by
  unfold celAt doL; rw [getD_set_self (by omega)]; rfl
theorem SetOk.ask {t : Typ} {f : Int} {c : List Cel} (h : SetOk t f c) {op a : Int} (ho : op = 3 ∨ op = 4) : AskOk t c f op a := ⟨h.lo, h.hi, h.len, fun _ => h.asc, fun e => by omega⟩
theorem SetOk.few2 {t : Typ} {f : Int} {c : List Cel} (h : SetOk t f c) {op : Int} : op = 3 → (celAt c f).set.length ≤ 1000 := fun _ => by have := h.few; omega
theorem SetOk.rem {t : Typ} {f : Int} {c : List Cel} (h : SetOk t f c) {a : Int} : SetOk t f (doL t c f 4 a) :=
  ⟨h.lo, h.hi, by rw [doL_len]; exact h.len, by rw [celAt_do h.lo h.len]; exact remS_asc h.asc a, by rw [celAt_do h.lo h.len]; have := remS_len (celAt c f).set a; have := h.few; show (remS (celAt c f).set a).length ≤ 500; omega⟩
theorem SetOk.ins {t : Typ} {f : Int} {c : List Cel} (h : SetOk t f c) {a : Int} (hl : (celAt c f).set.length < 500) : SetOk t f (doL t c f 3 a) :=
  ⟨h.lo, h.hi, by rw [doL_len]; exact h.len, by rw [celAt_do h.lo h.len]; exact insS_asc h.asc a, by rw [celAt_do h.lo h.len]; have := iins_len (l := (celAt c f).set) a; show (insS (celAt c f).set a).length ≤ 500; omega⟩
theorem doL_do {t : Typ} {c : List Cel} {f o1 o2 a b : Int} (h0 : 0 ≤ f) (h : f < c.length) : doL t (doL t c f o1 a) f o2 b = c.set f.toNat (doCel (fldAt t f) (doCel (fldAt t f) (celAt c f) o1 a) o2 b) := by
  show (doL t c f o1 a).set f.toNat (doCel (fldAt t f) (celAt (doL t c f o1 a) f) o2 b) = _
  rw [celAt_do h0 h]; unfold doL; rw [List.set_set]
theorem remS_comm (l : List Int) (a b : Int) : remS (remS l a) b = remS (remS l b) a := by
  unfold remS; rw [List.filter_filter, List.filter_filter]; exact List.filter_congr (fun _ _ => Bool.and_comm _ _)
theorem insS_comm {l : List Int} (h : Asc l) (a b : Int) : insS (insS l a) b = insS (insS l b) a :=
  asc_ext (insS_asc (insS_asc h a) b) (insS_asc (insS_asc h b) a) (fun x => by simp only [mem_insS]; constructor <;> (rintro (h | h | h) <;> simp [h]))
theorem rem_rem {t : Typ} {c : List Cel} {f a b : Int} (h : SetOk t f c) : doL t (doL t c f 4 a) f 4 b = doL t (doL t c f 4 b) f 4 a := by
  rw [doL_do h.lo h.len, doL_do h.lo h.len]
  show c.set f.toNat ⟨(celAt c f).n, remS (remS (celAt c f).set a) b⟩ = c.set f.toNat ⟨(celAt c f).n, remS (remS (celAt c f).set b) a⟩
  rw [remS_comm]
theorem ins_ins {t : Typ} {c : List Cel} {f a b : Int} (h : SetOk t f c) : doL t (doL t c f 3 a) f 3 b = doL t (doL t c f 3 b) f 3 a := by
  rw [doL_do h.lo h.len, doL_do h.lo h.len]
  show c.set f.toNat ⟨(celAt c f).n, insS (insS (celAt c f).set a) b⟩ = c.set f.toNat ⟨(celAt c f).n, insS (insS (celAt c f).set b) a⟩
  rw [insS_comm h.asc]
theorem rem_set {t : Typ} {c : List Cel} {f a b : Int} (h : SetOk t f c) : ((doL t (doL t c f 4 a) f 4 b).getD f.toNat default).set = remS (remS (celAt c f).set a) b := by
  have h9 := h.len; have h8 := h.lo
  rw [doL_do h.lo h.len, getD_set_self (by omega)]; rfl
theorem ins_set {t : Typ} {c : List Cel} {f a b : Int} (h : SetOk t f c) : ((doL t (doL t c f 3 a) f 3 b).getD f.toNat default).set = insS (insS (celAt c f).set a) b := by
  have h9 := h.len; have h8 := h.lo
  rw [doL_do h.lo h.len, getD_set_self (by omega)]; rfl
theorem ins_same {t : Typ} {c : List Cel} {f a b : Int} (h : SetOk t f c) : doL t (doL t (doL t c f 3 a) f 3 b) f 3 a = doL t (doL t c f 3 a) f 3 b := by
  have hl : f < (doL t (doL t c f 3 a) f 3 b).length := by rw [doL_len, doL_len]; exact h.len
  have hm : a ∈ (celAt (doL t (doL t c f 3 a) f 3 b) f).set := by
    show a ∈ ((doL t (doL t c f 3 a) f 3 b).getD f.toNat default).set
    rw [ins_set h]; simp [mem_insS]
  show (doL t (doL t c f 3 a) f 3 b).set f.toNat (doCel (fldAt t f) (celAt (doL t (doL t c f 3 a) f 3 b) f) 3 a) = _
  rw [doAdd_same hm]
  exact setD_self default (by have := h.lo; omega)
set_option maxHeartbeats 4000000 in
theorem D_sets {G : Nat → Prop} {W w : World} {Rs : List HP} {t : Typ} {dt0 : Value} (hdt0 : RdS W G dt0 t.fields) (ot : t.Ok) {vc : Value} {c : List Cel} (hc : RdS W G vc c) {f : Int} (hf : InR f) {a : Int} (ha : InR a) {b : Int} (hb : InR b) (hS0 : Sep G W Rs w) (hso : SetOk t f c) : Ret Try.prog 13 [.agg (t.cells dt0).toArray, vc, .int .i64 (f), .int .i64 (a), .int .i64 (b)] w (fun r w' => r = (.bool true : Value) ∧ Sep G W Rs w') := by
  have hdt0s : t.fields.length * 48 ≤ 140737488355328 := hdt0.small
  have hcs : c.length * 32 ≤ 140737488355328 := hc.small
  have hf0 := hso.lo; have hf1 := hso.hi; have hf2 := hso.len
  refine Calls_of_WP (args := [.agg (t.cells dt0).toArray, vc, .int .i64 (f), .int .i64 (a), .int .i64 (b)]) Try.func13 rfl rfl ?_
  refine WP_seq ?_
  refine WP_region0 (by kernel_rfl) (fun _ => ?_)
  refine st (ov_box (v := .agg (t.cells dt0).toArray) rfl ?_)
  intro w3 b2 hn1
  have hS4 : Sep G W ((Blk b2 (t.cells dt0).toArray 31) :: Rs) w3 := hS0.new hn1
  refine st (ov_assign (v := .bool false) rfl ?_)
  refine st_nil ?_
  refine WP_seq ?_
  refine WP_draw4 (WF [fun vals wq => Sep G W ((Blk b2 (t.cells dt0).toArray 31) :: Rs) wq, fun vals wq => ∃ (v48 : Value), (vals 5 = (v48 : Value)) ∧ Sep G W ((RowE (α := Cel) own 47 v48 (doL t c f 4 a)) :: (Blk b2 (t.cells dt0).toArray 31) :: Rs) wq, fun vals wq => ∃ (v48 : Value) (v82 : Value), (vals 5 = (v48 : Value)) ∧ (vals 8 = (v82 : Value)) ∧ Sep G W ((RowE (α := Cel) own 47 v48 (doL t c f 4 a)) :: (RowE (α := Cel) own 47 v82 (doL t (doL t c f 4 a) f 4 b)) :: (Blk b2 (t.cells dt0).toArray 31) :: Rs) wq]) (AF [fun vals => vals 0 = (.agg (t.cells dt0).toArray : Value), fun vals => vals 1 = (.agg (t.cells dt0).toArray : Value), fun vals => vals 2 = (vc : Value), fun vals => vals 3 = (.int .i64 (f) : Value), fun vals => vals 4 = (.int .i64 (a) : Value), fun _ => True, fun vals => vals 6 = (.int .i64 (f) : Value), fun vals => vals 7 = (.int .i64 (b) : Value), fun _ => True, fun vals => ∀ (v82 : Value), vals 8 = (v82 : Value) → vals 9 = (v82 : Value)]) [[], [], [], [], [], [1, 2, 3, 4], [], [], [0, 1, 2, 3, 4, 5, 6, 7], [0, 1, 2, 3, 4, 5, 6, 7, 8]] [5, 8] [(0, 1), (0, 0), (0, 0), (0, 0), (0, 0), (0, 0), (0, 1), (0, 1), (1, 1), (2, 2)] (by kernel_rfl) (by kernel_rfl) (by kernel_rfl) rfl (by kernel_rfl) (by kernel_rfl) (fun _ h1 h2 h3 h4 _ => hS4.same h1 h2 h3 h4) ?_ ?_ ⟨?_, ?_, ?_, ?_, ?_, ?_, ?_, ?_, ?_, ?_, trivial⟩ ?_
  · intro k vals vals' w hv h
    have e : ∀ j ∈ ([5, 8] : List Nat), vals' j = vals j := hv
    match k, h with
    | 0, h => exact h
    | 1, h => exact (by simpa only [WF, List.getElem?_cons_zero, List.getElem?_cons_succ, e 5 (by decide)] using h)
    | 2, h => exact (by simpa only [WF, List.getElem?_cons_zero, List.getElem?_cons_succ, e 5 (by decide), e 8 (by decide)] using h)
    | _ + 3, _ => trivial
  · intro i vals vals' hv h
    match i, hv, h with
    | 0, hv, h => exact (hv 0 (.inl rfl)).trans h
    | 1, hv, h => exact (hv 1 (.inl rfl)).trans h
    | 2, hv, h => exact (hv 2 (.inl rfl)).trans h
    | 3, hv, h => exact (hv 3 (.inl rfl)).trans h
    | 4, hv, h => exact (hv 4 (.inl rfl)).trans h
    | 5, _, _ => trivial
    | 6, hv, h => exact (hv 6 (.inl rfl)).trans h
    | 7, hv, h => exact (hv 7 (.inl rfl)).trans h
    | 8, _, _ => trivial
    | 9, hv, h => exact fun v82 hq0 => (hv 9 (.inl rfl)).trans (h v82 ((hv 8 (.inr (by decide))).symm.trans hq0))
    | _ + 10, _, _ => trivial
  · intro k95 vals w96 h99 h100 hW98 hA97
    have hkk : k95 = 0 ∨ k95 = 1 := by have h1 : 0 ≤ k95 := h99; have h2 : k95 ≤ 1 := h100; omega
    rcases hkk with rfl | rfl
    · skip
      have hS101 : Sep G W ((Blk b2 (t.cells dt0).toArray 31) :: Rs) w96 := hW98
      refine obl rfl ?_
      exact ov_loadk (k := 1) Try.isAgg31 Try.sizeOf31 rfl rfl (CellsAt.all (hS101.blk (i := 0) rfl)) (fun vals' hv _ => ⟨rfl, hv⟩)
    · skip
      obtain ⟨v48, he52, hS102⟩ : ∃ (v48 : Value), (vals 5 = (v48 : Value)) ∧ Sep G W ((RowE (α := Cel) own 47 v48 (doL t c f 4 a)) :: (Blk b2 (t.cells dt0).toArray 31) :: Rs) w96 := hW98
      refine obl rfl ?_
      exact ov_loadk (k := 1) Try.isAgg31 Try.sizeOf31 rfl rfl (CellsAt.all (hS102.blk (i := 1) rfl)) (fun vals' hv _ => ⟨rfl, hv⟩)
  · intro k103 vals w104 h107 h108 hW106 hA105
    obtain rfl : k103 = 0 := Nat.le_antisymm h108 h107
    have hS109 : Sep G W ((Blk b2 (t.cells dt0).toArray 31) :: Rs) w104 := hW106
    refine obl rfl ?_
    exact ov_loadk (k := 1) Try.isAgg31 Try.sizeOf31 rfl rfl (CellsAt.all (hS109.blk (i := 0) rfl)) (fun vals' hv _ => ⟨rfl, hv⟩)
  · intro k110 vals w111 h114 h115 hW113 hA112
    refine obl rfl ?_
    exact ov_move (v := vc) rfl (fun vals' hv _ => ⟨rfl, hv⟩)
  · intro k116 vals w117 h120 h121 hW119 hA118
    refine obl rfl ?_
    exact ov_move (v := .int .i64 (f)) rfl (fun vals' hv _ => ⟨rfl, hv⟩)
  · intro k122 vals w123 h126 h127 hW125 hA124
    refine obl rfl ?_
    exact ov_move (v := .int .i64 (a)) rfl (fun vals' hv _ => ⟨rfl, hv⟩)
  · intro k37 vals w38 h41 h42 hW40 hA39
    obtain rfl : k37 = 0 := Nat.le_antisymm h42 h41
    have hS43 : Sep G W ((Blk b2 (t.cells dt0).toArray 31) :: Rs) w38 := hW40
    have e44 : vals 1 = (.agg (t.cells dt0).toArray : Value) := hA39 1 (by decide)
    have e45 : vals 2 = (vc : Value) := hA39 2 (by decide)
    have e46 : vals 3 = (.int .i64 (f) : Value) := hA39 3 (by decide)
    have e47 : vals 4 = (.int .i64 (a) : Value) := hA39 4 (by decide)
    refine obl rfl ?_
    refine (ov_call (f := 11) (vals := [.agg (t.cells dt0).toArray, vc, .int .i64 (f), .int .i64 (4), .int .i64 (a)]) (cap := []) (show _ = (.func (.func 11) #[] #[] : Value) from rfl) (mapL ⟨(show _ = (.agg (t.cells dt0).toArray : Value) from e44), (show _ = (vc : Value) from e45), (show _ = (.int .i64 (f) : Value) from e46), rfl, (show _ = (.int .i64 (a) : Value) from e47), trivial⟩) Try.call11 (D_Do (t := t) (c := c) (vc := vc) (f := f) (op := 4) (arg := a) hdt0 ot hc (by omega) (by decide) (by omega) hS43 (hso.ask (by first | exact .inl rfl | exact .inr rfl)) (hso.few2)) ?_)
    rintro v48 w49 ⟨_, rfl, hS50⟩
    have hr51 := hS50.row (i := 0) rfl
    have hr51s : (doL t c f 4 a).length * 32 ≤ 140737488355328 := hr51.2
    intro vals' hv hv'
    refine ⟨?_, trivial⟩
    show ∃ (v48 : Value), (vals' 5 = (v48 : Value)) ∧ Sep G W ((RowE (α := Cel) own 47 v48 (doL t c f 4 a)) :: (Blk b2 (t.cells dt0).toArray 31) :: Rs) w49
    exact ⟨v48, hv, hS50⟩
  · intro k128 vals w129 h132 h133 hW131 hA130
    refine obl rfl ?_
    exact ov_move (v := .int .i64 (f)) rfl (fun vals' hv _ => ⟨rfl, hv⟩)
  · intro k134 vals w135 h138 h139 hW137 hA136
    refine obl rfl ?_
    exact ov_move (v := .int .i64 (b)) rfl (fun vals' hv _ => ⟨rfl, hv⟩)
  · intro k65 vals w66 h69 h70 hW68 hA67
    obtain rfl : k65 = 1 := Nat.le_antisymm h70 h69
    obtain ⟨v48, he52, hS71⟩ : ∃ (v48 : Value), (vals 5 = (v48 : Value)) ∧ Sep G W ((RowE (α := Cel) own 47 v48 (doL t c f 4 a)) :: (Blk b2 (t.cells dt0).toArray 31) :: Rs) w66 := hW68
    have e72 : vals 0 = (.agg (t.cells dt0).toArray : Value) := hA67 0 (by decide)
    have e73 : vals 6 = (.int .i64 (f) : Value) := hA67 6 (by decide)
    have e74 : vals 7 = (.int .i64 (b) : Value) := hA67 7 (by decide)
    refine obl rfl ?_
    obtain ⟨G75, hA77, hB78, hS79, hk80⟩ := hS71.lend
    have hrd81 := RowE.rd hA77
    have hrd81s : (doL t c f 4 a).length * 32 ≤ 140737488355328 := hrd81.small
    refine (ov_call (f := 11) (vals := [.agg (t.cells dt0).toArray, v48, .int .i64 (f), .int .i64 (4), .int .i64 (b)]) (cap := []) (show _ = (.func (.func 11) #[] #[] : Value) from rfl) (mapL ⟨(show _ = (.agg (t.cells dt0).toArray : Value) from e72), (show _ = (v48 : Value) from he52), (show _ = (.int .i64 (f) : Value) from e73), rfl, (show _ = (.int .i64 (b) : Value) from e74), trivial⟩) Try.call11 (D_Do (t := t) (c := (doL t c f 4 a)) (vc := v48) (f := f) (op := 4) (arg := b) (RdS.base hdt0 hB78) ot hrd81 (by omega) (by decide) (by omega) hS79 ((SetOk.rem hso).ask (by first | exact .inl rfl | exact .inr rfl)) ((SetOk.rem hso).few2)) ?_)
    rintro v82 w83 ⟨_, rfl, hS84⟩
    have hr85 := hS84.row (i := 0) rfl
    have hr85s : (doL t (doL t c f 4 a) f 4 b).length * 32 ≤ 140737488355328 := hr85.2
    have hS86 : Sep G W ((RowE (α := Cel) own 47 v48 (doL t c f 4 a)) :: (RowE (α := Cel) own 47 v82 (doL t (doL t c f 4 a) f 4 b)) :: (Blk b2 (t.cells dt0).toArray 31) :: Rs) w83 := hk80 _ _ hS84
    intro vals' hv hv'
    refine ⟨?_, trivial⟩
    show ∃ (v48 : Value) (v82 : Value), (vals' 5 = (v48 : Value)) ∧ (vals' 8 = (v82 : Value)) ∧ Sep G W ((RowE (α := Cel) own 47 v48 (doL t c f 4 a)) :: (RowE (α := Cel) own 47 v82 (doL t (doL t c f 4 a) f 4 b)) :: (Blk b2 (t.cells dt0).toArray 31) :: Rs) w83
    exact ⟨v48, v82, (by rw [hv' 5 (by decide)]; exact he52), hv, hS86⟩
  · intro k140 vals w141 h144 h145 hW143 hA142
    obtain rfl : k140 = 2 := Nat.le_antisymm h145 h144
    obtain ⟨v48, v82, he52, he87, hS146⟩ : ∃ (v48 : Value) (v82 : Value), (vals 5 = (v48 : Value)) ∧ (vals 8 = (v82 : Value)) ∧ Sep G W ((RowE (α := Cel) own 47 v48 (doL t c f 4 a)) :: (RowE (α := Cel) own 47 v82 (doL t (doL t c f 4 a) f 4 b)) :: (Blk b2 (t.cells dt0).toArray 31) :: Rs) w141 := hW143
    refine obl rfl ?_
    refine ov_assign (v := v82) (show _ = (v82 : Value) from he87) (fun vals' hv hv' => ⟨rfl, ?_⟩)
    intro v82q hq0
    rw [hv' 8 (by decide)] at hq0; cases he87.symm.trans hq0
    exact hv
  intro vals w147 hW148 hA149
  obtain ⟨v48, v82, he52, he87, hS150⟩ : ∃ (v48 : Value) (v82 : Value), (vals 5 = (v48 : Value)) ∧ (vals 8 = (v82 : Value)) ∧ Sep G W ((RowE (α := Cel) own 47 v48 (doL t c f 4 a)) :: (RowE (α := Cel) own 47 v82 (doL t (doL t c f 4 a) f 4 b)) :: (Blk b2 (t.cells dt0).toArray 31) :: Rs) w147 := hW148
  have e151 : vals 9 = (v82 : Value) := hA149 9 (by decide) v82 he87
  refine st_env (kv := [(0, .agg (t.cells dt0).toArray), (1, vc), (2, .int .i64 (f)), (3, .int .i64 (a)), (4, .int .i64 (b)), (5, .pointer (some ⟨b2, 0, none⟩)), (10, .bool false), (11, v82)]) ⟨rfl, rfl, rfl, rfl, rfl, rfl, rfl, (by exact e151), trivial⟩ (fun ρw147 => ?_)
  refine st_nil ?_
  refine WP_seq ?_
  refine WP_draw4 (WF [fun vals wq => Sep G W ((RowE (α := Cel) own 47 v48 (doL t c f 4 a)) :: (RowE (α := Cel) own 47 v82 (doL t (doL t c f 4 a) f 4 b)) :: (Blk b2 (t.cells dt0).toArray 31) :: Rs) wq, fun vals wq => ∃ (v195 : Value), (vals 5 = (v195 : Value)) ∧ Sep G W ((RowE (α := Cel) own 47 v195 (doL t c f 4 b)) :: (RowE (α := Cel) own 47 v48 (doL t c f 4 a)) :: (RowE (α := Cel) own 47 v82 (doL t (doL t c f 4 a) f 4 b)) :: (Blk b2 (t.cells dt0).toArray 31) :: Rs) wq, fun vals wq => ∃ (v195 : Value) (v229 : Value), (vals 5 = (v195 : Value)) ∧ (vals 8 = (v229 : Value)) ∧ Sep G W ((RowE (α := Cel) own 47 v195 (doL t c f 4 b)) :: (RowE (α := Cel) own 47 v229 (doL t (doL t c f 4 b) f 4 a)) :: (RowE (α := Cel) own 47 v48 (doL t c f 4 a)) :: (RowE (α := Cel) own 47 v82 (doL t (doL t c f 4 a) f 4 b)) :: (Blk b2 (t.cells dt0).toArray 31) :: Rs) wq]) (AF [fun vals => vals 0 = (.agg (t.cells dt0).toArray : Value), fun vals => vals 1 = (.agg (t.cells dt0).toArray : Value), fun vals => vals 2 = (vc : Value), fun vals => vals 3 = (.int .i64 (f) : Value), fun vals => vals 4 = (.int .i64 (b) : Value), fun _ => True, fun vals => vals 6 = (.int .i64 (f) : Value), fun vals => vals 7 = (.int .i64 (a) : Value), fun _ => True, fun vals => ∀ (v229 : Value), vals 8 = (v229 : Value) → vals 9 = (v229 : Value)]) [[], [], [], [], [], [1, 2, 3, 4], [], [], [0, 1, 2, 3, 4, 5, 6, 7], [0, 1, 2, 3, 4, 5, 6, 7, 8]] [5, 8] [(0, 1), (0, 0), (0, 0), (0, 0), (0, 0), (0, 0), (0, 1), (0, 1), (1, 1), (2, 2)] (by kernel_rfl) (by kernel_rfl) (by kernel_rfl) rfl (by kernel_rfl) (by kernel_rfl) (fun _ h1 h2 h3 h4 _ => hS150.same h1 h2 h3 h4) ?_ ?_ ⟨?_, ?_, ?_, ?_, ?_, ?_, ?_, ?_, ?_, ?_, trivial⟩ ?_
  · intro k vals vals' w hv h
    have e : ∀ j ∈ ([5, 8] : List Nat), vals' j = vals j := hv
    match k, h with
    | 0, h => exact h
    | 1, h => exact (by simpa only [WF, List.getElem?_cons_zero, List.getElem?_cons_succ, e 5 (by decide)] using h)
    | 2, h => exact (by simpa only [WF, List.getElem?_cons_zero, List.getElem?_cons_succ, e 5 (by decide), e 8 (by decide)] using h)
    | _ + 3, _ => trivial
  · intro i vals vals' hv h
    match i, hv, h with
    | 0, hv, h => exact (hv 0 (.inl rfl)).trans h
    | 1, hv, h => exact (hv 1 (.inl rfl)).trans h
    | 2, hv, h => exact (hv 2 (.inl rfl)).trans h
    | 3, hv, h => exact (hv 3 (.inl rfl)).trans h
    | 4, hv, h => exact (hv 4 (.inl rfl)).trans h
    | 5, _, _ => trivial
    | 6, hv, h => exact (hv 6 (.inl rfl)).trans h
    | 7, hv, h => exact (hv 7 (.inl rfl)).trans h
    | 8, _, _ => trivial
    | 9, hv, h => exact fun v229 hq0 => (hv 9 (.inl rfl)).trans (h v229 ((hv 8 (.inr (by decide))).symm.trans hq0))
    | _ + 10, _, _ => trivial
  · intro k242 vals w243 h246 h247 hW245 hA244
    have hkk : k242 = 0 ∨ k242 = 1 := by have h1 : 0 ≤ k242 := h246; have h2 : k242 ≤ 1 := h247; omega
    rcases hkk with rfl | rfl
    · skip
      have hS248 : Sep G W ((RowE (α := Cel) own 47 v48 (doL t c f 4 a)) :: (RowE (α := Cel) own 47 v82 (doL t (doL t c f 4 a) f 4 b)) :: (Blk b2 (t.cells dt0).toArray 31) :: Rs) w243 := hW245
      refine obl rfl ?_
      exact ov_loadk (k := 1) Try.isAgg31 Try.sizeOf31 rfl rfl (CellsAt.all (hS248.blk (i := 2) rfl)) (fun vals' hv _ => ⟨rfl, hv⟩)
    · skip
      obtain ⟨v195, he199, hS249⟩ : ∃ (v195 : Value), (vals 5 = (v195 : Value)) ∧ Sep G W ((RowE (α := Cel) own 47 v195 (doL t c f 4 b)) :: (RowE (α := Cel) own 47 v48 (doL t c f 4 a)) :: (RowE (α := Cel) own 47 v82 (doL t (doL t c f 4 a) f 4 b)) :: (Blk b2 (t.cells dt0).toArray 31) :: Rs) w243 := hW245
      refine obl rfl ?_
      exact ov_loadk (k := 1) Try.isAgg31 Try.sizeOf31 rfl rfl (CellsAt.all (hS249.blk (i := 3) rfl)) (fun vals' hv _ => ⟨rfl, hv⟩)
  · intro k250 vals w251 h254 h255 hW253 hA252
    obtain rfl : k250 = 0 := Nat.le_antisymm h255 h254
    have hS256 : Sep G W ((RowE (α := Cel) own 47 v48 (doL t c f 4 a)) :: (RowE (α := Cel) own 47 v82 (doL t (doL t c f 4 a) f 4 b)) :: (Blk b2 (t.cells dt0).toArray 31) :: Rs) w251 := hW253
    refine obl rfl ?_
    exact ov_loadk (k := 1) Try.isAgg31 Try.sizeOf31 rfl rfl (CellsAt.all (hS256.blk (i := 2) rfl)) (fun vals' hv _ => ⟨rfl, hv⟩)
  · intro k257 vals w258 h261 h262 hW260 hA259
    refine obl rfl ?_
    exact ov_move (v := vc) rfl (fun vals' hv _ => ⟨rfl, hv⟩)
  · intro k263 vals w264 h267 h268 hW266 hA265
    refine obl rfl ?_
    exact ov_move (v := .int .i64 (f)) rfl (fun vals' hv _ => ⟨rfl, hv⟩)
  · intro k269 vals w270 h273 h274 hW272 hA271
    refine obl rfl ?_
    exact ov_move (v := .int .i64 (b)) rfl (fun vals' hv _ => ⟨rfl, hv⟩)
  · intro k184 vals w185 h188 h189 hW187 hA186
    obtain rfl : k184 = 0 := Nat.le_antisymm h189 h188
    have hS190 : Sep G W ((RowE (α := Cel) own 47 v48 (doL t c f 4 a)) :: (RowE (α := Cel) own 47 v82 (doL t (doL t c f 4 a) f 4 b)) :: (Blk b2 (t.cells dt0).toArray 31) :: Rs) w185 := hW187
    have e191 : vals 1 = (.agg (t.cells dt0).toArray : Value) := hA186 1 (by decide)
    have e192 : vals 2 = (vc : Value) := hA186 2 (by decide)
    have e193 : vals 3 = (.int .i64 (f) : Value) := hA186 3 (by decide)
    have e194 : vals 4 = (.int .i64 (b) : Value) := hA186 4 (by decide)
    refine obl rfl ?_
    refine (ov_call (f := 11) (vals := [.agg (t.cells dt0).toArray, vc, .int .i64 (f), .int .i64 (4), .int .i64 (b)]) (cap := []) (show _ = (.func (.func 11) #[] #[] : Value) from rfl) (mapL ⟨(show _ = (.agg (t.cells dt0).toArray : Value) from e191), (show _ = (vc : Value) from e192), (show _ = (.int .i64 (f) : Value) from e193), rfl, (show _ = (.int .i64 (b) : Value) from e194), trivial⟩) Try.call11 (D_Do (t := t) (c := c) (vc := vc) (f := f) (op := 4) (arg := b) hdt0 ot hc (by omega) (by decide) (by omega) hS190 (hso.ask (by first | exact .inl rfl | exact .inr rfl)) (hso.few2)) ?_)
    rintro v195 w196 ⟨_, rfl, hS197⟩
    have hr198 := hS197.row (i := 0) rfl
    have hr198s : (doL t c f 4 b).length * 32 ≤ 140737488355328 := hr198.2
    intro vals' hv hv'
    refine ⟨?_, trivial⟩
    show ∃ (v195 : Value), (vals' 5 = (v195 : Value)) ∧ Sep G W ((RowE (α := Cel) own 47 v195 (doL t c f 4 b)) :: (RowE (α := Cel) own 47 v48 (doL t c f 4 a)) :: (RowE (α := Cel) own 47 v82 (doL t (doL t c f 4 a) f 4 b)) :: (Blk b2 (t.cells dt0).toArray 31) :: Rs) w196
    exact ⟨v195, hv, hS197⟩
  · intro k275 vals w276 h279 h280 hW278 hA277
    refine obl rfl ?_
    exact ov_move (v := .int .i64 (f)) rfl (fun vals' hv _ => ⟨rfl, hv⟩)
  · intro k281 vals w282 h285 h286 hW284 hA283
    refine obl rfl ?_
    exact ov_move (v := .int .i64 (a)) rfl (fun vals' hv _ => ⟨rfl, hv⟩)
  · intro k212 vals w213 h216 h217 hW215 hA214
    obtain rfl : k212 = 1 := Nat.le_antisymm h217 h216
    obtain ⟨v195, he199, hS218⟩ : ∃ (v195 : Value), (vals 5 = (v195 : Value)) ∧ Sep G W ((RowE (α := Cel) own 47 v195 (doL t c f 4 b)) :: (RowE (α := Cel) own 47 v48 (doL t c f 4 a)) :: (RowE (α := Cel) own 47 v82 (doL t (doL t c f 4 a) f 4 b)) :: (Blk b2 (t.cells dt0).toArray 31) :: Rs) w213 := hW215
    have e219 : vals 0 = (.agg (t.cells dt0).toArray : Value) := hA214 0 (by decide)
    have e220 : vals 6 = (.int .i64 (f) : Value) := hA214 6 (by decide)
    have e221 : vals 7 = (.int .i64 (a) : Value) := hA214 7 (by decide)
    refine obl rfl ?_
    obtain ⟨G222, hA224, hB225, hS226, hk227⟩ := hS218.lend
    have hrd228 := RowE.rd hA224
    have hrd228s : (doL t c f 4 b).length * 32 ≤ 140737488355328 := hrd228.small
    refine (ov_call (f := 11) (vals := [.agg (t.cells dt0).toArray, v195, .int .i64 (f), .int .i64 (4), .int .i64 (a)]) (cap := []) (show _ = (.func (.func 11) #[] #[] : Value) from rfl) (mapL ⟨(show _ = (.agg (t.cells dt0).toArray : Value) from e219), (show _ = (v195 : Value) from he199), (show _ = (.int .i64 (f) : Value) from e220), rfl, (show _ = (.int .i64 (a) : Value) from e221), trivial⟩) Try.call11 (D_Do (t := t) (c := (doL t c f 4 b)) (vc := v195) (f := f) (op := 4) (arg := a) (RdS.base hdt0 hB225) ot hrd228 (by omega) (by decide) (by omega) hS226 ((SetOk.rem hso).ask (by first | exact .inl rfl | exact .inr rfl)) ((SetOk.rem hso).few2)) ?_)
    rintro v229 w230 ⟨_, rfl, hS231⟩
    have hr232 := hS231.row (i := 0) rfl
    have hr232s : (doL t (doL t c f 4 b) f 4 a).length * 32 ≤ 140737488355328 := hr232.2
    have hS233 : Sep G W ((RowE (α := Cel) own 47 v195 (doL t c f 4 b)) :: (RowE (α := Cel) own 47 v229 (doL t (doL t c f 4 b) f 4 a)) :: (RowE (α := Cel) own 47 v48 (doL t c f 4 a)) :: (RowE (α := Cel) own 47 v82 (doL t (doL t c f 4 a) f 4 b)) :: (Blk b2 (t.cells dt0).toArray 31) :: Rs) w230 := hk227 _ _ hS231
    intro vals' hv hv'
    refine ⟨?_, trivial⟩
    show ∃ (v195 : Value) (v229 : Value), (vals' 5 = (v195 : Value)) ∧ (vals' 8 = (v229 : Value)) ∧ Sep G W ((RowE (α := Cel) own 47 v195 (doL t c f 4 b)) :: (RowE (α := Cel) own 47 v229 (doL t (doL t c f 4 b) f 4 a)) :: (RowE (α := Cel) own 47 v48 (doL t c f 4 a)) :: (RowE (α := Cel) own 47 v82 (doL t (doL t c f 4 a) f 4 b)) :: (Blk b2 (t.cells dt0).toArray 31) :: Rs) w230
    exact ⟨v195, v229, (by rw [hv' 5 (by decide)]; exact he199), hv, hS233⟩
  · intro k287 vals w288 h291 h292 hW290 hA289
    obtain rfl : k287 = 2 := Nat.le_antisymm h292 h291
    obtain ⟨v195, v229, he199, he234, hS293⟩ : ∃ (v195 : Value) (v229 : Value), (vals 5 = (v195 : Value)) ∧ (vals 8 = (v229 : Value)) ∧ Sep G W ((RowE (α := Cel) own 47 v195 (doL t c f 4 b)) :: (RowE (α := Cel) own 47 v229 (doL t (doL t c f 4 b) f 4 a)) :: (RowE (α := Cel) own 47 v48 (doL t c f 4 a)) :: (RowE (α := Cel) own 47 v82 (doL t (doL t c f 4 a) f 4 b)) :: (Blk b2 (t.cells dt0).toArray 31) :: Rs) w288 := hW290
    refine obl rfl ?_
    refine ov_assign (v := v229) (show _ = (v229 : Value) from he234) (fun vals' hv hv' => ⟨rfl, ?_⟩)
    intro v229q hq0
    rw [hv' 8 (by decide)] at hq0; cases he234.symm.trans hq0
    exact hv
  intro vals w294 hW295 hA296
  obtain ⟨v195, v229, he199, he234, hS297⟩ : ∃ (v195 : Value) (v229 : Value), (vals 5 = (v195 : Value)) ∧ (vals 8 = (v229 : Value)) ∧ Sep G W ((RowE (α := Cel) own 47 v195 (doL t c f 4 b)) :: (RowE (α := Cel) own 47 v229 (doL t (doL t c f 4 b) f 4 a)) :: (RowE (α := Cel) own 47 v48 (doL t c f 4 a)) :: (RowE (α := Cel) own 47 v82 (doL t (doL t c f 4 a) f 4 b)) :: (Blk b2 (t.cells dt0).toArray 31) :: Rs) w294 := hW295
  have e298 : vals 9 = (v229 : Value) := hA296 9 (by decide) v229 he234
  refine st_env (kv := [(0, .agg (t.cells dt0).toArray), (1, vc), (2, .int .i64 (f)), (3, .int .i64 (a)), (4, .int .i64 (b)), (5, .pointer (some ⟨b2, 0, none⟩)), (10, .bool false), (11, v82), (12, v229)]) ⟨rfl, rfl, rfl, rfl, rfl, rfl, rfl, rfl, (by exact e298), trivial⟩ (fun ρw294 => ?_)
  refine st_nil ?_
  refine WP_seq ?_
  refine WP_seq ?_
  refine WP_region (by kernel_rfl) ?_
  have hS299 : Sep G W ((RowE (α := Cel) own 47 v82 (doL t (doL t c f 4 a) f 4 b)) :: (RowE (α := Cel) own 47 v195 (doL t c f 4 b)) :: (RowE (α := Cel) own 47 v229 (doL t (doL t c f 4 b) f 4 a)) :: (RowE (α := Cel) own 47 v48 (doL t c f 4 a)) :: (Blk b2 (t.cells dt0).toArray 31) :: Rs) w294 := hS297.sel 5 [3, 0, 1, 2, 4] (Nat.le_add_left _ _) rfl rfl
  obtain ⟨G300, hA302, hB303, hS304, hk305⟩ := hS299.lend
  have hrd306 := RowE.rd hA302
  have hrd306s : (doL t (doL t c f 4 a) f 4 b).length * 32 ≤ 140737488355328 := hrd306.small
  have hS307 : Sep G300 w294 ((RowE (α := Cel) own 47 v229 (doL t (doL t c f 4 b) f 4 a)) :: (RowE (α := Cel) own 47 v195 (doL t c f 4 b)) :: (RowE (α := Cel) own 47 v48 (doL t c f 4 a)) :: (Blk b2 (t.cells dt0).toArray 31) :: Rs) w294 := hS304.sel 4 [1, 0, 2, 3] (Nat.le_add_left _ _) rfl rfl
  obtain ⟨G308, hA310, hB311, hS312, hk313⟩ := hS307.lend
  have hrd314 := RowE.rd hA310
  have hrd314s : (doL t (doL t c f 4 b) f 4 a).length * 32 ≤ 140737488355328 := hrd314.small
  refine st (ov_move (v := v82) rfl ?_)
  refine st (ov_len (n := (doL t (doL t c f 4 a) f 4 b).length) Try.underlying26 rfl (RdS.base hrd306 hB311).sl ?_)
  refine st (ov_move (v := vc) rfl ?_)
  refine st (ov_len (n := c.length) Try.underlying26 rfl (RdS.base (RdS.base hc hB303) hB311).sl ?_)
  refine st (ov_neq (k := .i64) (a := (((doL t (doL t c f 4 a) f 4 b).length : Nat) : Int)) (b := ((c.length : Nat) : Int)) rfl rfl ?_)
  have hkn315 : (!decide ((((doL t (doL t c f 4 a) f 4 b).length : Nat) : Int) = ((c.length : Nat) : Int))) = false := by rw [doL_len, doL_len]; simp
  rw [hkn315]
  refine st (ov_move (v := .bool false) rfl ?_)
  refine sty rfl rfl (ov_move (v := v82) rfl ?_)
  refine sty rfl rfl (ov_move (v := v229) rfl ?_)
  refine sty rfl rfl (ov_call (f := 12) (vals := [v82, v229]) (cap := []) (show _ = (.func (.func 12) #[] #[] : Value) from rfl) rfl Try.call12 (D_Same (a := (doL t (doL t c f 4 a) f 4 b)) (va := v82) (b := (doL t (doL t c f 4 b) f 4 a)) (vb := v229) (RdS.base hrd306 hB311) hrd314 hS312) ?_)
  rintro _ w316 ⟨rfl, hS317⟩
  refine sty rfl rfl (ov_not (a := decide ((doL t (doL t c f 4 a) f 4 b) = (doL t (doL t c f 4 b) f 4 a))) rfl ?_)
  have hkn318 : (!(decide ((doL t (doL t c f 4 a) f 4 b) = (doL t (doL t c f 4 b) f 4 a)))) = false := by rw [decide_eq_true (rem_rem hso)]; rfl
  rw [hkn318]
  refine st (ov_pick_f (v := .bool false) rfl rfl ?_)
  refine st (ov_move (v := .bool false) rfl ?_)
  refine sty rfl rfl (ov_move (v := v82) rfl ?_)
  refine sty rfl rfl (ov_move (v := .int .i64 (f)) rfl ?_)
  have hi319 : f.toNat < (doL t (doL t c f 4 a) f 4 b).length := (by first | omega | (simp only [doL_len]; omega))
  refine sty rfl rfl (ov_indexAddr (k := 2) (i := f) Try.underlying26 Try.sizeOf47 rfl (RdS.base hrd306 hB311).sl rfl ⟨by omega, by omega⟩ ?_)
  refine sty rfl rfl (fd47_1 rfl ?_)
  have hi321 : f.toNat < (doL t (doL t c f 4 a) f 4 b).length := (by first | omega | (simp only [doL_len]; omega))
  obtain ⟨hce320, hde320_0, hoke320⟩ := (RdS.base hrd306 hB311).cel hi321
  rw [← getD_at default hi321] at hce320 hde320_0 hoke320
  have hsm322 : (((doL t (doL t c f 4 a) f 4 b).getD f.toNat default).set).length * 8 ≤ 140737488355328 := hde320_0.small
  have hcw323 := hS317.cells hce320 ((RdS.base hrd306 hB311).foot (ne_of_lt hi321))
  refine sty rfl rfl (ov_load1 (v := (cellV w294 (sb v82) (so v82 + f.toNat * 2 + 1))) Try.isAgg44 rfl (hcw323.get (j := 1) rfl) ?_)
  refine sty rfl rfl (ov_move (v := .int .i64 (a)) rfl ?_)
  refine sty rfl rfl (ov_call (f := 24) (vals := [(cellV w294 (sb v82) (so v82 + f.toNat * 2 + 1)), .int .i64 (a)]) (cap := []) (show _ = (.func (.func 24) #[] #[] : Value) from rfl) rfl Try.call24 (D_has (l := ((doL t (doL t c f 4 a) f 4 b).getD f.toNat default).set) (vl := (cellV w294 (sb v82) (so v82 + f.toNat * 2 + 1))) (n := a) hde320_0 (by omega) hS317) ?_)
  rintro _ w324 ⟨rfl, hS325⟩
  have hkn326 : (decide (a ∈ (((doL t (doL t c f 4 a) f 4 b).getD f.toNat default).set))) = false := by rw [rem_set hso]; simp [mem_remS]
  rw [hkn326]
  refine st (ov_pick_f (v := .bool false) rfl rfl ?_)
  refine st (ov_move (v := .bool false) rfl ?_)
  refine sty rfl rfl (ov_move (v := v82) rfl ?_)
  refine sty rfl rfl (ov_move (v := .int .i64 (f)) rfl ?_)
  have hi327 : f.toNat < (doL t (doL t c f 4 a) f 4 b).length := (by first | omega | (simp only [doL_len]; omega))
  refine sty rfl rfl (ov_indexAddr (k := 2) (i := f) Try.underlying26 Try.sizeOf47 rfl (RdS.base hrd306 hB311).sl rfl ⟨by omega, by omega⟩ ?_)
  refine sty rfl rfl (fd47_1 rfl ?_)
  have hcw329 := hS325.cells hce320 ((RdS.base hrd306 hB311).foot (ne_of_lt hi321))
  refine sty rfl rfl (ov_load1 (v := (cellV w294 (sb v82) (so v82 + f.toNat * 2 + 1))) Try.isAgg44 rfl (hcw329.get (j := 1) rfl) ?_)
  refine sty rfl rfl (ov_move (v := .int .i64 (b)) rfl ?_)
  refine sty rfl rfl (ov_call (f := 24) (vals := [(cellV w294 (sb v82) (so v82 + f.toNat * 2 + 1)), .int .i64 (b)]) (cap := []) (show _ = (.func (.func 24) #[] #[] : Value) from rfl) rfl Try.call24 (D_has (l := ((doL t (doL t c f 4 a) f 4 b).getD f.toNat default).set) (vl := (cellV w294 (sb v82) (so v82 + f.toNat * 2 + 1))) (n := b) hde320_0 (by omega) hS325) ?_)
  rintro _ w330 ⟨rfl, hS331⟩
  have hkn332 : (decide (b ∈ (((doL t (doL t c f 4 a) f 4 b).getD f.toNat default).set))) = false := by rw [rem_set hso]; simp [mem_remS]
  rw [hkn332]
  refine st (ov_pick_f (v := .bool false) rfl rfl ?_)
  refine st_nil ?_
  refine WP_cond_f rfl ?_
  refine WP_skip ?_
  refine WP_seq ?_
  refine WP_seq ?_
  refine WP_region0 (by kernel_rfl) (fun _ => ?_)
  refine st (ov_move (v := vc) rfl ?_)
  refine st (ov_move (v := .int .i64 (f)) rfl ?_)
  have hi333 : f.toNat < c.length := (by first | omega | (simp only [doL_len]; omega))
  refine st (ov_indexAddr (k := 2) (i := f) Try.underlying26 Try.sizeOf47 rfl (RdS.base (RdS.base hc hB303) hB311).sl rfl ⟨by omega, by omega⟩ ?_)
  refine st (fd47_1 rfl ?_)
  have hi335 : f.toNat < c.length := (by first | omega | (simp only [doL_len]; omega))
  obtain ⟨hce334, hde334_0, hoke334⟩ := (RdS.base (RdS.base hc hB303) hB311).cel hi335
  rw [← getD_at default hi335] at hce334 hde334_0 hoke334
  have hsm336 : ((c.getD f.toNat default).set).length * 8 ≤ 140737488355328 := hde334_0.small
  have hcw337 := hS331.cells hce334 ((RdS.base (RdS.base hc hB303) hB311).foot (ne_of_lt hi335))
  refine st (ov_load1 (v := (cellV w294 (sb vc) (so vc + f.toNat * 2 + 1))) Try.isAgg44 rfl (hcw337.get (j := 1) rfl) ?_)
  refine st (ov_len (n := ((c.getD f.toNat default).set).length) Try.underlying44 rfl hde334_0.sl ?_)
  refine st (ov_gtr (k := .i64) (a := ((((c.getD f.toNat default).set).length : Nat) : Int)) (b := 62) rfl rfl ?_)
  refine st_nil ?_
  cases hc338 : decide (62 < ((((c.getD f.toNat default).set).length : Nat) : Int))
  · skip
    have hc338 := of_decide_eq_false hc338
    have hq0 : (celAt c f).set.length < 500 := by show (c.getD f.toNat default).set.length < 500; omega
    have hq1 : (celAt (doL t c f 3 a) f).set.length < 500 := by rw [celAt_do hso.lo hso.len]; have := iins_len (l := (celAt c f).set) a; show (insS (celAt c f).set a).length < 500; have h8 : (celAt c f).set.length ≤ 62 := (by show (c.getD f.toNat default).set.length ≤ 62; omega); omega
    have hq2 : (celAt (doL t c f 3 b) f).set.length < 500 := by rw [celAt_do hso.lo hso.len]; have := iins_len (l := (celAt c f).set) b; show (insS (celAt c f).set b).length < 500; have h8 : (celAt c f).set.length ≤ 62 := (by show (c.getD f.toNat default).set.length ≤ 62; omega); omega
    refine WP_cond_f rfl ?_
    refine WP_skip ?_
    refine WP_seq ?_
    refine WP_draw4 (WF [fun vals wq => Sep G308 w294 ((RowE (α := Cel) own 47 v195 (doL t c f 4 b)) :: (RowE (α := Cel) own 47 v48 (doL t c f 4 a)) :: (Blk b2 (t.cells dt0).toArray 31) :: Rs) wq, fun vals wq => ∃ (v382 : Value), (vals 5 = (v382 : Value)) ∧ Sep G308 w294 ((RowE (α := Cel) own 47 v382 (doL t c f 3 a)) :: (RowE (α := Cel) own 47 v195 (doL t c f 4 b)) :: (RowE (α := Cel) own 47 v48 (doL t c f 4 a)) :: (Blk b2 (t.cells dt0).toArray 31) :: Rs) wq, fun vals wq => ∃ (v382 : Value) (v416 : Value), (vals 5 = (v382 : Value)) ∧ (vals 8 = (v416 : Value)) ∧ Sep G308 w294 ((RowE (α := Cel) own 47 v382 (doL t c f 3 a)) :: (RowE (α := Cel) own 47 v416 (doL t (doL t c f 3 a) f 3 b)) :: (RowE (α := Cel) own 47 v195 (doL t c f 4 b)) :: (RowE (α := Cel) own 47 v48 (doL t c f 4 a)) :: (Blk b2 (t.cells dt0).toArray 31) :: Rs) wq]) (AF [fun vals => vals 0 = (.agg (t.cells dt0).toArray : Value), fun vals => vals 1 = (.agg (t.cells dt0).toArray : Value), fun vals => vals 2 = (vc : Value), fun vals => vals 3 = (.int .i64 (f) : Value), fun vals => vals 4 = (.int .i64 (a) : Value), fun _ => True, fun vals => vals 6 = (.int .i64 (f) : Value), fun vals => vals 7 = (.int .i64 (b) : Value), fun _ => True, fun vals => ∀ (v416 : Value), vals 8 = (v416 : Value) → vals 9 = (v416 : Value)]) [[], [], [], [], [], [1, 2, 3, 4], [], [], [0, 1, 2, 3, 4, 5, 6, 7], [0, 1, 2, 3, 4, 5, 6, 7, 8]] [5, 8] [(0, 1), (0, 0), (0, 0), (0, 0), (0, 0), (0, 0), (0, 1), (0, 1), (1, 1), (2, 2)] (by kernel_rfl) (by kernel_rfl) (by kernel_rfl) rfl (by kernel_rfl) (by kernel_rfl) (fun _ h1 h2 h3 h4 _ => hS331.same h1 h2 h3 h4) ?_ ?_ ⟨?_, ?_, ?_, ?_, ?_, ?_, ?_, ?_, ?_, ?_, trivial⟩ ?_
    · intro k vals vals' w hv h
      have e : ∀ j ∈ ([5, 8] : List Nat), vals' j = vals j := hv
      match k, h with
      | 0, h => exact h
      | 1, h => exact (by simpa only [WF, List.getElem?_cons_zero, List.getElem?_cons_succ, e 5 (by decide)] using h)
      | 2, h => exact (by simpa only [WF, List.getElem?_cons_zero, List.getElem?_cons_succ, e 5 (by decide), e 8 (by decide)] using h)
      | _ + 3, _ => trivial
    · intro i vals vals' hv h
      match i, hv, h with
      | 0, hv, h => exact (hv 0 (.inl rfl)).trans h
      | 1, hv, h => exact (hv 1 (.inl rfl)).trans h
      | 2, hv, h => exact (hv 2 (.inl rfl)).trans h
      | 3, hv, h => exact (hv 3 (.inl rfl)).trans h
      | 4, hv, h => exact (hv 4 (.inl rfl)).trans h
      | 5, _, _ => trivial
      | 6, hv, h => exact (hv 6 (.inl rfl)).trans h
      | 7, hv, h => exact (hv 7 (.inl rfl)).trans h
      | 8, _, _ => trivial
      | 9, hv, h => exact fun v416 hq0 => (hv 9 (.inl rfl)).trans (h v416 ((hv 8 (.inr (by decide))).symm.trans hq0))
      | _ + 10, _, _ => trivial
    · intro k429 vals w430 h433 h434 hW432 hA431
      have hkk : k429 = 0 ∨ k429 = 1 := by have h1 : 0 ≤ k429 := h433; have h2 : k429 ≤ 1 := h434; omega
      rcases hkk with rfl | rfl
      · skip
        have hS435 : Sep G308 w294 ((RowE (α := Cel) own 47 v195 (doL t c f 4 b)) :: (RowE (α := Cel) own 47 v48 (doL t c f 4 a)) :: (Blk b2 (t.cells dt0).toArray 31) :: Rs) w430 := hW432
        refine obl rfl ?_
        exact ov_loadk (k := 1) Try.isAgg31 Try.sizeOf31 rfl rfl (CellsAt.all (hS435.blk (i := 2) rfl)) (fun vals' hv _ => ⟨rfl, hv⟩)
      · skip
        obtain ⟨v382, he386, hS436⟩ : ∃ (v382 : Value), (vals 5 = (v382 : Value)) ∧ Sep G308 w294 ((RowE (α := Cel) own 47 v382 (doL t c f 3 a)) :: (RowE (α := Cel) own 47 v195 (doL t c f 4 b)) :: (RowE (α := Cel) own 47 v48 (doL t c f 4 a)) :: (Blk b2 (t.cells dt0).toArray 31) :: Rs) w430 := hW432
        refine obl rfl ?_
        exact ov_loadk (k := 1) Try.isAgg31 Try.sizeOf31 rfl rfl (CellsAt.all (hS436.blk (i := 3) rfl)) (fun vals' hv _ => ⟨rfl, hv⟩)
    · intro k437 vals w438 h441 h442 hW440 hA439
      obtain rfl : k437 = 0 := Nat.le_antisymm h442 h441
      have hS443 : Sep G308 w294 ((RowE (α := Cel) own 47 v195 (doL t c f 4 b)) :: (RowE (α := Cel) own 47 v48 (doL t c f 4 a)) :: (Blk b2 (t.cells dt0).toArray 31) :: Rs) w438 := hW440
      refine obl rfl ?_
      exact ov_loadk (k := 1) Try.isAgg31 Try.sizeOf31 rfl rfl (CellsAt.all (hS443.blk (i := 2) rfl)) (fun vals' hv _ => ⟨rfl, hv⟩)
    · intro k444 vals w445 h448 h449 hW447 hA446
      refine obl rfl ?_
      exact ov_move (v := vc) rfl (fun vals' hv _ => ⟨rfl, hv⟩)
    · intro k450 vals w451 h454 h455 hW453 hA452
      refine obl rfl ?_
      exact ov_move (v := .int .i64 (f)) rfl (fun vals' hv _ => ⟨rfl, hv⟩)
    · intro k456 vals w457 h460 h461 hW459 hA458
      refine obl rfl ?_
      exact ov_move (v := .int .i64 (a)) rfl (fun vals' hv _ => ⟨rfl, hv⟩)
    · intro k371 vals w372 h375 h376 hW374 hA373
      obtain rfl : k371 = 0 := Nat.le_antisymm h376 h375
      have hS377 : Sep G308 w294 ((RowE (α := Cel) own 47 v195 (doL t c f 4 b)) :: (RowE (α := Cel) own 47 v48 (doL t c f 4 a)) :: (Blk b2 (t.cells dt0).toArray 31) :: Rs) w372 := hW374
      have e378 : vals 1 = (.agg (t.cells dt0).toArray : Value) := hA373 1 (by decide)
      have e379 : vals 2 = (vc : Value) := hA373 2 (by decide)
      have e380 : vals 3 = (.int .i64 (f) : Value) := hA373 3 (by decide)
      have e381 : vals 4 = (.int .i64 (a) : Value) := hA373 4 (by decide)
      refine obl rfl ?_
      refine (ov_call (f := 11) (vals := [.agg (t.cells dt0).toArray, vc, .int .i64 (f), .int .i64 (3), .int .i64 (a)]) (cap := []) (show _ = (.func (.func 11) #[] #[] : Value) from rfl) (mapL ⟨(show _ = (.agg (t.cells dt0).toArray : Value) from e378), (show _ = (vc : Value) from e379), (show _ = (.int .i64 (f) : Value) from e380), rfl, (show _ = (.int .i64 (a) : Value) from e381), trivial⟩) Try.call11 (D_Do (t := t) (c := c) (vc := vc) (f := f) (op := 3) (arg := a) (RdS.base (RdS.base hdt0 hB303) hB311) ot (RdS.base (RdS.base hc hB303) hB311) (by omega) (by decide) (by omega) hS377 (hso.ask (by first | exact .inl rfl | exact .inr rfl)) (hso.few2)) ?_)
      rintro v382 w383 ⟨_, rfl, hS384⟩
      have hr385 := hS384.row (i := 0) rfl
      have hr385s : (doL t c f 3 a).length * 32 ≤ 140737488355328 := hr385.2
      intro vals' hv hv'
      refine ⟨?_, trivial⟩
      show ∃ (v382 : Value), (vals' 5 = (v382 : Value)) ∧ Sep G308 w294 ((RowE (α := Cel) own 47 v382 (doL t c f 3 a)) :: (RowE (α := Cel) own 47 v195 (doL t c f 4 b)) :: (RowE (α := Cel) own 47 v48 (doL t c f 4 a)) :: (Blk b2 (t.cells dt0).toArray 31) :: Rs) w383
      exact ⟨v382, hv, hS384⟩
    · intro k462 vals w463 h466 h467 hW465 hA464
      refine obl rfl ?_
      exact ov_move (v := .int .i64 (f)) rfl (fun vals' hv _ => ⟨rfl, hv⟩)
    · intro k468 vals w469 h472 h473 hW471 hA470
      refine obl rfl ?_
      exact ov_move (v := .int .i64 (b)) rfl (fun vals' hv _ => ⟨rfl, hv⟩)
    · intro k399 vals w400 h403 h404 hW402 hA401
      obtain rfl : k399 = 1 := Nat.le_antisymm h404 h403
      obtain ⟨v382, he386, hS405⟩ : ∃ (v382 : Value), (vals 5 = (v382 : Value)) ∧ Sep G308 w294 ((RowE (α := Cel) own 47 v382 (doL t c f 3 a)) :: (RowE (α := Cel) own 47 v195 (doL t c f 4 b)) :: (RowE (α := Cel) own 47 v48 (doL t c f 4 a)) :: (Blk b2 (t.cells dt0).toArray 31) :: Rs) w400 := hW402
      have e406 : vals 0 = (.agg (t.cells dt0).toArray : Value) := hA401 0 (by decide)
      have e407 : vals 6 = (.int .i64 (f) : Value) := hA401 6 (by decide)
      have e408 : vals 7 = (.int .i64 (b) : Value) := hA401 7 (by decide)
      refine obl rfl ?_
      obtain ⟨G409, hA411, hB412, hS413, hk414⟩ := hS405.lend
      have hrd415 := RowE.rd hA411
      have hrd415s : (doL t c f 3 a).length * 32 ≤ 140737488355328 := hrd415.small
      refine (ov_call (f := 11) (vals := [.agg (t.cells dt0).toArray, v382, .int .i64 (f), .int .i64 (3), .int .i64 (b)]) (cap := []) (show _ = (.func (.func 11) #[] #[] : Value) from rfl) (mapL ⟨(show _ = (.agg (t.cells dt0).toArray : Value) from e406), (show _ = (v382 : Value) from he386), (show _ = (.int .i64 (f) : Value) from e407), rfl, (show _ = (.int .i64 (b) : Value) from e408), trivial⟩) Try.call11 (D_Do (t := t) (c := (doL t c f 3 a)) (vc := v382) (f := f) (op := 3) (arg := b) (RdS.base (RdS.base (RdS.base hdt0 hB303) hB311) hB412) ot hrd415 (by omega) (by decide) (by omega) hS413 ((SetOk.ins hso (by first | exact hq0 | exact hq1 | exact hq2)).ask (by first | exact .inl rfl | exact .inr rfl)) ((SetOk.ins hso (by first | exact hq0 | exact hq1 | exact hq2)).few2)) ?_)
      rintro v416 w417 ⟨_, rfl, hS418⟩
      have hr419 := hS418.row (i := 0) rfl
      have hr419s : (doL t (doL t c f 3 a) f 3 b).length * 32 ≤ 140737488355328 := hr419.2
      have hS420 : Sep G308 w294 ((RowE (α := Cel) own 47 v382 (doL t c f 3 a)) :: (RowE (α := Cel) own 47 v416 (doL t (doL t c f 3 a) f 3 b)) :: (RowE (α := Cel) own 47 v195 (doL t c f 4 b)) :: (RowE (α := Cel) own 47 v48 (doL t c f 4 a)) :: (Blk b2 (t.cells dt0).toArray 31) :: Rs) w417 := hk414 _ _ hS418
      intro vals' hv hv'
      refine ⟨?_, trivial⟩
      show ∃ (v382 : Value) (v416 : Value), (vals' 5 = (v382 : Value)) ∧ (vals' 8 = (v416 : Value)) ∧ Sep G308 w294 ((RowE (α := Cel) own 47 v382 (doL t c f 3 a)) :: (RowE (α := Cel) own 47 v416 (doL t (doL t c f 3 a) f 3 b)) :: (RowE (α := Cel) own 47 v195 (doL t c f 4 b)) :: (RowE (α := Cel) own 47 v48 (doL t c f 4 a)) :: (Blk b2 (t.cells dt0).toArray 31) :: Rs) w417
      exact ⟨v382, v416, (by rw [hv' 5 (by decide)]; exact he386), hv, hS420⟩
    · intro k474 vals w475 h478 h479 hW477 hA476
      obtain rfl : k474 = 2 := Nat.le_antisymm h479 h478
      obtain ⟨v382, v416, he386, he421, hS480⟩ : ∃ (v382 : Value) (v416 : Value), (vals 5 = (v382 : Value)) ∧ (vals 8 = (v416 : Value)) ∧ Sep G308 w294 ((RowE (α := Cel) own 47 v382 (doL t c f 3 a)) :: (RowE (α := Cel) own 47 v416 (doL t (doL t c f 3 a) f 3 b)) :: (RowE (α := Cel) own 47 v195 (doL t c f 4 b)) :: (RowE (α := Cel) own 47 v48 (doL t c f 4 a)) :: (Blk b2 (t.cells dt0).toArray 31) :: Rs) w475 := hW477
      refine obl rfl ?_
      refine ov_assign (v := v416) (show _ = (v416 : Value) from he421) (fun vals' hv hv' => ⟨rfl, ?_⟩)
      intro v416q hq0
      rw [hv' 8 (by decide)] at hq0; cases he421.symm.trans hq0
      exact hv
    intro vals w481 hW482 hA483
    obtain ⟨v382, v416, he386, he421, hS484⟩ : ∃ (v382 : Value) (v416 : Value), (vals 5 = (v382 : Value)) ∧ (vals 8 = (v416 : Value)) ∧ Sep G308 w294 ((RowE (α := Cel) own 47 v382 (doL t c f 3 a)) :: (RowE (α := Cel) own 47 v416 (doL t (doL t c f 3 a) f 3 b)) :: (RowE (α := Cel) own 47 v195 (doL t c f 4 b)) :: (RowE (α := Cel) own 47 v48 (doL t c f 4 a)) :: (Blk b2 (t.cells dt0).toArray 31) :: Rs) w481 := hW482
    have e485 : vals 9 = (v416 : Value) := hA483 9 (by decide) v416 he421
    refine st_env (kv := [(0, .agg (t.cells dt0).toArray), (1, vc), (2, .int .i64 (f)), (3, .int .i64 (a)), (4, .int .i64 (b)), (5, .pointer (some ⟨b2, 0, none⟩)), (10, .bool false), (11, v82), (12, v229), (33, v82), (34, .int .i64 (((doL t (doL t c f 4 a) f 4 b).length : Nat) : Int)), (35, vc), (36, .int .i64 ((c.length : Nat) : Int)), (37, .bool false), (38, .bool false), (39, v82), (40, v229), (41, .bool (decide ((doL t (doL t c f 4 a) f 4 b) = (doL t (doL t c f 4 b) f 4 a)))), (42, .bool false), (43, .bool false), (44, .bool false), (45, v82), (46, .int .i64 (f)), (47, .pointer (some ⟨sb v82, so v82 + f.toNat * 2, none⟩)), (48, .pointer (some ⟨sb v82, so v82 + f.toNat * 2 + 1, none⟩)), (49, (cellV w294 (sb v82) (so v82 + f.toNat * 2 + 1))), (50, .int .i64 (a)), (51, .bool false), (52, .bool false), (53, .bool false), (54, v82), (55, .int .i64 (f)), (56, .pointer (some ⟨sb v82, so v82 + f.toNat * 2, none⟩)), (57, .pointer (some ⟨sb v82, so v82 + f.toNat * 2 + 1, none⟩)), (58, (cellV w294 (sb v82) (so v82 + f.toNat * 2 + 1))), (59, .int .i64 (b)), (60, .bool false), (61, .bool false), (62, vc), (63, .int .i64 (f)), (64, .pointer (some ⟨sb vc, so vc + f.toNat * 2, none⟩)), (65, .pointer (some ⟨sb vc, so vc + f.toNat * 2 + 1, none⟩)), (66, (cellV w294 (sb vc) (so vc + f.toNat * 2 + 1))), (67, .int .i64 ((((c.getD f.toNat default).set).length : Nat) : Int)), (68, .bool false), (13, v416)]) ⟨rfl, rfl, rfl, rfl, rfl, rfl, rfl, rfl, rfl, rfl, rfl, rfl, rfl, rfl, rfl, rfl, rfl, rfl, rfl, rfl, rfl, rfl, rfl, rfl, rfl, rfl, rfl, rfl, rfl, rfl, rfl, rfl, rfl, rfl, rfl, rfl, rfl, rfl, rfl, rfl, rfl, rfl, rfl, rfl, rfl, (by exact e485), trivial⟩ (fun ρw481 => ?_)
    refine st_nil ?_
    refine WP_seq ?_
    refine WP_draw4 (WF [fun vals wq => Sep G308 w294 ((RowE (α := Cel) own 47 v382 (doL t c f 3 a)) :: (RowE (α := Cel) own 47 v416 (doL t (doL t c f 3 a) f 3 b)) :: (RowE (α := Cel) own 47 v195 (doL t c f 4 b)) :: (RowE (α := Cel) own 47 v48 (doL t c f 4 a)) :: (Blk b2 (t.cells dt0).toArray 31) :: Rs) wq, fun vals wq => ∃ (v529 : Value), (vals 5 = (v529 : Value)) ∧ Sep G308 w294 ((RowE (α := Cel) own 47 v529 (doL t c f 3 b)) :: (RowE (α := Cel) own 47 v382 (doL t c f 3 a)) :: (RowE (α := Cel) own 47 v416 (doL t (doL t c f 3 a) f 3 b)) :: (RowE (α := Cel) own 47 v195 (doL t c f 4 b)) :: (RowE (α := Cel) own 47 v48 (doL t c f 4 a)) :: (Blk b2 (t.cells dt0).toArray 31) :: Rs) wq, fun vals wq => ∃ (v529 : Value) (v563 : Value), (vals 5 = (v529 : Value)) ∧ (vals 8 = (v563 : Value)) ∧ Sep G308 w294 ((RowE (α := Cel) own 47 v529 (doL t c f 3 b)) :: (RowE (α := Cel) own 47 v563 (doL t (doL t c f 3 b) f 3 a)) :: (RowE (α := Cel) own 47 v382 (doL t c f 3 a)) :: (RowE (α := Cel) own 47 v416 (doL t (doL t c f 3 a) f 3 b)) :: (RowE (α := Cel) own 47 v195 (doL t c f 4 b)) :: (RowE (α := Cel) own 47 v48 (doL t c f 4 a)) :: (Blk b2 (t.cells dt0).toArray 31) :: Rs) wq]) (AF [fun vals => vals 0 = (.agg (t.cells dt0).toArray : Value), fun vals => vals 1 = (.agg (t.cells dt0).toArray : Value), fun vals => vals 2 = (vc : Value), fun vals => vals 3 = (.int .i64 (f) : Value), fun vals => vals 4 = (.int .i64 (b) : Value), fun _ => True, fun vals => vals 6 = (.int .i64 (f) : Value), fun vals => vals 7 = (.int .i64 (a) : Value), fun _ => True, fun vals => ∀ (v563 : Value), vals 8 = (v563 : Value) → vals 9 = (v563 : Value)]) [[], [], [], [], [], [1, 2, 3, 4], [], [], [0, 1, 2, 3, 4, 5, 6, 7], [0, 1, 2, 3, 4, 5, 6, 7, 8]] [5, 8] [(0, 1), (0, 0), (0, 0), (0, 0), (0, 0), (0, 0), (0, 1), (0, 1), (1, 1), (2, 2)] (by kernel_rfl) (by kernel_rfl) (by kernel_rfl) rfl (by kernel_rfl) (by kernel_rfl) (fun _ h1 h2 h3 h4 _ => hS484.same h1 h2 h3 h4) ?_ ?_ ⟨?_, ?_, ?_, ?_, ?_, ?_, ?_, ?_, ?_, ?_, trivial⟩ ?_
    · intro k vals vals' w hv h
      have e : ∀ j ∈ ([5, 8] : List Nat), vals' j = vals j := hv
      match k, h with
      | 0, h => exact h
      | 1, h => exact (by simpa only [WF, List.getElem?_cons_zero, List.getElem?_cons_succ, e 5 (by decide)] using h)
      | 2, h => exact (by simpa only [WF, List.getElem?_cons_zero, List.getElem?_cons_succ, e 5 (by decide), e 8 (by decide)] using h)
      | _ + 3, _ => trivial
    · intro i vals vals' hv h
      match i, hv, h with
      | 0, hv, h => exact (hv 0 (.inl rfl)).trans h
      | 1, hv, h => exact (hv 1 (.inl rfl)).trans h
      | 2, hv, h => exact (hv 2 (.inl rfl)).trans h
      | 3, hv, h => exact (hv 3 (.inl rfl)).trans h
      | 4, hv, h => exact (hv 4 (.inl rfl)).trans h
      | 5, _, _ => trivial
      | 6, hv, h => exact (hv 6 (.inl rfl)).trans h
      | 7, hv, h => exact (hv 7 (.inl rfl)).trans h
      | 8, _, _ => trivial
      | 9, hv, h => exact fun v563 hq0 => (hv 9 (.inl rfl)).trans (h v563 ((hv 8 (.inr (by decide))).symm.trans hq0))
      | _ + 10, _, _ => trivial
    · intro k576 vals w577 h580 h581 hW579 hA578
      have hkk : k576 = 0 ∨ k576 = 1 := by have h1 : 0 ≤ k576 := h580; have h2 : k576 ≤ 1 := h581; omega
      rcases hkk with rfl | rfl
      · skip
        have hS582 : Sep G308 w294 ((RowE (α := Cel) own 47 v382 (doL t c f 3 a)) :: (RowE (α := Cel) own 47 v416 (doL t (doL t c f 3 a) f 3 b)) :: (RowE (α := Cel) own 47 v195 (doL t c f 4 b)) :: (RowE (α := Cel) own 47 v48 (doL t c f 4 a)) :: (Blk b2 (t.cells dt0).toArray 31) :: Rs) w577 := hW579
        refine obl rfl ?_
        exact ov_loadk (k := 1) Try.isAgg31 Try.sizeOf31 rfl rfl (CellsAt.all (hS582.blk (i := 4) rfl)) (fun vals' hv _ => ⟨rfl, hv⟩)
      · skip
        obtain ⟨v529, he533, hS583⟩ : ∃ (v529 : Value), (vals 5 = (v529 : Value)) ∧ Sep G308 w294 ((RowE (α := Cel) own 47 v529 (doL t c f 3 b)) :: (RowE (α := Cel) own 47 v382 (doL t c f 3 a)) :: (RowE (α := Cel) own 47 v416 (doL t (doL t c f 3 a) f 3 b)) :: (RowE (α := Cel) own 47 v195 (doL t c f 4 b)) :: (RowE (α := Cel) own 47 v48 (doL t c f 4 a)) :: (Blk b2 (t.cells dt0).toArray 31) :: Rs) w577 := hW579
        refine obl rfl ?_
        exact ov_loadk (k := 1) Try.isAgg31 Try.sizeOf31 rfl rfl (CellsAt.all (hS583.blk (i := 5) rfl)) (fun vals' hv _ => ⟨rfl, hv⟩)
    · intro k584 vals w585 h588 h589 hW587 hA586
      obtain rfl : k584 = 0 := Nat.le_antisymm h589 h588
      have hS590 : Sep G308 w294 ((RowE (α := Cel) own 47 v382 (doL t c f 3 a)) :: (RowE (α := Cel) own 47 v416 (doL t (doL t c f 3 a) f 3 b)) :: (RowE (α := Cel) own 47 v195 (doL t c f 4 b)) :: (RowE (α := Cel) own 47 v48 (doL t c f 4 a)) :: (Blk b2 (t.cells dt0).toArray 31) :: Rs) w585 := hW587
      refine obl rfl ?_
      exact ov_loadk (k := 1) Try.isAgg31 Try.sizeOf31 rfl rfl (CellsAt.all (hS590.blk (i := 4) rfl)) (fun vals' hv _ => ⟨rfl, hv⟩)
    · intro k591 vals w592 h595 h596 hW594 hA593
      refine obl rfl ?_
      exact ov_move (v := vc) rfl (fun vals' hv _ => ⟨rfl, hv⟩)
    · intro k597 vals w598 h601 h602 hW600 hA599
      refine obl rfl ?_
      exact ov_move (v := .int .i64 (f)) rfl (fun vals' hv _ => ⟨rfl, hv⟩)
    · intro k603 vals w604 h607 h608 hW606 hA605
      refine obl rfl ?_
      exact ov_move (v := .int .i64 (b)) rfl (fun vals' hv _ => ⟨rfl, hv⟩)
    · intro k518 vals w519 h522 h523 hW521 hA520
      obtain rfl : k518 = 0 := Nat.le_antisymm h523 h522
      have hS524 : Sep G308 w294 ((RowE (α := Cel) own 47 v382 (doL t c f 3 a)) :: (RowE (α := Cel) own 47 v416 (doL t (doL t c f 3 a) f 3 b)) :: (RowE (α := Cel) own 47 v195 (doL t c f 4 b)) :: (RowE (α := Cel) own 47 v48 (doL t c f 4 a)) :: (Blk b2 (t.cells dt0).toArray 31) :: Rs) w519 := hW521
      have e525 : vals 1 = (.agg (t.cells dt0).toArray : Value) := hA520 1 (by decide)
      have e526 : vals 2 = (vc : Value) := hA520 2 (by decide)
      have e527 : vals 3 = (.int .i64 (f) : Value) := hA520 3 (by decide)
      have e528 : vals 4 = (.int .i64 (b) : Value) := hA520 4 (by decide)
      refine obl rfl ?_
      refine (ov_call (f := 11) (vals := [.agg (t.cells dt0).toArray, vc, .int .i64 (f), .int .i64 (3), .int .i64 (b)]) (cap := []) (show _ = (.func (.func 11) #[] #[] : Value) from rfl) (mapL ⟨(show _ = (.agg (t.cells dt0).toArray : Value) from e525), (show _ = (vc : Value) from e526), (show _ = (.int .i64 (f) : Value) from e527), rfl, (show _ = (.int .i64 (b) : Value) from e528), trivial⟩) Try.call11 (D_Do (t := t) (c := c) (vc := vc) (f := f) (op := 3) (arg := b) (RdS.base (RdS.base hdt0 hB303) hB311) ot (RdS.base (RdS.base hc hB303) hB311) (by omega) (by decide) (by omega) hS524 (hso.ask (by first | exact .inl rfl | exact .inr rfl)) (hso.few2)) ?_)
      rintro v529 w530 ⟨_, rfl, hS531⟩
      have hr532 := hS531.row (i := 0) rfl
      have hr532s : (doL t c f 3 b).length * 32 ≤ 140737488355328 := hr532.2
      intro vals' hv hv'
      refine ⟨?_, trivial⟩
      show ∃ (v529 : Value), (vals' 5 = (v529 : Value)) ∧ Sep G308 w294 ((RowE (α := Cel) own 47 v529 (doL t c f 3 b)) :: (RowE (α := Cel) own 47 v382 (doL t c f 3 a)) :: (RowE (α := Cel) own 47 v416 (doL t (doL t c f 3 a) f 3 b)) :: (RowE (α := Cel) own 47 v195 (doL t c f 4 b)) :: (RowE (α := Cel) own 47 v48 (doL t c f 4 a)) :: (Blk b2 (t.cells dt0).toArray 31) :: Rs) w530
      exact ⟨v529, hv, hS531⟩
    · intro k609 vals w610 h613 h614 hW612 hA611
      refine obl rfl ?_
      exact ov_move (v := .int .i64 (f)) rfl (fun vals' hv _ => ⟨rfl, hv⟩)
    · intro k615 vals w616 h619 h620 hW618 hA617
      refine obl rfl ?_
      exact ov_move (v := .int .i64 (a)) rfl (fun vals' hv _ => ⟨rfl, hv⟩)
    · intro k546 vals w547 h550 h551 hW549 hA548
      obtain rfl : k546 = 1 := Nat.le_antisymm h551 h550
      obtain ⟨v529, he533, hS552⟩ : ∃ (v529 : Value), (vals 5 = (v529 : Value)) ∧ Sep G308 w294 ((RowE (α := Cel) own 47 v529 (doL t c f 3 b)) :: (RowE (α := Cel) own 47 v382 (doL t c f 3 a)) :: (RowE (α := Cel) own 47 v416 (doL t (doL t c f 3 a) f 3 b)) :: (RowE (α := Cel) own 47 v195 (doL t c f 4 b)) :: (RowE (α := Cel) own 47 v48 (doL t c f 4 a)) :: (Blk b2 (t.cells dt0).toArray 31) :: Rs) w547 := hW549
      have e553 : vals 0 = (.agg (t.cells dt0).toArray : Value) := hA548 0 (by decide)
      have e554 : vals 6 = (.int .i64 (f) : Value) := hA548 6 (by decide)
      have e555 : vals 7 = (.int .i64 (a) : Value) := hA548 7 (by decide)
      refine obl rfl ?_
      obtain ⟨G556, hA558, hB559, hS560, hk561⟩ := hS552.lend
      have hrd562 := RowE.rd hA558
      have hrd562s : (doL t c f 3 b).length * 32 ≤ 140737488355328 := hrd562.small
      refine (ov_call (f := 11) (vals := [.agg (t.cells dt0).toArray, v529, .int .i64 (f), .int .i64 (3), .int .i64 (a)]) (cap := []) (show _ = (.func (.func 11) #[] #[] : Value) from rfl) (mapL ⟨(show _ = (.agg (t.cells dt0).toArray : Value) from e553), (show _ = (v529 : Value) from he533), (show _ = (.int .i64 (f) : Value) from e554), rfl, (show _ = (.int .i64 (a) : Value) from e555), trivial⟩) Try.call11 (D_Do (t := t) (c := (doL t c f 3 b)) (vc := v529) (f := f) (op := 3) (arg := a) (RdS.base (RdS.base (RdS.base hdt0 hB303) hB311) hB559) ot hrd562 (by omega) (by decide) (by omega) hS560 ((SetOk.ins hso (by first | exact hq0 | exact hq1 | exact hq2)).ask (by first | exact .inl rfl | exact .inr rfl)) ((SetOk.ins hso (by first | exact hq0 | exact hq1 | exact hq2)).few2)) ?_)
      rintro v563 w564 ⟨_, rfl, hS565⟩
      have hr566 := hS565.row (i := 0) rfl
      have hr566s : (doL t (doL t c f 3 b) f 3 a).length * 32 ≤ 140737488355328 := hr566.2
      have hS567 : Sep G308 w294 ((RowE (α := Cel) own 47 v529 (doL t c f 3 b)) :: (RowE (α := Cel) own 47 v563 (doL t (doL t c f 3 b) f 3 a)) :: (RowE (α := Cel) own 47 v382 (doL t c f 3 a)) :: (RowE (α := Cel) own 47 v416 (doL t (doL t c f 3 a) f 3 b)) :: (RowE (α := Cel) own 47 v195 (doL t c f 4 b)) :: (RowE (α := Cel) own 47 v48 (doL t c f 4 a)) :: (Blk b2 (t.cells dt0).toArray 31) :: Rs) w564 := hk561 _ _ hS565
      intro vals' hv hv'
      refine ⟨?_, trivial⟩
      show ∃ (v529 : Value) (v563 : Value), (vals' 5 = (v529 : Value)) ∧ (vals' 8 = (v563 : Value)) ∧ Sep G308 w294 ((RowE (α := Cel) own 47 v529 (doL t c f 3 b)) :: (RowE (α := Cel) own 47 v563 (doL t (doL t c f 3 b) f 3 a)) :: (RowE (α := Cel) own 47 v382 (doL t c f 3 a)) :: (RowE (α := Cel) own 47 v416 (doL t (doL t c f 3 a) f 3 b)) :: (RowE (α := Cel) own 47 v195 (doL t c f 4 b)) :: (RowE (α := Cel) own 47 v48 (doL t c f 4 a)) :: (Blk b2 (t.cells dt0).toArray 31) :: Rs) w564
      exact ⟨v529, v563, (by rw [hv' 5 (by decide)]; exact he533), hv, hS567⟩
    · intro k621 vals w622 h625 h626 hW624 hA623
      obtain rfl : k621 = 2 := Nat.le_antisymm h626 h625
      obtain ⟨v529, v563, he533, he568, hS627⟩ : ∃ (v529 : Value) (v563 : Value), (vals 5 = (v529 : Value)) ∧ (vals 8 = (v563 : Value)) ∧ Sep G308 w294 ((RowE (α := Cel) own 47 v529 (doL t c f 3 b)) :: (RowE (α := Cel) own 47 v563 (doL t (doL t c f 3 b) f 3 a)) :: (RowE (α := Cel) own 47 v382 (doL t c f 3 a)) :: (RowE (α := Cel) own 47 v416 (doL t (doL t c f 3 a) f 3 b)) :: (RowE (α := Cel) own 47 v195 (doL t c f 4 b)) :: (RowE (α := Cel) own 47 v48 (doL t c f 4 a)) :: (Blk b2 (t.cells dt0).toArray 31) :: Rs) w622 := hW624
      refine obl rfl ?_
      refine ov_assign (v := v563) (show _ = (v563 : Value) from he568) (fun vals' hv hv' => ⟨rfl, ?_⟩)
      intro v563q hq0
      rw [hv' 8 (by decide)] at hq0; cases he568.symm.trans hq0
      exact hv
    intro vals w628 hW629 hA630
    obtain ⟨v529, v563, he533, he568, hS631⟩ : ∃ (v529 : Value) (v563 : Value), (vals 5 = (v529 : Value)) ∧ (vals 8 = (v563 : Value)) ∧ Sep G308 w294 ((RowE (α := Cel) own 47 v529 (doL t c f 3 b)) :: (RowE (α := Cel) own 47 v563 (doL t (doL t c f 3 b) f 3 a)) :: (RowE (α := Cel) own 47 v382 (doL t c f 3 a)) :: (RowE (α := Cel) own 47 v416 (doL t (doL t c f 3 a) f 3 b)) :: (RowE (α := Cel) own 47 v195 (doL t c f 4 b)) :: (RowE (α := Cel) own 47 v48 (doL t c f 4 a)) :: (Blk b2 (t.cells dt0).toArray 31) :: Rs) w628 := hW629
    have e632 : vals 9 = (v563 : Value) := hA630 9 (by decide) v563 he568
    refine st_env (kv := [(0, .agg (t.cells dt0).toArray), (1, vc), (2, .int .i64 (f)), (3, .int .i64 (a)), (4, .int .i64 (b)), (5, .pointer (some ⟨b2, 0, none⟩)), (10, .bool false), (11, v82), (12, v229), (33, v82), (34, .int .i64 (((doL t (doL t c f 4 a) f 4 b).length : Nat) : Int)), (35, vc), (36, .int .i64 ((c.length : Nat) : Int)), (37, .bool false), (38, .bool false), (39, v82), (40, v229), (41, .bool (decide ((doL t (doL t c f 4 a) f 4 b) = (doL t (doL t c f 4 b) f 4 a)))), (42, .bool false), (43, .bool false), (44, .bool false), (45, v82), (46, .int .i64 (f)), (47, .pointer (some ⟨sb v82, so v82 + f.toNat * 2, none⟩)), (48, .pointer (some ⟨sb v82, so v82 + f.toNat * 2 + 1, none⟩)), (49, (cellV w294 (sb v82) (so v82 + f.toNat * 2 + 1))), (50, .int .i64 (a)), (51, .bool false), (52, .bool false), (53, .bool false), (54, v82), (55, .int .i64 (f)), (56, .pointer (some ⟨sb v82, so v82 + f.toNat * 2, none⟩)), (57, .pointer (some ⟨sb v82, so v82 + f.toNat * 2 + 1, none⟩)), (58, (cellV w294 (sb v82) (so v82 + f.toNat * 2 + 1))), (59, .int .i64 (b)), (60, .bool false), (61, .bool false), (62, vc), (63, .int .i64 (f)), (64, .pointer (some ⟨sb vc, so vc + f.toNat * 2, none⟩)), (65, .pointer (some ⟨sb vc, so vc + f.toNat * 2 + 1, none⟩)), (66, (cellV w294 (sb vc) (so vc + f.toNat * 2 + 1))), (67, .int .i64 ((((c.getD f.toNat default).set).length : Nat) : Int)), (68, .bool false), (13, v416), (14, v563)]) ⟨rfl, rfl, rfl, rfl, rfl, rfl, rfl, rfl, rfl, rfl, rfl, rfl, rfl, rfl, rfl, rfl, rfl, rfl, rfl, rfl, rfl, rfl, rfl, rfl, rfl, rfl, rfl, rfl, rfl, rfl, rfl, rfl, rfl, rfl, rfl, rfl, rfl, rfl, rfl, rfl, rfl, rfl, rfl, rfl, rfl, rfl, (by exact e632), trivial⟩ (fun ρw628 => ?_)
    refine st_nil ?_
    refine WP_seq ?_
    refine WP_region (by kernel_rfl) ?_
    have hS633 : Sep G308 w294 ((RowE (α := Cel) own 47 v416 (doL t (doL t c f 3 a) f 3 b)) :: (RowE (α := Cel) own 47 v529 (doL t c f 3 b)) :: (RowE (α := Cel) own 47 v563 (doL t (doL t c f 3 b) f 3 a)) :: (RowE (α := Cel) own 47 v382 (doL t c f 3 a)) :: (RowE (α := Cel) own 47 v195 (doL t c f 4 b)) :: (RowE (α := Cel) own 47 v48 (doL t c f 4 a)) :: (Blk b2 (t.cells dt0).toArray 31) :: Rs) w628 := hS631.sel 7 [3, 0, 1, 2, 4, 5, 6] (Nat.le_add_left _ _) rfl rfl
    obtain ⟨G634, hA636, hB637, hS638, hk639⟩ := hS633.lend
    have hrd640 := RowE.rd hA636
    have hrd640s : (doL t (doL t c f 3 a) f 3 b).length * 32 ≤ 140737488355328 := hrd640.small
    have hS641 : Sep G634 w628 ((RowE (α := Cel) own 47 v563 (doL t (doL t c f 3 b) f 3 a)) :: (RowE (α := Cel) own 47 v529 (doL t c f 3 b)) :: (RowE (α := Cel) own 47 v382 (doL t c f 3 a)) :: (RowE (α := Cel) own 47 v195 (doL t c f 4 b)) :: (RowE (α := Cel) own 47 v48 (doL t c f 4 a)) :: (Blk b2 (t.cells dt0).toArray 31) :: Rs) w628 := hS638.sel 6 [1, 0, 2, 3, 4, 5] (Nat.le_add_left _ _) rfl rfl
    obtain ⟨G642, hA644, hB645, hS646, hk647⟩ := hS641.lend
    have hrd648 := RowE.rd hA644
    have hrd648s : (doL t (doL t c f 3 b) f 3 a).length * 32 ≤ 140737488355328 := hrd648.small
    refine st (ov_move (v := v416) rfl ?_)
    refine st (ov_len (n := (doL t (doL t c f 3 a) f 3 b).length) Try.underlying26 rfl (RdS.base hrd640 hB645).sl ?_)
    refine st (ov_move (v := vc) rfl ?_)
    refine st (ov_len (n := c.length) Try.underlying26 rfl (RdS.base (RdS.base (RdS.base (RdS.base hc hB303) hB311) hB637) hB645).sl ?_)
    refine st (ov_eql (k := .i64) (a := (((doL t (doL t c f 3 a) f 3 b).length : Nat) : Int)) (b := ((c.length : Nat) : Int)) rfl rfl ?_)
    have hkn649 : (decide ((((doL t (doL t c f 3 a) f 3 b).length : Nat) : Int) = ((c.length : Nat) : Int))) = true := by rw [doL_len, doL_len]; simp
    rw [hkn649]
    refine st (ov_move (v := .bool true) rfl ?_)
    refine sty rfl rfl (ov_move (v := v416) rfl ?_)
    refine sty rfl rfl (ov_move (v := v563) rfl ?_)
    refine sty rfl rfl (ov_call (f := 12) (vals := [v416, v563]) (cap := []) (show _ = (.func (.func 12) #[] #[] : Value) from rfl) rfl Try.call12 (D_Same (a := (doL t (doL t c f 3 a) f 3 b)) (va := v416) (b := (doL t (doL t c f 3 b) f 3 a)) (vb := v563) (RdS.base hrd640 hB645) hrd648 hS646) ?_)
    rintro _ w650 ⟨rfl, hS651⟩
    have hkn652 : (decide ((doL t (doL t c f 3 a) f 3 b) = (doL t (doL t c f 3 b) f 3 a))) = true := decide_eq_true (ins_ins hso)
    rw [hkn652]
    refine st (ov_pick_t (v := .bool true) rfl rfl ?_)
    refine st (ov_move (v := .bool true) rfl ?_)
    refine sty rfl rfl (ov_move (v := v416) rfl ?_)
    refine sty rfl rfl (ov_move (v := .int .i64 (f)) rfl ?_)
    have hi653 : f.toNat < (doL t (doL t c f 3 a) f 3 b).length := (by first | omega | (simp only [doL_len]; omega))
    refine sty rfl rfl (ov_indexAddr (k := 2) (i := f) Try.underlying26 Try.sizeOf47 rfl (RdS.base hrd640 hB645).sl rfl ⟨by omega, by omega⟩ ?_)
    refine sty rfl rfl (fd47_1 rfl ?_)
    have hi655 : f.toNat < (doL t (doL t c f 3 a) f 3 b).length := (by first | omega | (simp only [doL_len]; omega))
    obtain ⟨hce654, hde654_0, hoke654⟩ := (RdS.base hrd640 hB645).cel hi655
    rw [← getD_at default hi655] at hce654 hde654_0 hoke654
    have hsm656 : (((doL t (doL t c f 3 a) f 3 b).getD f.toNat default).set).length * 8 ≤ 140737488355328 := hde654_0.small
    have hcw657 := hS651.cells hce654 ((RdS.base hrd640 hB645).foot (ne_of_lt hi655))
    refine sty rfl rfl (ov_load1 (v := (cellV w628 (sb v416) (so v416 + f.toNat * 2 + 1))) Try.isAgg44 rfl (hcw657.get (j := 1) rfl) ?_)
    refine sty rfl rfl (ov_move (v := .int .i64 (a)) rfl ?_)
    refine sty rfl rfl (ov_call (f := 24) (vals := [(cellV w628 (sb v416) (so v416 + f.toNat * 2 + 1)), .int .i64 (a)]) (cap := []) (show _ = (.func (.func 24) #[] #[] : Value) from rfl) rfl Try.call24 (D_has (l := ((doL t (doL t c f 3 a) f 3 b).getD f.toNat default).set) (vl := (cellV w628 (sb v416) (so v416 + f.toNat * 2 + 1))) (n := a) hde654_0 (by omega) hS651) ?_)
    rintro _ w658 ⟨rfl, hS659⟩
    have hkn660 : (decide (a ∈ (((doL t (doL t c f 3 a) f 3 b).getD f.toNat default).set))) = true := by rw [ins_set hso]; simp [mem_insS]
    rw [hkn660]
    refine st (ov_pick_t (v := .bool true) rfl rfl ?_)
    refine st (ov_move (v := .bool true) rfl ?_)
    refine sty rfl rfl (ov_move (v := v416) rfl ?_)
    refine sty rfl rfl (ov_move (v := .int .i64 (f)) rfl ?_)
    have hi661 : f.toNat < (doL t (doL t c f 3 a) f 3 b).length := (by first | omega | (simp only [doL_len]; omega))
    refine sty rfl rfl (ov_indexAddr (k := 2) (i := f) Try.underlying26 Try.sizeOf47 rfl (RdS.base hrd640 hB645).sl rfl ⟨by omega, by omega⟩ ?_)
    refine sty rfl rfl (fd47_1 rfl ?_)
    have hcw663 := hS659.cells hce654 ((RdS.base hrd640 hB645).foot (ne_of_lt hi655))
    refine sty rfl rfl (ov_load1 (v := (cellV w628 (sb v416) (so v416 + f.toNat * 2 + 1))) Try.isAgg44 rfl (hcw663.get (j := 1) rfl) ?_)
    refine sty rfl rfl (ov_move (v := .int .i64 (b)) rfl ?_)
    refine sty rfl rfl (ov_call (f := 24) (vals := [(cellV w628 (sb v416) (so v416 + f.toNat * 2 + 1)), .int .i64 (b)]) (cap := []) (show _ = (.func (.func 24) #[] #[] : Value) from rfl) rfl Try.call24 (D_has (l := ((doL t (doL t c f 3 a) f 3 b).getD f.toNat default).set) (vl := (cellV w628 (sb v416) (so v416 + f.toNat * 2 + 1))) (n := b) hde654_0 (by omega) hS659) ?_)
    rintro _ w664 ⟨rfl, hS665⟩
    have hkn666 : (decide (b ∈ (((doL t (doL t c f 3 a) f 3 b).getD f.toNat default).set))) = true := by rw [ins_set hso]; simp [mem_insS]
    rw [hkn666]
    refine st (ov_pick_t (v := .bool true) rfl rfl ?_)
    refine st (ov_move (v := .bool true) rfl ?_)
    refine sty rfl rfl (ov_loadk (k := 1) Try.isAgg31 Try.sizeOf31 rfl rfl (CellsAt.all (hS665.blk (i := 4) rfl)) ?_)
    refine sty rfl rfl (ov_move (v := v416) rfl ?_)
    refine sty rfl rfl (ov_move (v := .int .i64 (f)) rfl ?_)
    refine sty rfl rfl (ov_move (v := .int .i64 (a)) rfl ?_)
    refine sty rfl rfl (ov_call (f := 11) (vals := [.agg (t.cells dt0).toArray, v416, .int .i64 (f), .int .i64 (3), .int .i64 (a)]) (cap := []) (show _ = (.func (.func 11) #[] #[] : Value) from rfl) rfl Try.call11 (D_Do (t := t) (c := (doL t (doL t c f 3 a) f 3 b)) (vc := v416) (f := f) (op := 3) (arg := a) (RdS.base (RdS.base (RdS.base (RdS.base hdt0 hB303) hB311) hB637) hB645) ot (RdS.base hrd640 hB645) (by omega) (by decide) (by omega) hS665 ((SetOk.ins (SetOk.ins hso (by first | exact hq0 | exact hq1 | exact hq2)) (by first | exact hq0 | exact hq1 | exact hq2)).ask (by first | exact .inl rfl | exact .inr rfl)) ((SetOk.ins (SetOk.ins hso (by first | exact hq0 | exact hq1 | exact hq2)) (by first | exact hq0 | exact hq1 | exact hq2)).few2)) ?_)
    rintro v667 w668 ⟨_, rfl, hS669⟩
    have hr670 := hS669.row (i := 0) rfl
    have hr670s : (doL t (doL t (doL t c f 3 a) f 3 b) f 3 a).length * 32 ≤ 140737488355328 := hr670.2
    refine sty rfl rfl (ov_move (v := v416) rfl ?_)
    obtain ⟨G671, hA673, hB674, hS675, hk676⟩ := hS669.lend
    have hrd677 := RowE.rd hA673
    have hrd677s : (doL t (doL t (doL t c f 3 a) f 3 b) f 3 a).length * 32 ≤ 140737488355328 := hrd677.small
    refine sty rfl rfl (ov_call (f := 12) (vals := [v667, v416]) (cap := []) (show _ = (.func (.func 12) #[] #[] : Value) from rfl) rfl Try.call12 (D_Same (a := (doL t (doL t (doL t c f 3 a) f 3 b) f 3 a)) (va := v667) (b := (doL t (doL t c f 3 a) f 3 b)) (vb := v416) hrd677 (RdS.base (RdS.base hrd640 hB645) hB674) hS675) ?_)
    rintro _ w678 ⟨rfl, hS679⟩
    have hS680 : Sep G642 w628 ((RowE (α := Cel) own 47 v667 (doL t (doL t (doL t c f 3 a) f 3 b) f 3 a)) :: (RowE (α := Cel) own 47 v529 (doL t c f 3 b)) :: (RowE (α := Cel) own 47 v382 (doL t c f 3 a)) :: (RowE (α := Cel) own 47 v195 (doL t c f 4 b)) :: (RowE (α := Cel) own 47 v48 (doL t c f 4 a)) :: (Blk b2 (t.cells dt0).toArray 31) :: Rs) w678 := hk676 _ _ hS679
    have hkn681 : (decide ((doL t (doL t (doL t c f 3 a) f 3 b) f 3 a) = (doL t (doL t c f 3 a) f 3 b))) = true := decide_eq_true (ins_same hso)
    rw [hkn681]
    refine st (ov_pick_t (v := .bool true) rfl rfl ?_)
    refine st (ov_assign (v := .bool true) rfl ?_)
    refine st_nil ?_
    refine WP_ret ?_
    refine fin1 Try.results13 (show _ = (.bool true : Value) from rfl) ?_
    have hS682 : Sep G634 w628 ((RowE (α := Cel) own 47 v563 (doL t (doL t c f 3 b) f 3 a)) :: (RowE (α := Cel) own 47 v667 (doL t (doL t (doL t c f 3 a) f 3 b) f 3 a)) :: (RowE (α := Cel) own 47 v529 (doL t c f 3 b)) :: (RowE (α := Cel) own 47 v382 (doL t c f 3 a)) :: (RowE (α := Cel) own 47 v195 (doL t c f 4 b)) :: (RowE (α := Cel) own 47 v48 (doL t c f 4 a)) :: (Blk b2 (t.cells dt0).toArray 31) :: Rs) w678 := hk647 _ _ hS680
    have hS683 : Sep G308 w294 ((RowE (α := Cel) own 47 v416 (doL t (doL t c f 3 a) f 3 b)) :: (RowE (α := Cel) own 47 v563 (doL t (doL t c f 3 b) f 3 a)) :: (RowE (α := Cel) own 47 v667 (doL t (doL t (doL t c f 3 a) f 3 b) f 3 a)) :: (RowE (α := Cel) own 47 v529 (doL t c f 3 b)) :: (RowE (α := Cel) own 47 v382 (doL t c f 3 a)) :: (RowE (α := Cel) own 47 v195 (doL t c f 4 b)) :: (RowE (α := Cel) own 47 v48 (doL t c f 4 a)) :: (Blk b2 (t.cells dt0).toArray 31) :: Rs) w678 := hk639 _ _ hS682
    have hS684 : Sep G300 w294 ((RowE (α := Cel) own 47 v229 (doL t (doL t c f 4 b) f 4 a)) :: (RowE (α := Cel) own 47 v416 (doL t (doL t c f 3 a) f 3 b)) :: (RowE (α := Cel) own 47 v563 (doL t (doL t c f 3 b) f 3 a)) :: (RowE (α := Cel) own 47 v667 (doL t (doL t (doL t c f 3 a) f 3 b) f 3 a)) :: (RowE (α := Cel) own 47 v529 (doL t c f 3 b)) :: (RowE (α := Cel) own 47 v382 (doL t c f 3 a)) :: (RowE (α := Cel) own 47 v195 (doL t c f 4 b)) :: (RowE (α := Cel) own 47 v48 (doL t c f 4 a)) :: (Blk b2 (t.cells dt0).toArray 31) :: Rs) w678 := hk313 _ _ hS683
    have hS685 : Sep G W ((RowE (α := Cel) own 47 v82 (doL t (doL t c f 4 a) f 4 b)) :: (RowE (α := Cel) own 47 v229 (doL t (doL t c f 4 b) f 4 a)) :: (RowE (α := Cel) own 47 v416 (doL t (doL t c f 3 a) f 3 b)) :: (RowE (α := Cel) own 47 v563 (doL t (doL t c f 3 b) f 3 a)) :: (RowE (α := Cel) own 47 v667 (doL t (doL t (doL t c f 3 a) f 3 b) f 3 a)) :: (RowE (α := Cel) own 47 v529 (doL t c f 3 b)) :: (RowE (α := Cel) own 47 v382 (doL t c f 3 a)) :: (RowE (α := Cel) own 47 v195 (doL t c f 4 b)) :: (RowE (α := Cel) own 47 v48 (doL t c f 4 a)) :: (Blk b2 (t.cells dt0).toArray 31) :: Rs) w678 := hk305 _ _ hS684
    have hS686 : Sep G W Rs w678 := hS685.sel 10 [] (Nat.le_add_left _ _) rfl rfl
    refine ⟨rfl, hS686⟩
  · skip
    have hc338 := of_decide_eq_true hc338
    refine WP_cond_t rfl ?_
    refine WP_seq ?_
    refine WP_region0 (by kernel_rfl) (fun _ => ?_)
    refine st (ov_assign (v := .bool true) rfl ?_)
    refine st_nil ?_
    refine WP_ret ?_
    refine fin1 Try.results13 (show _ = (.bool true : Value) from rfl) ?_
    have hS687 : Sep G300 w294 ((RowE (α := Cel) own 47 v229 (doL t (doL t c f 4 b) f 4 a)) :: (RowE (α := Cel) own 47 v195 (doL t c f 4 b)) :: (RowE (α := Cel) own 47 v48 (doL t c f 4 a)) :: (Blk b2 (t.cells dt0).toArray 31) :: Rs) w330 := hk313 _ _ hS331
    have hS688 : Sep G W ((RowE (α := Cel) own 47 v82 (doL t (doL t c f 4 a) f 4 b)) :: (RowE (α := Cel) own 47 v229 (doL t (doL t c f 4 b) f 4 a)) :: (RowE (α := Cel) own 47 v195 (doL t c f 4 b)) :: (RowE (α := Cel) own 47 v48 (doL t c f 4 a)) :: (Blk b2 (t.cells dt0).toArray 31) :: Rs) w330 := hk305 _ _ hS687
    have hS689 : Sep G W Rs w330 := hS688.sel 5 [] (Nat.le_add_left _ _) rfl rfl
    refine ⟨rfl, hS689⟩

end Go.Proofs.Ytlblilbmpdejgaa
