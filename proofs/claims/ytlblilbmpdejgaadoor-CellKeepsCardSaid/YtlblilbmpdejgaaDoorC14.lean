/- Steps of the proofs of this seat: part C14. -/
import Derived.Test.YtlblilbmpdejgaaDoorC13
set_option linter.unusedSimpArgs false
set_option linter.unusedVariables false
set_option maxRecDepth 8000
set_option maxHeartbeats 4000000
namespace Go.Proofs.YtlblilbmpdejgaaDoor
open Go.Proofs Go.RowKit

theorem D_cell0 {G : Nat → Prop} {W w : World} {Rs : List HP} {t : Typ} {dt0 : Value} (hdt0 : RdS W G dt0 t.fields) (ot : t.Ok) (hS0 : Sep G W Rs w) : Ret Tryd.prog 49 [.agg (t.cells dt0).toArray] w (fun r w' => ∃ (v : Value), r = (v : Value) ∧ Sep G W ((CelW v 42 3 (List.replicate t.fields.length ⟨0, []⟩)) :: Rs) w') := by
 have hdt0s : t.fields.length * 48 ≤ 140737488355328 := hdt0.small
 refine Calls_of_WP (args := [.agg (t.cells dt0).toArray]) Tryd.func49 rfl rfl ?_
 refine WP_seq ?_
 refine WP_region0 (by kernel_rfl) (fun _ => ?_)
 refine st (ov_box (v := .agg (t.cells dt0).toArray) rfl ?_)
 intro w3 b2 hn1
 have hS4 : Sep G W ((Blk b2 (t.cells dt0).toArray 33) :: Rs) w3 := hS0.new hn1
 refine st (ov_assign (v := (.slice none 0 0)) rfl ?_)
 refine st_nil ?_
 refine WP_seq ?_
 refine WP_region0 (by kernel_rfl) (fun _ => ?_)
 refine st (fd33_0 rfl ?_)
 refine st (ov_load1 (v := dt0) Tryd.isAgg31 rfl (blk_cellL (hS4.blk (i := 0) rfl) rfl) ?_)
 refine st (ov_len (n := t.fields.length) Tryd.underlying31 rfl hdt0.sl ?_)
 refine st (ov_makeSlice (α := CelS) (T := 42) (bytes := 32) (n := t.fields.length) (x1 := (⟨0, .slice none 0 0⟩ : CelS)) Tryd.underlying26 ⟨_, _, rfl, rfl, rfl, rfl, rfl, fun _ _ => ⟨rfl, ⟨by decide, rfl⟩⟩⟩ rfl rfl rfl (by show t.fields.length * 32 ≤ 140737488355328; omega) ?_)
 intro w10 b5 hx6 he7 hl8 ho9
 have hS11 : Sep G W ((RowE (α := CelS) own 42 (.slice (some ⟨b5, 0, none⟩) t.fields.length t.fields.length) (List.replicate t.fields.length (⟨0, .slice none 0 0⟩ : CelS))) :: (Blk b2 (t.cells dt0).toArray 33) :: Rs) w10 := hS4.made hx6 ho9
 have hr12 := hS11.row (i := 0) rfl
 have hr12s : (List.replicate t.fields.length (⟨0, .slice none 0 0⟩ : CelS)).length * 32 ≤ 140737488355328 := hr12.2
 refine st (ov_assign (v := (.slice (some ⟨b5, 0, none⟩) t.fields.length t.fields.length)) rfl ?_)
 refine st_nil ?_
 refine WP_ret ?_
 refine fin1 Tryd.results49 (show _ = ((.slice (some ⟨b5, 0, none⟩) t.fields.length t.fields.length) : Value) from rfl) ?_
 have hS13 : Sep G W ((CelW (.slice (some ⟨b5, 0, none⟩) t.fields.length t.fields.length) 42 3 (List.replicate t.fields.length ⟨0, []⟩)) :: (Blk b2 (t.cells dt0).toArray 33) :: Rs) w10 := Sep.celMade hS11
 have hS14 : Sep G W ((CelW (.slice (some ⟨b5, 0, none⟩) t.fields.length t.fields.length) 42 3 (List.replicate t.fields.length ⟨0, []⟩)) :: Rs) w10 := hS13.sel 2 [0] (Nat.le_add_left _ _) rfl rfl
 refine ⟨(.slice (some ⟨b5, 0, none⟩) t.fields.length t.fields.length), rfl, hS14⟩

theorem right_zero {t : Typ} : Right t (List.replicate t.fields.length ⟨0, []⟩) := by
  have key : ∀ i, i < (List.replicate t.fields.length (⟨0, []⟩ : Cel)).length → (List.replicate t.fields.length (⟨0, []⟩ : Cel)).getD i default = ⟨0, []⟩ := by
    intro i hi
    rw [getD_at _ hi, List.getElem_replicate]
  refine ⟨by simp, fun i hi _ => ?_, fun i hi _ => ?_, fun i hi _ => ?_, fun i hi => ?_, fun i hi => ?_⟩ <;> rw [key i hi]
  · exact Int.le_refl _
  · simp
  · exact List.Pairwise.nil
theorem right_upd {t : Typ} {c : List Cel} {k : Nat} {x : Cel} (h : Right t c) (hk : k < c.length) (h1 : (t.fields.getD k default).kind = 3 → x.n = 0) (h2 : (t.fields.getD k default).kind ≠ 3 → x.set = []) (h3 : (t.fields.getD k default).floor = true → 0 ≤ x.n) (h4 : x.set.length ≤ 64) (h5 : Asc x.set) : Right t (c.set k x) := by
  have key : ∀ i, i < (c.set k x).length → (i = k ∧ (c.set k x).getD i default = x) ∨ (i ≠ k ∧ i < c.length ∧ (c.set k x).getD i default = c.getD i default) := by
    intro i hi
    rw [List.length_set] at hi
    by_cases e : i = k
    · subst e; exact .inl ⟨rfl, getD_set_self hi _ _⟩
    · exact .inr ⟨e, hi, getD_set_ne (fun h => e h.symm) _ _⟩
  refine ⟨by rw [List.length_set]; exact h.len, fun i hi hq => ?_, fun i hi hq => ?_, fun i hi hq => ?_, fun i hi => ?_, fun i hi => ?_⟩ <;> rcases key i hi with ⟨rfl, e⟩ | ⟨_, hi2, e⟩ <;> rw [e]
  · exact h1 hq
  · exact h.num i hi2 hq
  · exact h2 hq
  · exact h.set i hi2 hq
  · exact h3 hq
  · exact h.floor i hi2 hq
  · exact h4
  · exact h.most i hi2
  · exact h5
  · exact h.asc i hi2
theorem right_num {t : Typ} {c : List Cel} {k : Nat} {m : Int} (h : Right t c) (hk : k < c.length) (h1 : ¬ (t.fields.getD k default).kind = 3) (h3 : (t.fields.getD k default).floor = true → 0 ≤ m) : Right t (c.set k ⟨m, (c.getD k default).set⟩) :=
  right_upd h hk (fun e => absurd e h1) (fun _ => h.set k hk h1) h3 (h.most k hk) (h.asc k hk)
theorem right_num2 {t : Typ} {c : List Cel} {k : Nat} {a m : Int} (h : Right t c) (hk : k < c.length) (h1 : ¬ (t.fields.getD k default).kind = 3) (h3 : (t.fields.getD k default).floor = true → 0 ≤ m) : Right t ((c.set k ⟨a, (c.getD k default).set⟩).set k ⟨m, ((c.set k ⟨a, (c.getD k default).set⟩).getD k default).set⟩) := by
  rw [List.set_set, getD_set_self hk]
  exact right_num h hk h1 h3
theorem right_ins {t : Typ} {c : List Cel} {k : Nat} {x : Int} (h : Right t c) (hk : k < c.length) (h1 : (t.fields.getD k default).kind = 3) (hl : (c.getD k default).set.length < 64) (h3 : (t.fields.getD k default).floor = true → (t.fields.getD k default).kind = 1) : Right t (c.set k ⟨(c.getD k default).n, insS (c.getD k default).set x⟩) :=
  right_upd h hk (fun e => h.num k hk e) (fun e => absurd h1 e) (fun e => by have := h3 e; omega) (by have := insS_len (h.asc k hk) x; show (insS (c.getD k default).set x).length ≤ 64; omega) (insS_asc (h.asc k hk) x)
theorem D_Cells {G : Nat → Prop} {W w : World} {Rs : List HP} {t : Typ} {dt0 : Value} (hdt0 : RdS W G dt0 t.fields) (ot : t.Ok) {vl : Value} {l : List Cel} (hl : RdS W G vl l) (hS0 : Sep G W Rs w) (ht : TypOk t) : Ret Tryd.prog 14 [.agg (t.cells dt0).toArray, vl] w (fun r w' => ∃ (v : Value) (c2 : List Cel), r = (v : Value) ∧ (Right t c2) ∧ Sep G W ((RowE (α := Cel) own 42 v c2) :: Rs) w') := by
 have hdt0s : t.fields.length * 48 ≤ 140737488355328 := hdt0.small
 have hls : l.length * 32 ≤ 140737488355328 := hl.small
 refine Calls_of_WP (args := [.agg (t.cells dt0).toArray, vl]) Tryd.func14 rfl rfl ?_
 refine WP_seq ?_
 refine WP_region0 (by kernel_rfl) (fun _ => ?_)
 refine st (ov_box (v := .agg (t.cells dt0).toArray) rfl ?_)
 intro w3 b2 hn1
 have hS4 : Sep G W ((Blk b2 (t.cells dt0).toArray 33) :: Rs) w3 := hS0.new hn1
 refine st (ov_assign (v := (.slice none 0 0)) rfl ?_)
 refine st_nil ?_
 refine WP_seq ?_
 refine WP_region0 (by kernel_rfl) (fun _ => ?_)
 refine st (ov_loadk (k := 1) Tryd.isAgg33 Tryd.sizeOf33 rfl rfl (CellsAt.all (hS4.blk (i := 0) rfl)) ?_)
 refine st (ov_call (f := 49) (vals := [.agg (t.cells dt0).toArray]) (cap := []) (show _ = (.func (.func 49) #[] #[] : Value) from rfl) rfl Tryd.call49 (D_cell0 (t := t) hdt0 ot hS4) ?_)
 rintro v5 w6 ⟨_, rfl, hS7⟩
 refine st (ov_assign (v := v5) rfl ?_)
 refine st_nil ?_
 refine WP_seq ?_
 refine WP_seq ?_
 refine WP_region0 (by kernel_rfl) (fun _ => ?_)
 refine st (ov_assign (v := .int .i64 (0)) rfl ?_)
 refine st_nil ?_
 refine WP_block ?_
 refine WP_loop (fun mq σ wq => ∃ (k : Nat) (cur : List Cel) (ρ : Env), mq = t.fields.length - k ∧ σ = setAll ρ [(1, vl), (2, .pointer (some ⟨b2, 0, none⟩)), (5, v5), (6, .int .i64 ((k : Nat) : Int))] ∧ (k ≤ t.fields.length) ∧ (Right t cur) ∧ Sep G W ((CelW v5 42 3 cur) :: (Blk b2 (t.cells dt0).toArray 33) :: Rs) wq) ⟨0, (List.replicate t.fields.length ⟨0, []⟩), _, rfl, setAll_self ⟨rfl, rfl, rfl, rfl, trivial⟩, Nat.zero_le _, right_zero, hS7⟩ ?_
 rintro m9 σ10 w8 ⟨k, cur, ρl1, rfl, rfl, hk, hR, hS11⟩
 have hcl := hR.len
 refine WP_seq ?_
 refine WP_seq ?_
 refine WP_region (by kernel_rfl) ?_
 refine st (ov_move (v := .int .i64 ((k : Nat) : Int)) rfl ?_)
 refine st (fd33_0 rfl ?_)
 refine st (ov_load1 (v := dt0) Tryd.isAgg31 rfl (blk_cellL (hS11.blk (i := 1) rfl) rfl) ?_)
 refine st (ov_len (n := t.fields.length) Tryd.underlying31 rfl hdt0.sl ?_)
 refine st (ov_lss (k := .i64) (a := ((k : Nat) : Int)) (b := ((t.fields.length : Nat) : Int)) rfl rfl ?_)
 refine st (ov_move (v := .bool (decide (((k : Nat) : Int) < ((t.fields.length : Nat) : Int)))) rfl ?_)
 refine stc (V := .int .i64 ((k : Nat) : Int)) rfl rfl (fun hb12 => ?_) ?_
 ·have hl13 := hb12
  have hl13 := of_decide_eq_true hl13
  exact ov_move (v := .int .i64 ((k : Nat) : Int)) rfl ⟨rfl, rfl⟩
 refine stc (V := vl) rfl rfl (fun hb14 => ?_) ?_
 ·have hl15 := hb14
  have hl15 := of_decide_eq_true hl15
  exact ov_move (v := vl) rfl ⟨rfl, rfl⟩
 refine stc (V := .int .i64 ((l.length : Nat) : Int)) rfl rfl (fun hb16 => ?_) ?_
 ·have hl17 := hb16
  have hl17 := of_decide_eq_true hl17
  exact ov_len (n := l.length) Tryd.underlying26 (show _ = (vl : Value) from (if_pos hb16)) hl.sl ⟨rfl, rfl⟩
 refine stc (V := .bool (decide (((k : Nat) : Int) < ((l.length : Nat) : Int)))) rfl rfl (fun hb18 => ?_) ?_
 ·have hl19 := hb18
  have hl19 := of_decide_eq_true hl19
  exact ov_lss (k := .i64) (a := ((k : Nat) : Int)) (b := ((l.length : Nat) : Int)) (show _ = (.int .i64 ((k : Nat) : Int) : Value) from (if_pos hb18)) (show _ = (.int .i64 ((l.length : Nat) : Int) : Value) from (if_pos hb18)) ⟨rfl, rfl⟩
 refine st (ov_pick_and (b := decide (((k : Nat) : Int) < ((t.fields.length : Nat) : Int))) (b' := decide (((k : Nat) : Int) < ((l.length : Nat) : Int))) rfl (fun hbp => (show _ = (.bool (decide (((k : Nat) : Int) < ((l.length : Nat) : Int))) : Value) from (if_pos hbp))) ?_)
 refine st_nil ?_
 cases hc20 : (decide (((k : Nat) : Int) < ((t.fields.length : Nat) : Int))) && (decide (((k : Nat) : Int) < ((l.length : Nat) : Int)))
 ·skip
  try simp only [bools] at hc20
  refine WP_cond_f rfl ?_
  refine WP_exit ?_
  refine blk_exit ?_
  refine WP_seq ?_
  refine WP_region0 (by kernel_rfl) (fun _ => ?_)
  refine st (ov_move (v := v5) rfl ?_)
  refine st (ov_assign (v := v5) rfl ?_)
  refine st_nil ?_
  refine WP_ret ?_
  refine fin1 Tryd.results14 (show _ = (v5 : Value) from rfl) ?_
  have hS21 : Sep G W ((RowE (α := Cel) own 42 v5 cur) :: (Blk b2 (t.cells dt0).toArray 33) :: Rs) w8 := CelW.row hS11
  have hS22 : Sep G W ((RowE (α := Cel) own 42 v5 cur) :: Rs) w8 := hS21.sel 2 [0] (Nat.le_add_left _ _) rfl rfl
  refine ⟨v5, cur, rfl, ?_, hS22⟩
  exact hR
 ·skip
  try simp only [bools] at hc20
  refine WP_cond_t rfl ?_
  refine WP_skip ?_
  refine WP_seq ?_
  refine WP_block ?_
  refine WP_seq ?_
  refine WP_region0 (by kernel_rfl) (fun _ => ?_)
  refine st (fd33_0 rfl ?_)
  refine st (ov_load1 (v := dt0) Tryd.isAgg31 rfl (blk_cellL (hS11.blk (i := 1) rfl) rfl) ?_)
  refine st (ov_move (v := .int .i64 ((k : Nat) : Int)) rfl ?_)
  have hi23 : k < t.fields.length := (by first | omega | (simp only [lens]; omega))
  refine st (ov_indexAddrN (k := 4) (i := k) Tryd.underlying31 Tryd.sizeOf79 rfl hdt0.sl rfl hi23 ?_)
  refine st (fd79_0 rfl ?_)
  have hi25 : k < t.fields.length := (by first | omega | (simp only [lens]; omega))
  obtain ⟨hce24, hde24_0, hoke24⟩ := hdt0.fld hi25
  rw [← getD_at default hi25] at hce24 hde24_0 hoke24
  have hsm26 : ((t.fields.getD k default).moves).length * 32 ≤ 140737488355328 := hde24_0.small
  have hcw27 := hS11.cells hce24 (hdt0.foot (ne_of_lt hi25))
  refine st (ov_load1 (v := .int .i64 ((t.fields.getD k default).kind)) Tryd.isAgg3 rfl (hcw27.get (j := 0) rfl) ?_)
  refine st_nil ?_
  refine WP_block ?_
  refine WP_seq ?_
  refine WP_region0 (by kernel_rfl) (fun _ => ?_)
  refine st (ov_eql (k := .i64) (a := (t.fields.getD k default).kind) (b := 3) rfl rfl ?_)
  refine st (ov_assign (v := .bool (decide (((t.fields.getD k default).kind) = 3))) rfl ?_)
  refine st_nil ?_
  cases hc28 : decide (((t.fields.getD k default).kind) = 3)
  ·skip
   have hc28 := of_decide_eq_false hc28
   refine WP_cond_f rfl ?_
   refine WP_seq ?_
   refine WP_region0 (by kernel_rfl) (fun _ => ?_)
   refine st (ov_eql (k := .i64) (a := (t.fields.getD k default).kind) (b := 1) rfl rfl ?_)
   refine st (ov_assign (v := .bool (decide (((t.fields.getD k default).kind) = 1))) rfl ?_)
   refine st_nil ?_
   cases hc29 : decide (((t.fields.getD k default).kind) = 1)
   ·skip
    have hc29 := of_decide_eq_false hc29
    refine WP_cond_f rfl ?_
    refine WP_region0 (by kernel_rfl) (fun _ => ?_)
    refine st (ov_move (v := v5) rfl ?_)
    refine st (ov_move (v := .int .i64 ((k : Nat) : Int)) rfl ?_)
    refine st (ov_move (v := vl) rfl ?_)
    refine st (ov_move (v := .int .i64 ((k : Nat) : Int)) rfl ?_)
    have hi30 : k < l.length := (by first | omega | (simp only [lens]; omega))
    refine st (ov_indexAddrN (k := 2) (i := k) Tryd.underlying26 Tryd.sizeOf42 rfl hl.sl rfl hi30 ?_)
    refine st (fd42_0 rfl ?_)
    have hi32 : k < l.length := (by first | omega | (simp only [lens]; omega))
    obtain ⟨hce31, hde31_0, hoke31⟩ := hl.cel hi32
    rw [← getD_at default hi32] at hce31 hde31_0 hoke31
    have hsm33 : ((l.getD k default).set).length * 8 ≤ 140737488355328 := hde31_0.small
    have hcw34 := hS11.cells hce31 (hl.foot (ne_of_lt hi32))
    refine st (ov_load1 (v := .int .i64 ((l.getD k default).n)) Tryd.isAgg3 rfl (hcw34.get (j := 0) rfl) ?_)
    have hi35 : k < cur.length := (by first | omega | (simp only [lens]; omega))
    refine st (ov_indexAddrN (k := 2) (i := k) Tryd.underlying26 Tryd.sizeOf42 rfl (hS11.celSl (i := 0) rfl) rfl hi35 ?_)
    refine st (fd42_0 rfl ?_)
    obtain ⟨sh37, hsh38, hS39⟩ := CelW.open hS11
    have hsh38l := hsh38.1
    have hS39t : Sep G W ((RowE (α := CelS) own 42 v5 sh37) :: (Star (SetRows 3 sh37 cur)) :: (Blk b2 (t.cells dt0).toArray 33) :: Rs) w8 := hS39
    have hr40 := hS39t.row (i := 0) rfl
    have hr40s : sh37.length * 32 ≤ 140737488355328 := hr40.2
    have hS41 : Sep G W ((RowE (α := CelS) own 42 v5 sh37) :: Emp :: (Star (SetRows 3 sh37 cur)) :: (Blk b2 (t.cells dt0).toArray 33) :: Rs) w8 := hS39t.emp1
    refine stn (ov_storeS (α := CelS) (j := k) (o := 0) (u := .int .i64 ((l.getD k default).n)) (us := [.int .i64 ((l.getD k default).n)]) (x1 := (⟨(l.getD k default).n, (sh37.getD k default).v⟩ : CelS)) hS41 Tryd.sizeOf3 (by first | omega | (simp only [lens]; omega)) rfl rfl rfl (Nat.le_of_ble_eq_true rfl) (all1 ⟨rfl, trivial⟩) (fun _ _ _ hel _ => (by rw [← getD_at default (by omega)] at hel; obtain ⟨rfl, hok⟩ := hel; exact ⟨rfl, ⟨(show InR ((l.getD k default).n) from hoke31.n), hok.one⟩⟩)) ?_)
    intro w36 hS42
    have hr43 := hS42.row (i := 0) rfl
    have hr43s : (sh37.set k (⟨(l.getD k default).n, (sh37.getD k default).v⟩ : CelS)).length * 32 ≤ 140737488355328 := hr43.2
    have hS44 : Sep G W ((CelW v5 42 3 (cur.set k ⟨(l.getD k default).n, (cur.getD k default).set⟩)) :: (Blk b2 (t.cells dt0).toArray 33) :: Rs) w36 := CelW.closeN (i := k) (m := (l.getD k default).n) hsh38.1 hsh38.2 (by omega) hS42
    refine st_nil ?_
    refine WP_region0 (by kernel_rfl) (fun _ => ?_)
    refine st (ov_move (v := .int .i64 ((k : Nat) : Int)) rfl ?_)
    have hr45 : InR ((k + 1 : Nat) : Int) := by first | omega | (simp only [lens]; omega)
    refine st (ov_add (r := ((k + 1 : Nat) : Int)) (k := .i64) (a := ((k : Nat) : Int)) (b := 1) rfl rfl (by rw [show (((k : Nat) : Int) + 1 : Int) = ((k + 1 : Nat) : Int) by first | omega | (simp only [lens]; omega)]; exact wrap_in hr45) ?_)
    refine st (ov_assign (v := .int .i64 ((k + 1 : Nat) : Int)) rfl ?_)
    refine st_nil ?_
    have hR46 : Right t (cur.set k ⟨(l.getD k default).n, (cur.getD k default).set⟩) := by
      have hk3 : ¬ (t.fields.getD k default).kind = 3 := by omega
      first | (refine right_num hR (by omega) hk3 (fun hf => ?_); first | (have := ht.floor k (by omega) hf; omega) | (have hf2 := hc29; rw [hf] at hf2; cases hf2)) | exact right_num2 hR (by omega) hk3 (fun _ => by omega)
    exact ⟨_, by omega, k + 1, (cur.set k ⟨(l.getD k default).n, (cur.getD k default).set⟩), _, rfl, setAll_self ⟨rfl, rfl, rfl, rfl, trivial⟩, by omega, hR46, hS44⟩
   ·skip
    have hc29 := of_decide_eq_true hc29
    refine WP_cond_t rfl ?_
    refine WP_seq ?_
    refine WP_region0 (by kernel_rfl) (fun _ => ?_)
    refine st (ov_move (v := v5) rfl ?_)
    refine st (ov_move (v := .int .i64 ((k : Nat) : Int)) rfl ?_)
    refine st (ov_move (v := vl) rfl ?_)
    refine st (ov_move (v := .int .i64 ((k : Nat) : Int)) rfl ?_)
    have hi47 : k < l.length := (by first | omega | (simp only [lens]; omega))
    refine st (ov_indexAddrN (k := 2) (i := k) Tryd.underlying26 Tryd.sizeOf42 rfl hl.sl rfl hi47 ?_)
    refine st (fd42_0 rfl ?_)
    have hi49 : k < l.length := (by first | omega | (simp only [lens]; omega))
    obtain ⟨hce48, hde48_0, hoke48⟩ := hl.cel hi49
    rw [← getD_at default hi49] at hce48 hde48_0 hoke48
    have hsm50 : ((l.getD k default).set).length * 8 ≤ 140737488355328 := hde48_0.small
    have hcw51 := hS11.cells hce48 (hl.foot (ne_of_lt hi49))
    refine st (ov_load1 (v := .int .i64 ((l.getD k default).n)) Tryd.isAgg3 rfl (hcw51.get (j := 0) rfl) ?_)
    have hi52 : k < cur.length := (by first | omega | (simp only [lens]; omega))
    refine st (ov_indexAddrN (k := 2) (i := k) Tryd.underlying26 Tryd.sizeOf42 rfl (hS11.celSl (i := 0) rfl) rfl hi52 ?_)
    refine st (fd42_0 rfl ?_)
    obtain ⟨sh54, hsh55, hS56⟩ := CelW.open hS11
    have hsh55l := hsh55.1
    have hS56t : Sep G W ((RowE (α := CelS) own 42 v5 sh54) :: (Star (SetRows 3 sh54 cur)) :: (Blk b2 (t.cells dt0).toArray 33) :: Rs) w8 := hS56
    have hr57 := hS56t.row (i := 0) rfl
    have hr57s : sh54.length * 32 ≤ 140737488355328 := hr57.2
    have hS58 : Sep G W ((RowE (α := CelS) own 42 v5 sh54) :: Emp :: (Star (SetRows 3 sh54 cur)) :: (Blk b2 (t.cells dt0).toArray 33) :: Rs) w8 := hS56t.emp1
    refine stn (ov_storeS (α := CelS) (j := k) (o := 0) (u := .int .i64 ((l.getD k default).n)) (us := [.int .i64 ((l.getD k default).n)]) (x1 := (⟨(l.getD k default).n, (sh54.getD k default).v⟩ : CelS)) hS58 Tryd.sizeOf3 (by first | omega | (simp only [lens]; omega)) rfl rfl rfl (Nat.le_of_ble_eq_true rfl) (all1 ⟨rfl, trivial⟩) (fun _ _ _ hel _ => (by rw [← getD_at default (by omega)] at hel; obtain ⟨rfl, hok⟩ := hel; exact ⟨rfl, ⟨(show InR ((l.getD k default).n) from hoke48.n), hok.one⟩⟩)) ?_)
    intro w53 hS59
    have hr60 := hS59.row (i := 0) rfl
    have hr60s : (sh54.set k (⟨(l.getD k default).n, (sh54.getD k default).v⟩ : CelS)).length * 32 ≤ 140737488355328 := hr60.2
    have hS61 : Sep G W ((CelW v5 42 3 (cur.set k ⟨(l.getD k default).n, (cur.getD k default).set⟩)) :: (Blk b2 (t.cells dt0).toArray 33) :: Rs) w53 := CelW.closeN (i := k) (m := (l.getD k default).n) hsh55.1 hsh55.2 (by omega) hS59
    refine st_nil ?_
    refine WP_seq ?_
    refine WP_region0 (by kernel_rfl) (fun _ => ?_)
    refine st (fd33_0 rfl ?_)
    refine st (ov_load1 (v := dt0) Tryd.isAgg31 rfl (blk_cellL (hS61.blk (i := 1) rfl) rfl) ?_)
    refine st (ov_move (v := .int .i64 ((k : Nat) : Int)) rfl ?_)
    have hi62 : k < t.fields.length := (by first | omega | (simp only [lens]; omega))
    refine st (ov_indexAddrN (k := 4) (i := k) Tryd.underlying31 Tryd.sizeOf79 rfl hdt0.sl rfl hi62 ?_)
    refine st (fd79_2 rfl ?_)
    have hcw64 := hS61.cells hce24 (hdt0.foot (ne_of_lt hi25))
    refine st (ov_load1 (v := .bool ((t.fields.getD k default).floor)) Tryd.isAgg4 rfl (hcw64.get (j := 2) rfl) ?_)
    refine st_nil ?_
    cases hc65 : (t.fields.getD k default).floor
    ·skip
     refine WP_cond_f rfl ?_
     refine WP_skip ?_
     refine WP_region0 (by kernel_rfl) (fun _ => ?_)
     refine st (ov_move (v := .int .i64 ((k : Nat) : Int)) rfl ?_)
     have hr66 : InR ((k + 1 : Nat) : Int) := by first | omega | (simp only [lens]; omega)
     refine st (ov_add (r := ((k + 1 : Nat) : Int)) (k := .i64) (a := ((k : Nat) : Int)) (b := 1) rfl rfl (by rw [show (((k : Nat) : Int) + 1 : Int) = ((k + 1 : Nat) : Int) by first | omega | (simp only [lens]; omega)]; exact wrap_in hr66) ?_)
     refine st (ov_assign (v := .int .i64 ((k + 1 : Nat) : Int)) rfl ?_)
     refine st_nil ?_
     have hR67 : Right t (cur.set k ⟨(l.getD k default).n, (cur.getD k default).set⟩) := by
       have hk3 : ¬ (t.fields.getD k default).kind = 3 := by omega
       first | (refine right_num hR (by omega) hk3 (fun hf => ?_); first | (have := ht.floor k (by omega) hf; omega) | (have hf2 := hc65; rw [hf] at hf2; cases hf2)) | exact right_num2 hR (by omega) hk3 (fun _ => by omega)
     exact ⟨_, by omega, k + 1, (cur.set k ⟨(l.getD k default).n, (cur.getD k default).set⟩), _, rfl, setAll_self ⟨rfl, rfl, rfl, rfl, trivial⟩, by omega, hR67, hS61⟩
    ·skip
     refine WP_cond_t rfl ?_
     refine WP_region0 (by kernel_rfl) (fun _ => ?_)
     refine st (ov_move (v := v5) rfl ?_)
     refine st (ov_move (v := .int .i64 ((k : Nat) : Int)) rfl ?_)
     refine st (ov_move (v := vl) rfl ?_)
     refine st (ov_move (v := .int .i64 ((k : Nat) : Int)) rfl ?_)
     have hi68 : k < l.length := (by first | omega | (simp only [lens]; omega))
     refine st (ov_indexAddrN (k := 2) (i := k) Tryd.underlying26 Tryd.sizeOf42 rfl hl.sl rfl hi68 ?_)
     refine st (fd42_0 rfl ?_)
     have hcw70 := hS61.cells hce48 (hl.foot (ne_of_lt hi49))
     refine st (ov_load1 (v := .int .i64 ((l.getD k default).n)) Tryd.isAgg3 rfl (hcw70.get (j := 0) rfl) ?_)
     refine st (ov_max (k := .i64) (a := 0) (b := (l.getD k default).n) rfl rfl ?_)
     have hi71 : k < (cur.set k ⟨(l.getD k default).n, (cur.getD k default).set⟩).length := (by first | omega | (simp only [lens]; omega))
     refine st (ov_indexAddrN (k := 2) (i := k) Tryd.underlying26 Tryd.sizeOf42 rfl (hS61.celSl (i := 0) rfl) rfl hi71 ?_)
     refine st (fd42_0 rfl ?_)
     obtain ⟨sh73, hsh74, hS75⟩ := CelW.open hS61
     have hsh74l := hsh74.1
     have hS75t : Sep G W ((RowE (α := CelS) own 42 v5 sh73) :: (Star (SetRows 3 sh73 (cur.set k ⟨(l.getD k default).n, (cur.getD k default).set⟩))) :: (Blk b2 (t.cells dt0).toArray 33) :: Rs) w53 := hS75
     have hr76 := hS75t.row (i := 0) rfl
     have hr76s : sh73.length * 32 ≤ 140737488355328 := hr76.2
     have hS77 : Sep G W ((RowE (α := CelS) own 42 v5 sh73) :: Emp :: (Star (SetRows 3 sh73 (cur.set k ⟨(l.getD k default).n, (cur.getD k default).set⟩))) :: (Blk b2 (t.cells dt0).toArray 33) :: Rs) w53 := hS75t.emp1
     refine stn (ov_storeS (α := CelS) (j := k) (o := 0) (u := .int .i64 (max 0 ((l.getD k default).n))) (us := [.int .i64 (max 0 ((l.getD k default).n))]) (x1 := (⟨max 0 ((l.getD k default).n), (sh73.getD k default).v⟩ : CelS)) hS77 Tryd.sizeOf3 (by first | omega | (simp only [lens]; omega)) rfl rfl rfl (Nat.le_of_ble_eq_true rfl) (all1 ⟨rfl, trivial⟩) (fun _ _ _ hel _ => (by rw [← getD_at default (by omega)] at hel; obtain ⟨rfl, hok⟩ := hel; exact ⟨rfl, ⟨(show InR (max 0 ((l.getD k default).n)) from (by have h1 : InR 0 := (by decide); have h2 : InR ((l.getD k default).n) := hoke48.n; omega)), hok.one⟩⟩)) ?_)
     intro w72 hS78
     have hr79 := hS78.row (i := 0) rfl
     have hr79s : (sh73.set k (⟨max 0 ((l.getD k default).n), (sh73.getD k default).v⟩ : CelS)).length * 32 ≤ 140737488355328 := hr79.2
     have hS80 : Sep G W ((CelW v5 42 3 ((cur.set k ⟨(l.getD k default).n, (cur.getD k default).set⟩).set k ⟨max 0 ((l.getD k default).n), ((cur.set k ⟨(l.getD k default).n, (cur.getD k default).set⟩).getD k default).set⟩)) :: (Blk b2 (t.cells dt0).toArray 33) :: Rs) w72 := CelW.closeN (i := k) (m := max 0 ((l.getD k default).n)) hsh74.1 hsh74.2 (by omega) hS78
     refine st_nil ?_
     refine WP_region0 (by kernel_rfl) (fun _ => ?_)
     refine st (ov_move (v := .int .i64 ((k : Nat) : Int)) rfl ?_)
     have hr81 : InR ((k + 1 : Nat) : Int) := by first | omega | (simp only [lens]; omega)
     refine st (ov_add (r := ((k + 1 : Nat) : Int)) (k := .i64) (a := ((k : Nat) : Int)) (b := 1) rfl rfl (by rw [show (((k : Nat) : Int) + 1 : Int) = ((k + 1 : Nat) : Int) by first | omega | (simp only [lens]; omega)]; exact wrap_in hr81) ?_)
     refine st (ov_assign (v := .int .i64 ((k + 1 : Nat) : Int)) rfl ?_)
     refine st_nil ?_
     have hR82 : Right t ((cur.set k ⟨(l.getD k default).n, (cur.getD k default).set⟩).set k ⟨max 0 ((l.getD k default).n), ((cur.set k ⟨(l.getD k default).n, (cur.getD k default).set⟩).getD k default).set⟩) := by
       have hk3 : ¬ (t.fields.getD k default).kind = 3 := by omega
       first | (refine right_num hR (by omega) hk3 (fun hf => ?_); first | (have := ht.floor k (by omega) hf; omega) | (have hf2 := hc65; rw [hf] at hf2; cases hf2)) | exact right_num2 hR (by omega) hk3 (fun _ => by omega)
     exact ⟨_, by omega, k + 1, ((cur.set k ⟨(l.getD k default).n, (cur.getD k default).set⟩).set k ⟨max 0 ((l.getD k default).n), ((cur.set k ⟨(l.getD k default).n, (cur.getD k default).set⟩).getD k default).set⟩), _, rfl, setAll_self ⟨rfl, rfl, rfl, rfl, trivial⟩, by omega, hR82, hS80⟩
  ·skip
   have hc28 := of_decide_eq_true hc28
   refine WP_cond_t rfl ?_
   refine WP_seq ?_
   refine WP_region0 (by kernel_rfl) (fun _ => ?_)
   refine st (ov_assign (v := .int .i64 (0)) rfl ?_)
   refine st_nil ?_
   refine WP_block ?_
   refine WP_loop (fun mq σ wq => ∃ (j : Nat) (cur2 : List Cel) (ρ : Env), mq = (l.getD k default).set.length - j ∧ σ = setAll ρ [(1, vl), (2, .pointer (some ⟨b2, 0, none⟩)), (5, v5), (6, .int .i64 ((k : Nat) : Int)), (7, .int .i64 ((j : Nat) : Int))] ∧ (j ≤ (l.getD k default).set.length) ∧ (Right t cur2) ∧ Sep G W ((CelW v5 42 3 cur2) :: (Blk b2 (t.cells dt0).toArray 33) :: Rs) wq) ⟨0, cur, _, rfl, setAll_self ⟨rfl, rfl, rfl, rfl, rfl, trivial⟩, Nat.zero_le _, hR, hS11⟩ ?_
   rintro m84 σ85 w83 ⟨j, cur2, ρl2, rfl, rfl, hj, hR2, hS86⟩
   have hcl2 := hR2.len
   refine WP_seq ?_
   refine WP_seq ?_
   refine WP_region (by kernel_rfl) ?_
   obtain ⟨G87, hA89, hB90, hS91, hk92⟩ := hS86.lend
   have hrd93 := CelW.rd hA89
   have hrd93s : cur2.length * 32 ≤ 140737488355328 := hrd93.small
   refine st (ov_move (v := .int .i64 ((j : Nat) : Int)) rfl ?_)
   refine st (ov_move (v := vl) rfl ?_)
   refine st (ov_move (v := .int .i64 ((k : Nat) : Int)) rfl ?_)
   have hi94 : k < l.length := (by first | omega | (simp only [lens]; omega))
   refine st (ov_indexAddrN (k := 2) (i := k) Tryd.underlying26 Tryd.sizeOf42 rfl (RdS.base hl hB90).sl rfl hi94 ?_)
   refine st (fd42_1 rfl ?_)
   have hi96 : k < l.length := (by first | omega | (simp only [lens]; omega))
   obtain ⟨hce95, hde95_0, hoke95⟩ := (RdS.base hl hB90).cel hi96
   rw [← getD_at default hi96] at hce95 hde95_0 hoke95
   have hsm97 : ((l.getD k default).set).length * 8 ≤ 140737488355328 := hde95_0.small
   have hcw98 := hS91.cells hce95 ((RdS.base hl hB90).foot (ne_of_lt hi96))
   refine st (ov_load1 (v := (cellV w83 (sb vl) (so vl + k * 2 + 1))) Tryd.isAgg40 rfl (hcw98.get (j := 1) rfl) ?_)
   refine st (ov_len (n := ((l.getD k default).set).length) Tryd.underlying40 rfl hde95_0.sl ?_)
   refine st (ov_lss (k := .i64) (a := ((j : Nat) : Int)) (b := ((((l.getD k default).set).length : Nat) : Int)) rfl rfl ?_)
   refine st (ov_move (v := .bool (decide (((j : Nat) : Int) < ((((l.getD k default).set).length : Nat) : Int)))) rfl ?_)
   refine stc (V := v5) rfl rfl (fun hb99 => ?_) ?_
   ·have hl100 := hb99
    have hl100 := of_decide_eq_true hl100
    exact ov_move (v := v5) rfl ⟨rfl, rfl⟩
   refine stc (V := .int .i64 ((k : Nat) : Int)) rfl rfl (fun hb101 => ?_) ?_
   ·have hl102 := hb101
    have hl102 := of_decide_eq_true hl102
    exact ov_move (v := .int .i64 ((k : Nat) : Int)) rfl ⟨rfl, rfl⟩
   refine stc (V := .pointer (some ⟨sb v5, so v5 + k * 2, none⟩)) rfl rfl (fun hb103 => ?_) ?_
   ·have hl104 := hb103
    have hl104 := of_decide_eq_true hl104
    have hi105 : k < cur2.length := (by first | omega | (simp only [lens]; omega))
    exact ov_indexAddrN (k := 2) (i := k) Tryd.underlying26 Tryd.sizeOf42 (show _ = (v5 : Value) from (if_pos hb103)) hrd93.sl (show _ = (.int .i64 ((k : Nat) : Int) : Value) from (if_pos hb103)) hi105 ⟨rfl, rfl⟩
   refine stc (V := .pointer (some ⟨sb v5, so v5 + k * 2 + 1, none⟩)) rfl rfl (fun hb106 => ?_) ?_
   ·have hl107 := hb106
    have hl107 := of_decide_eq_true hl107
    exact fd42_1 (show _ = (.pointer (some ⟨sb v5, so v5 + k * 2, none⟩) : Value) from (if_pos hb106)) ⟨rfl, rfl⟩
   refine stc (V := (cellV w83 (sb v5) (so v5 + k * 2 + 1))) rfl rfl (fun hb108 => ?_) ?_
   ·have hl109 := hb108
    have hl109 := of_decide_eq_true hl109
    have hi111 : k < cur2.length := (by first | omega | (simp only [lens]; omega))
    obtain ⟨hce110, hde110_0, hoke110⟩ := hrd93.cel hi111
    rw [← getD_at default hi111] at hce110 hde110_0 hoke110
    have hsm112 : ((cur2.getD k default).set).length * 8 ≤ 140737488355328 := hde110_0.small
    have hcw113 := hS91.cells hce110 (hrd93.foot (ne_of_lt hi111))
    exact ov_load1 (v := (cellV w83 (sb v5) (so v5 + k * 2 + 1))) Tryd.isAgg40 (show _ = (.pointer (some ⟨sb v5, so v5 + k * 2 + 1, none⟩) : Value) from (if_pos hb108)) (hcw113.get (j := 1) rfl) ⟨rfl, rfl⟩
   refine stc (V := .int .i64 ((((cur2.getD k default).set).length : Nat) : Int)) rfl rfl (fun hb114 => ?_) ?_
   ·have hl115 := hb114
    have hl115 := of_decide_eq_true hl115
    have hi117 : k < cur2.length := (by first | omega | (simp only [lens]; omega))
    obtain ⟨hce116, hde116_0, hoke116⟩ := hrd93.cel hi117
    rw [← getD_at default hi117] at hce116 hde116_0 hoke116
    have hsm118 : ((cur2.getD k default).set).length * 8 ≤ 140737488355328 := hde116_0.small
    have hcw119 := hS91.cells hce116 (hrd93.foot (ne_of_lt hi117))
    exact ov_len (n := ((cur2.getD k default).set).length) Tryd.underlying40 (show _ = ((cellV w83 (sb v5) (so v5 + k * 2 + 1)) : Value) from (if_pos hb114)) hde116_0.sl ⟨rfl, rfl⟩
   refine stc (V := .bool (decide (((((cur2.getD k default).set).length : Nat) : Int) < 64))) rfl rfl (fun hb120 => ?_) ?_
   ·have hl121 := hb120
    have hl121 := of_decide_eq_true hl121
    exact ov_lss (k := .i64) (a := ((((cur2.getD k default).set).length : Nat) : Int)) (b := 64) (show _ = (.int .i64 ((((cur2.getD k default).set).length : Nat) : Int) : Value) from (if_pos hb120)) rfl ⟨rfl, rfl⟩
   refine st (ov_pick_and (b := decide (((j : Nat) : Int) < ((((l.getD k default).set).length : Nat) : Int))) (b' := decide (((((cur2.getD k default).set).length : Nat) : Int) < 64)) rfl (fun hbp => (show _ = (.bool (decide (((((cur2.getD k default).set).length : Nat) : Int) < 64)) : Value) from (if_pos hbp))) ?_)
   refine st_nil ?_
   cases hc122 : (decide (((j : Nat) : Int) < ((((l.getD k default).set).length : Nat) : Int))) && (decide (((((cur2.getD k default).set).length : Nat) : Int) < 64))
   ·skip
    try simp only [bools] at hc122
    refine WP_cond_f rfl ?_
    refine WP_exit ?_
    refine blk_exit ?_
    refine WP_region0 (by kernel_rfl) (fun _ => ?_)
    refine st (ov_move (v := .int .i64 ((k : Nat) : Int)) rfl ?_)
    have hr123 : InR ((k + 1 : Nat) : Int) := by first | omega | (simp only [lens]; omega)
    refine st (ov_add (r := ((k + 1 : Nat) : Int)) (k := .i64) (a := ((k : Nat) : Int)) (b := 1) rfl rfl (by rw [show (((k : Nat) : Int) + 1 : Int) = ((k + 1 : Nat) : Int) by first | omega | (simp only [lens]; omega)]; exact wrap_in hr123) ?_)
    refine st (ov_assign (v := .int .i64 ((k + 1 : Nat) : Int)) rfl ?_)
    refine st_nil ?_
    have hS124 : Sep G W ((CelW v5 42 3 cur2) :: (Blk b2 (t.cells dt0).toArray 33) :: Rs) w83 := hk92 _ _ hS91
    have hR125 : Right t cur2 := by
      exact hR2
    exact ⟨_, by omega, k + 1, cur2, _, rfl, setAll_self ⟨rfl, rfl, rfl, rfl, trivial⟩, by omega, hR125, hS124⟩
   ·skip
    try simp only [bools] at hc122
    refine WP_cond_t rfl ?_
    refine WP_skip ?_
    refine WP_seq ?_
    refine WP_block ?_
    have hS126 : Sep G W ((CelW v5 42 3 cur2) :: (Blk b2 (t.cells dt0).toArray 33) :: Rs) w83 := hk92 _ _ hS91
    refine WP_draw4 (WF [fun vals wq => Sep G W ((CelW v5 42 3 cur2) :: (Blk b2 (t.cells dt0).toArray 33) :: Rs) wq, fun vals wq => ∃ (v259 : Value) (sh260 : List CelS), (vals 13 = (v259 : Value)) ∧ (k < sh260.length) ∧ Sep G W ((CelW v5 42 3 cur2) :: (RowE (α := CelS) own 42 v259 sh260) :: (RowE (α := Int) own 3 ((sh260.getD k default).v) (insS (cur2.getD k default).set (((l.getD k default).set).getD j 0))) :: (Blk b2 (t.cells dt0).toArray 33) :: Rs) wq, fun vals wq => ∃ (v259 : Value) (sh260 : List CelS), (vals 13 = (v259 : Value)) ∧ (vals 17 = ((sh260.getD k default).v : Value)) ∧ (k < sh260.length) ∧ Sep G W ((CelW v5 42 3 cur2) :: (RowE (α := CelS) own 42 v259 sh260) :: (RowE (α := Int) own 3 ((sh260.getD k default).v) (insS (cur2.getD k default).set (((l.getD k default).set).getD j 0))) :: (Blk b2 (t.cells dt0).toArray 33) :: Rs) wq, fun vals wq => ∃ (v259 : Value) (sh260 : List CelS), (vals 13 = (v259 : Value)) ∧ (vals 17 = ((sh260.getD k default).v : Value)) ∧ (k < sh260.length) ∧ Sep G W ((CelW v5 42 3 (cur2.set k ⟨(cur2.getD k default).n, (insS (cur2.getD k default).set (((l.getD k default).set).getD j 0))⟩)) :: (RowE (α := CelS) own 42 v259 sh260) :: (Blk b2 (t.cells dt0).toArray 33) :: Rs) wq]) (AF [Vl 0 (v5), Vl 1 (.int .i64 ((k : Nat) : Int)), Vl 2 (.agg (t.cells dt0).toArray), Vl 3 (v5), Vl 4 (.int .i64 ((k : Nat) : Int)), Vl 5 (vl), Vl 6 (.int .i64 ((k : Nat) : Int)), Vl 7 (.pointer (some ⟨sb vl, so vl + k * 2, none⟩)), Vl 8 (.pointer (some ⟨sb vl, so vl + k * 2 + 1, none⟩)), Vl 9 ((cellV W (sb vl) (so vl + k * 2 + 1))), Vl 10 (.int .i64 ((j : Nat) : Int)), Vl 11 (.pointer (some ⟨sb (cellV W (sb vl) (so vl + k * 2 + 1)), so (cellV W (sb vl) (so vl + k * 2 + 1)) + j * 1, none⟩)), Vl 12 (.int .i64 ((((l.getD k default).set).getD j 0))), fun _ => True, Vl 14 (.int .i64 ((k : Nat) : Int)), fun vals => ∀ (v259 : Value) (sh260 : List CelS), vals 13 = (v259 : Value) → vals 15 = (.pointer (some ⟨sb v259, so v259 + k * 2, none⟩) : Value), fun vals => ∀ (v259 : Value) (sh260 : List CelS), vals 13 = (v259 : Value) → vals 16 = (.pointer (some ⟨sb v259, so v259 + k * 2 + 1, none⟩) : Value), fun _ => True, Vl 18 (.pointer (some ⟨sb v5, so v5 + k * 2, none⟩)), Vl 19 (.pointer (some ⟨sb v5, so v5 + k * 2 + 1, none⟩)), fun _ => True]) [[], [], [], [], [], [], [], [5, 6], [5, 6, 7], [5, 6, 7, 8], [], [5, 6, 7, 8, 9, 10], [5, 6, 7, 8, 9, 10, 11], [2, 3, 4, 5, 6, 7, 8, 9, 10, 11, 12], [], [2, 3, 4, 5, 6, 7, 8, 9, 10, 11, 12, 13, 14], [2, 3, 4, 5, 6, 7, 8, 9, 10, 11, 12, 13, 14, 15], [2, 3, 4, 5, 6, 7, 8, 9, 10, 11, 12, 13, 14, 15, 16], [0, 1, 2, 3, 4, 5, 6, 7, 8, 9, 10, 11, 12, 13, 14, 15, 16, 17], [0, 1, 2, 3, 4, 5, 6, 7, 8, 9, 10, 11, 12, 13, 14, 15, 16, 17, 18], [0, 1, 2, 3, 4, 5, 6, 7, 8, 9, 10, 11, 12, 13, 14, 15, 16, 17, 18, 19]] [13, 17, 20] [(0, 2), (0, 2), (0, 0), (0, 0), (0, 0), (0, 0), (0, 0), (0, 0), (0, 0), (0, 0), (0, 0), (0, 0), (0, 0), (0, 0), (0, 1), (1, 1), (1, 1), (1, 1), (2, 2), (2, 2), (2, 2)] (by kernel_rfl) (by kernel_rfl) (by kernel_rfl) rfl (by kernel_rfl) (by kernel_rfl) (fun _ h1 h2 h3 h4 _ => hS126.same h1 h2 h3 h4) ?_ (AF_loc ⟨dA, dA, dA, dA, dA, dA, dA, dA, dA, dA, dA, dA, dA, dT, dA, fun vals vals' hv h => fun v259 sh260 hq0 => (hv 15 (.inl rfl)).trans (h v259 sh260 ((hv 13 (.inr (by decide))).symm.trans hq0)), fun vals vals' hv h => fun v259 sh260 hq0 => (hv 16 (.inl rfl)).trans (h v259 sh260 ((hv 13 (.inr (by decide))).symm.trans hq0)), dT, dA, dA, dT, trivial⟩) ⟨?_, ?_, ?_, ?_, ?_, ?_, ?_, ?_, ?_, ?_, ?_, ?_, ?_, ?_, ?_, ?_, ?_, ?_, ?_, ?_, ?_, trivial⟩ ?_
    ·intro k vals vals' w hv h
     have e : ∀ j ∈ ([13, 17, 20] : List Nat), vals' j = vals j := hv
     match k, h with
     | 0, h => exact h
     | 1, h => exact (by simpa only [WF, List.getElem?_cons_zero, List.getElem?_cons_succ, e 13 (by decide)] using h)
     | 2, h => exact (by simpa only [WF, List.getElem?_cons_zero, List.getElem?_cons_succ, e 13 (by decide), e 17 (by decide)] using h)
     | 3, h => exact (by simpa only [WF, List.getElem?_cons_zero, List.getElem?_cons_succ, e 13 (by decide), e 17 (by decide)] using h)
     | _ + 4, _ => trivial
    ·intro k345 vals w346 h349 h350 hW348 hA347
     refine obl rfl ?_
     exact ov_move (v := v5) rfl (fun vals' hv _ => ⟨rfl, hv⟩)
    ·intro k351 vals w352 h355 h356 hW354 hA353
     refine obl rfl ?_
     exact ov_move (v := .int .i64 ((k : Nat) : Int)) rfl (fun vals' hv _ => ⟨rfl, hv⟩)
    ·intro k357 vals w358 h361 h362 hW360 hA359
     obtain rfl : k357 = 0 := Nat.le_antisymm h362 h361
     have hS363 : Sep G W ((CelW v5 42 3 cur2) :: (Blk b2 (t.cells dt0).toArray 33) :: Rs) w358 := hW360
     refine obl rfl ?_
     exact ov_loadk (k := 1) Tryd.isAgg33 Tryd.sizeOf33 rfl rfl (CellsAt.all (hS363.blk (i := 1) rfl)) (fun vals' hv _ => ⟨rfl, hv⟩)
    ·intro k364 vals w365 h368 h369 hW367 hA366
     refine obl rfl ?_
     exact ov_move (v := v5) rfl (fun vals' hv _ => ⟨rfl, hv⟩)
    ·intro k370 vals w371 h374 h375 hW373 hA372
     refine obl rfl ?_
     exact ov_move (v := .int .i64 ((k : Nat) : Int)) rfl (fun vals' hv _ => ⟨rfl, hv⟩)
    ·intro k376 vals w377 h380 h381 hW379 hA378
     refine obl rfl ?_
     exact ov_move (v := vl) rfl (fun vals' hv _ => ⟨rfl, hv⟩)
    ·intro k382 vals w383 h386 h387 hW385 hA384
     refine obl rfl ?_
     exact ov_move (v := .int .i64 ((k : Nat) : Int)) rfl (fun vals' hv _ => ⟨rfl, hv⟩)
    ·intro k388 vals w389 h392 h393 hW391 hA390
     obtain rfl : k388 = 0 := Nat.le_antisymm h393 h392
     have hS394 : Sep G W ((CelW v5 42 3 cur2) :: (Blk b2 (t.cells dt0).toArray 33) :: Rs) w389 := hW391
     have e395 : vals 5 = (vl : Value) := hA390 5 (by decide)
     have e396 : vals 6 = (.int .i64 ((k : Nat) : Int) : Value) := hA390 6 (by decide)
     refine obl rfl ?_
     have hi397 : k < l.length := (by first | omega | (simp only [lens]; omega))
     exact ov_indexAddrN (k := 2) (i := k) Tryd.underlying26 Tryd.sizeOf42 e395 hl.sl e396 hi397 (fun vals' hv _ => ⟨rfl, hv⟩)
    ·intro k398 vals w399 h402 h403 hW401 hA400
     have e404 : vals 7 = (.pointer (some ⟨sb vl, so vl + k * 2, none⟩) : Value) := hA400 7 (by decide)
     refine obl rfl ?_
     exact fd42_1 e404 (fun vals' hv _ => ⟨rfl, hv⟩)
    ·intro k405 vals w406 h409 h410 hW408 hA407
     obtain rfl : k405 = 0 := Nat.le_antisymm h410 h409
     have hS411 : Sep G W ((CelW v5 42 3 cur2) :: (Blk b2 (t.cells dt0).toArray 33) :: Rs) w406 := hW408
     have e412 : vals 8 = (.pointer (some ⟨sb vl, so vl + k * 2 + 1, none⟩) : Value) := hA407 8 (by decide)
     refine obl rfl ?_
     have hi414 : k < l.length := (by first | omega | (simp only [lens]; omega))
     obtain ⟨hce413, hde413_0, hoke413⟩ := hl.cel hi414
     rw [← getD_at default hi414] at hce413 hde413_0 hoke413
     have hsm415 : ((l.getD k default).set).length * 8 ≤ 140737488355328 := hde413_0.small
     have hcw416 := hS411.cells hce413 (hl.foot (ne_of_lt hi414))
     exact ov_load1 (v := (cellV W (sb vl) (so vl + k * 2 + 1))) Tryd.isAgg40 e412 (hcw416.get (j := 1) rfl) (fun vals' hv _ => ⟨rfl, hv⟩)
    ·intro k417 vals w418 h421 h422 hW420 hA419
     refine obl rfl ?_
     exact ov_move (v := .int .i64 ((j : Nat) : Int)) rfl (fun vals' hv _ => ⟨rfl, hv⟩)
    ·intro k423 vals w424 h427 h428 hW426 hA425
     obtain rfl : k423 = 0 := Nat.le_antisymm h428 h427
     have hS429 : Sep G W ((CelW v5 42 3 cur2) :: (Blk b2 (t.cells dt0).toArray 33) :: Rs) w424 := hW426
     have e430 : vals 9 = ((cellV W (sb vl) (so vl + k * 2 + 1)) : Value) := hA425 9 (by decide)
     have e431 : vals 10 = (.int .i64 ((j : Nat) : Int) : Value) := hA425 10 (by decide)
     refine obl rfl ?_
     have hi433 : k < l.length := (by first | omega | (simp only [lens]; omega))
     obtain ⟨hce432, hde432_0, hoke432⟩ := hl.cel hi433
     rw [← getD_at default hi433] at hce432 hde432_0 hoke432
     have hsm434 : ((l.getD k default).set).length * 8 ≤ 140737488355328 := hde432_0.small
     have hcw435 := hS429.cells hce432 (hl.foot (ne_of_lt hi433))
     have hi436 : j < ((l.getD k default).set).length := (by first | omega | (simp only [lens]; omega))
     exact ov_indexAddrN (k := 1) (i := j) Tryd.underlying40 Tryd.sizeOf3 e430 hde432_0.sl e431 hi436 (fun vals' hv _ => ⟨rfl, hv⟩)
    ·intro k437 vals w438 h441 h442 hW440 hA439
     obtain rfl : k437 = 0 := Nat.le_antisymm h442 h441
     have hS443 : Sep G W ((CelW v5 42 3 cur2) :: (Blk b2 (t.cells dt0).toArray 33) :: Rs) w438 := hW440
     have e444 : vals 11 = (.pointer (some ⟨sb (cellV W (sb vl) (so vl + k * 2 + 1)), so (cellV W (sb vl) (so vl + k * 2 + 1)) + j * 1, none⟩) : Value) := hA439 11 (by decide)
     refine obl rfl ?_
     have hi447 : k < l.length := (by first | omega | (simp only [lens]; omega))
     obtain ⟨hce446, hde446_0, hoke446⟩ := hl.cel hi447
     rw [← getD_at default hi447] at hce446 hde446_0 hoke446
     have hsm448 : ((l.getD k default).set).length * 8 ≤ 140737488355328 := hde446_0.small
     have hcw449 := hS443.cells hce446 (hl.foot (ne_of_lt hi447))
     have hi450 : j < ((l.getD k default).set).length := (by first | omega | (simp only [lens]; omega))
     obtain ⟨hce445, hxe445⟩ := hde446_0.int hi450
     rw [← getD_at 0 hi450] at hce445 hxe445
     have hcw451 := hS443.cells hce445 (hde446_0.foot (ne_of_lt hi450))
     exact ov_load1 (v := .int .i64 ((((l.getD k default).set).getD j 0))) Tryd.isAgg3 e444 (hcw451.get (j := 0) rfl) (fun vals' hv _ => ⟨rfl, hv⟩)
    ·intro k234 vals w235 h238 h239 hW237 hA236
     obtain rfl : k234 = 0 := Nat.le_antisymm h239 h238
     have hS240 : Sep G W ((CelW v5 42 3 cur2) :: (Blk b2 (t.cells dt0).toArray 33) :: Rs) w235 := hW237
     have e241 : vals 2 = (.agg (t.cells dt0).toArray : Value) := hA236 2 (by decide)
     have e242 : vals 3 = (v5 : Value) := hA236 3 (by decide)
     have e243 : vals 4 = (.int .i64 ((k : Nat) : Int) : Value) := hA236 4 (by decide)
     have e244 : vals 12 = (.int .i64 ((((l.getD k default).set).getD j 0)) : Value) := hA236 12 (by decide)
     refine obl rfl ?_
     have hi247 : k < l.length := (by first | omega | (simp only [lens]; omega))
     obtain ⟨hce246, hde246_0, hoke246⟩ := hl.cel hi247
     rw [← getD_at default hi247] at hce246 hde246_0 hoke246
     have hsm248 : ((l.getD k default).set).length * 8 ≤ 140737488355328 := hde246_0.small
     have hcw249 := hS240.cells hce246 (hl.foot (ne_of_lt hi247))
     have hi250 : j < ((l.getD k default).set).length := (by first | omega | (simp only [lens]; omega))
     obtain ⟨hce245, hxe245⟩ := hde246_0.int hi250
     rw [← getD_at 0 hi250] at hce245 hxe245
     have hcw251 := hS240.cells hce245 (hde246_0.foot (ne_of_lt hi250))
     obtain ⟨G252, hA254, hB255, hS256, hk257⟩ := hS240.lend
     have hrd258 := CelW.rd hA254
     have hrd258s : cur2.length * 32 ≤ 140737488355328 := hrd258.small
     refine (ov_call (f := 50) (vals := [.agg (t.cells dt0).toArray, v5, .int .i64 ((k : Nat) : Int), .int .i64 (3), .int .i64 ((((l.getD k default).set).getD j 0))]) (cap := []) (show _ = (.func (.func 50) #[] #[] : Value) from rfl) (mapL ⟨e241, e242, e243, rfl, e244, trivial⟩) Tryd.call50 (D_refDo (t := t) (c := cur2) (vc := v5) (f := k) (arg := (((l.getD k default).set).getD j 0)) (RdS.base hdt0 hB255) ot hrd258 hxe245 hS256 (by omega) (hR2.asc k (by omega)) (by have := hR2.most k (by omega); omega)) ?_)
     rintro v259 w262 ⟨_, sh260, rfl, hsl261, hS263⟩
     have hr264 := hS263.row (i := 0) rfl
     have hr264s : sh260.length * 32 ≤ 140737488355328 := hr264.2
     have hr265 := hS263.row (i := 1) rfl
     have hr265s : (insS (cur2.getD k default).set (((l.getD k default).set).getD j 0)).length * 8 ≤ 140737488355328 := hr265.2
     have hS266 : Sep G W ((CelW v5 42 3 cur2) :: (RowE (α := CelS) own 42 v259 sh260) :: (RowE (α := Int) own 3 ((sh260.getD k default).v) (insS (cur2.getD k default).set (((l.getD k default).set).getD j 0))) :: (Blk b2 (t.cells dt0).toArray 33) :: Rs) w262 := hk257 _ _ hS263
     intro vals' hv hv'
     refine ⟨?_, trivial⟩
     show ∃ (v259 : Value) (sh260 : List CelS), (vals' 13 = (v259 : Value)) ∧ (k < sh260.length) ∧ Sep G W ((CelW v5 42 3 cur2) :: (RowE (α := CelS) own 42 v259 sh260) :: (RowE (α := Int) own 3 ((sh260.getD k default).v) (insS (cur2.getD k default).set (((l.getD k default).set).getD j 0))) :: (Blk b2 (t.cells dt0).toArray 33) :: Rs) w262
     exact ⟨v259, sh260, hv, hsl261, hS266⟩
    ·intro k452 vals w453 h456 h457 hW455 hA454
     refine obl rfl ?_
     exact ov_move (v := .int .i64 ((k : Nat) : Int)) rfl (fun vals' hv _ => ⟨rfl, hv⟩)
    ·intro k458 vals w459 h462 h463 hW461 hA460
     obtain rfl : k458 = 1 := Nat.le_antisymm h463 h462
     obtain ⟨v259, sh260, he267, hsl261, hS464⟩ : ∃ (v259 : Value) (sh260 : List CelS), (vals 13 = (v259 : Value)) ∧ (k < sh260.length) ∧ Sep G W ((CelW v5 42 3 cur2) :: (RowE (α := CelS) own 42 v259 sh260) :: (RowE (α := Int) own 3 ((sh260.getD k default).v) (insS (cur2.getD k default).set (((l.getD k default).set).getD j 0))) :: (Blk b2 (t.cells dt0).toArray 33) :: Rs) w459 := hW461
     have e465 : vals 14 = (.int .i64 ((k : Nat) : Int) : Value) := hA460 14 (by decide)
     refine obl rfl ?_
     have hi466 : k < sh260.length := (by first | omega | (simp only [lens]; omega))
     have hr467 := hS464.row (i := 1) rfl
     have hr467s : sh260.length * 32 ≤ 140737488355328 := hr467.2
     refine ov_indexAddrN (k := 2) (i := k) Tryd.underlying26 Tryd.sizeOf42 he267 hr467.1 e465 hi466 (fun vals' hv hv' => ⟨rfl, ?_⟩)
     intro v259q sh260q hq0
     rw [hv' 13 (by decide)] at hq0; cases he267.symm.trans hq0
     exact hv
    ·intro k468 vals w469 h472 h473 hW471 hA470
     obtain rfl : k468 = 1 := Nat.le_antisymm h473 h472
     obtain ⟨v259, sh260, he267, hsl261, hS474⟩ : ∃ (v259 : Value) (sh260 : List CelS), (vals 13 = (v259 : Value)) ∧ (k < sh260.length) ∧ Sep G W ((CelW v5 42 3 cur2) :: (RowE (α := CelS) own 42 v259 sh260) :: (RowE (α := Int) own 3 ((sh260.getD k default).v) (insS (cur2.getD k default).set (((l.getD k default).set).getD j 0))) :: (Blk b2 (t.cells dt0).toArray 33) :: Rs) w469 := hW471
     have e475 : vals 15 = (.pointer (some ⟨sb v259, so v259 + k * 2, none⟩) : Value) := hA470 15 (by decide) v259 sh260 he267
     refine obl rfl ?_
     refine fd42_1 e475 (fun vals' hv hv' => ⟨rfl, ?_⟩)
     intro v259q sh260q hq0
     rw [hv' 13 (by decide)] at hq0; cases he267.symm.trans hq0
     exact hv
    ·intro k292 vals w293 h296 h297 hW295 hA294
     obtain rfl : k292 = 1 := Nat.le_antisymm h297 h296
     obtain ⟨v259, sh260, he267, hsl261, hS298⟩ : ∃ (v259 : Value) (sh260 : List CelS), (vals 13 = (v259 : Value)) ∧ (k < sh260.length) ∧ Sep G W ((CelW v5 42 3 cur2) :: (RowE (α := CelS) own 42 v259 sh260) :: (RowE (α := Int) own 3 ((sh260.getD k default).v) (insS (cur2.getD k default).set (((l.getD k default).set).getD j 0))) :: (Blk b2 (t.cells dt0).toArray 33) :: Rs) w293 := hW295
     have e299 : vals 16 = (.pointer (some ⟨sb v259, so v259 + k * 2 + 1, none⟩) : Value) := hA294 16 (by decide) v259 sh260 he267
     refine obl rfl ?_
     have hi301 : k < sh260.length := (by first | omega | (simp only [lens]; omega))
     obtain ⟨_, _, hce300, rfl, hoke300⟩ := hS298.rowAt (i := 1) (j := k) rfl hi301
     rw [← getD_at default hi301] at hce300 hoke300
     refine (ov_load1 (v := (sh260.getD k default).v) Tryd.isAgg40 e299 (hce300.get (j := 1) rfl) ?_)
     intro vals' hv hv'
     refine ⟨?_, trivial⟩
     show ∃ (v259 : Value) (sh260 : List CelS), (vals' 13 = (v259 : Value)) ∧ (vals' 17 = ((sh260.getD k default).v : Value)) ∧ (k < sh260.length) ∧ Sep G W ((CelW v5 42 3 cur2) :: (RowE (α := CelS) own 42 v259 sh260) :: (RowE (α := Int) own 3 ((sh260.getD k default).v) (insS (cur2.getD k default).set (((l.getD k default).set).getD j 0))) :: (Blk b2 (t.cells dt0).toArray 33) :: Rs) w293
     exact ⟨v259, sh260, (by rw [hv' 13 (by decide)]; exact he267), hv, hsl261, hS298⟩
    ·intro k476 vals w477 h480 h481 hW479 hA478
     obtain rfl : k476 = 2 := Nat.le_antisymm h481 h480
     obtain ⟨v259, sh260, he267, he302, hsl261, hS482⟩ : ∃ (v259 : Value) (sh260 : List CelS), (vals 13 = (v259 : Value)) ∧ (vals 17 = ((sh260.getD k default).v : Value)) ∧ (k < sh260.length) ∧ Sep G W ((CelW v5 42 3 cur2) :: (RowE (α := CelS) own 42 v259 sh260) :: (RowE (α := Int) own 3 ((sh260.getD k default).v) (insS (cur2.getD k default).set (((l.getD k default).set).getD j 0))) :: (Blk b2 (t.cells dt0).toArray 33) :: Rs) w477 := hW479
     have e483 : vals 0 = (v5 : Value) := hA478 0 (by decide)
     have e484 : vals 1 = (.int .i64 ((k : Nat) : Int) : Value) := hA478 1 (by decide)
     refine obl rfl ?_
     have hi485 : k < cur2.length := (by first | omega | (simp only [lens]; omega))
     exact ov_indexAddrN (k := 2) (i := k) Tryd.underlying26 Tryd.sizeOf42 e483 (hS482.celSl (i := 0) rfl) e484 hi485 (fun vals' hv _ => ⟨rfl, hv⟩)
    ·intro k486 vals w487 h490 h491 hW489 hA488
     obtain rfl : k486 = 2 := Nat.le_antisymm h491 h490
     obtain ⟨v259, sh260, he267, he302, hsl261, hS492⟩ : ∃ (v259 : Value) (sh260 : List CelS), (vals 13 = (v259 : Value)) ∧ (vals 17 = ((sh260.getD k default).v : Value)) ∧ (k < sh260.length) ∧ Sep G W ((CelW v5 42 3 cur2) :: (RowE (α := CelS) own 42 v259 sh260) :: (RowE (α := Int) own 3 ((sh260.getD k default).v) (insS (cur2.getD k default).set (((l.getD k default).set).getD j 0))) :: (Blk b2 (t.cells dt0).toArray 33) :: Rs) w487 := hW489
     have e493 : vals 18 = (.pointer (some ⟨sb v5, so v5 + k * 2, none⟩) : Value) := hA488 18 (by decide)
     refine obl rfl ?_
     exact fd42_1 e493 (fun vals' hv _ => ⟨rfl, hv⟩)
    ·intro k321 vals w322 h325 h326 hW324 hA323
     obtain rfl : k321 = 2 := Nat.le_antisymm h326 h325
     obtain ⟨v259, sh260, he267, he302, hsl261, hS327⟩ : ∃ (v259 : Value) (sh260 : List CelS), (vals 13 = (v259 : Value)) ∧ (vals 17 = ((sh260.getD k default).v : Value)) ∧ (k < sh260.length) ∧ Sep G W ((CelW v5 42 3 cur2) :: (RowE (α := CelS) own 42 v259 sh260) :: (RowE (α := Int) own 3 ((sh260.getD k default).v) (insS (cur2.getD k default).set (((l.getD k default).set).getD j 0))) :: (Blk b2 (t.cells dt0).toArray 33) :: Rs) w322 := hW324
     have e328 : vals 19 = (.pointer (some ⟨sb v5, so v5 + k * 2 + 1, none⟩) : Value) := hA323 19 (by decide)
     refine obl rfl ?_
     obtain ⟨sh330, hsh331, hS332⟩ := CelW.open hS327
     have hsh331l := hsh331.1
     have hS332t : Sep G W ((RowE (α := CelS) own 42 v5 sh330) :: (Star (SetRows 3 sh330 cur2)) :: (RowE (α := CelS) own 42 v259 sh260) :: (RowE (α := Int) own 3 ((sh260.getD k default).v) (insS (cur2.getD k default).set (((l.getD k default).set).getD j 0))) :: (Blk b2 (t.cells dt0).toArray 33) :: Rs) w322 := hS332
     have hr333 := hS332t.row (i := 0) rfl
     have hr333s : sh330.length * 32 ≤ 140737488355328 := hr333.2
     have hS334 : Sep G W ((Star (SetRows 3 sh330 cur2)) :: (RowE (α := CelS) own 42 v5 sh330) :: (RowE (α := CelS) own 42 v259 sh260) :: (RowE (α := Int) own 3 ((sh260.getD k default).v) (insS (cur2.getD k default).set (((l.getD k default).set).getD j 0))) :: (Blk b2 (t.cells dt0).toArray 33) :: Rs) w322 := hS332t.sel 5 [1, 0, 2, 3, 4] (Nat.le_add_left _ _) rfl rfl
     have hS335 : Sep G W ((RowE (α := Int) own 3 ((sh330.getD k default).v) ((cur2.getD k default).set)) :: (Star ((SetRows 3 sh330 cur2).set k Emp)) :: (RowE (α := CelS) own 42 v5 sh330) :: (RowE (α := CelS) own 42 v259 sh260) :: (RowE (α := Int) own 3 ((sh260.getD k default).v) (insS (cur2.getD k default).set (((l.getD k default).set).getD j 0))) :: (Blk b2 (t.cells dt0).toArray 33) :: Rs) w322 := Sep.takeStar hS334 (SetRows.get (i := k) (by omega) (by omega))
     have hr336 := hS335.row (i := 0) rfl
     have hr336s : ((cur2.getD k default).set).length * 8 ≤ 140737488355328 := hr336.2
     have hS337 : Sep G W ((Star ((SetRows 3 sh330 cur2).set k Emp)) :: (RowE (α := CelS) own 42 v5 sh330) :: (RowE (α := CelS) own 42 v259 sh260) :: (RowE (α := Int) own 3 ((sh260.getD k default).v) (insS (cur2.getD k default).set (((l.getD k default).set).getD j 0))) :: (Blk b2 (t.cells dt0).toArray 33) :: Rs) w322 := hS335.sel 6 [1, 2, 3, 4, 5] (Nat.le_add_left _ _) rfl rfl
     have hr338 := hS337.row (i := 3) rfl
     have hr338s : (insS (cur2.getD k default).set (((l.getD k default).set).getD j 0)).length * 8 ≤ 140737488355328 := hr338.2
     have hS339 : Sep G W ((RowE (α := CelS) own 42 v5 sh330) :: (Star ((SetRows 3 sh330 cur2).set k Emp)) :: (RowE (α := CelS) own 42 v259 sh260) :: (RowE (α := Int) own 3 ((sh260.getD k default).v) (insS (cur2.getD k default).set (((l.getD k default).set).getD j 0))) :: (Blk b2 (t.cells dt0).toArray 33) :: Rs) w322 := hS337.sel 5 [1, 0, 2, 3, 4] (Nat.le_add_left _ _) rfl rfl
     have hS340 : Sep G W ((RowE (α := CelS) own 42 v5 sh330) :: Emp :: (Star ((SetRows 3 sh330 cur2).set k Emp)) :: (RowE (α := CelS) own 42 v259 sh260) :: (RowE (α := Int) own 3 ((sh260.getD k default).v) (insS (cur2.getD k default).set (((l.getD k default).set).getD j 0))) :: (Blk b2 (t.cells dt0).toArray 33) :: Rs) w322 := hS339.emp1
     refine (ov_storeS (α := CelS) (j := k) (o := 1) (u := (sh260.getD k default).v) (us := [(sh260.getD k default).v]) (x1 := (⟨(sh330.getD k default).n, (sh260.getD k default).v⟩ : CelS)) hS340 Tryd.sizeOf40 (by first | omega | (simp only [lens]; omega)) e328 he302 (congrArg Array.toList (oneCell_cells hr338.1.one)) (Nat.le_of_ble_eq_true rfl) (all1 ⟨hr338.1.one, trivial⟩) (fun _ _ _ hel _ => (by rw [← getD_at default (by omega)] at hel; obtain ⟨rfl, hok⟩ := hel; exact ⟨rfl, ⟨hok.n, hr338.1.one⟩⟩)) ?_)
     intro w329 hS341
     have hr342 := hS341.row (i := 0) rfl
     have hr342s : (sh330.set k (⟨(sh330.getD k default).n, (sh260.getD k default).v⟩ : CelS)).length * 32 ≤ 140737488355328 := hr342.2
     have hS343 : Sep G W ((RowE (α := Int) own 3 ((sh260.getD k default).v) (insS (cur2.getD k default).set (((l.getD k default).set).getD j 0))) :: (Star ((SetRows 3 sh330 cur2).set k Emp)) :: (RowE (α := CelS) own 42 v5 (sh330.set k (⟨(sh330.getD k default).n, (sh260.getD k default).v⟩ : CelS))) :: (RowE (α := CelS) own 42 v259 sh260) :: (Blk b2 (t.cells dt0).toArray 33) :: Rs) w329 := hS341.sel 5 [3, 1, 0, 2, 4] (Nat.le_add_left _ _) rfl rfl
     have hS344 : Sep G W ((CelW v5 42 3 (cur2.set k ⟨(cur2.getD k default).n, (insS (cur2.getD k default).set (((l.getD k default).set).getD j 0))⟩)) :: (RowE (α := CelS) own 42 v259 sh260) :: (Blk b2 (t.cells dt0).toArray 33) :: Rs) w329 := CelW.close (i := k) (s := (⟨(sh330.getD k default).n, (sh260.getD k default).v⟩ : CelS)) (c := (⟨(cur2.getD k default).n, (insS (cur2.getD k default).set (((l.getD k default).set).getD j 0))⟩ : Cel)) hsh331.1 hsh331.2 (by omega) (hsh331.2 _ (by omega)) hS343
     intro vals' hv hv'
     refine ⟨?_, trivial⟩
     show ∃ (v259 : Value) (sh260 : List CelS), (vals' 13 = (v259 : Value)) ∧ (vals' 17 = ((sh260.getD k default).v : Value)) ∧ (k < sh260.length) ∧ Sep G W ((CelW v5 42 3 (cur2.set k ⟨(cur2.getD k default).n, (insS (cur2.getD k default).set (((l.getD k default).set).getD j 0))⟩)) :: (RowE (α := CelS) own 42 v259 sh260) :: (Blk b2 (t.cells dt0).toArray 33) :: Rs) w329
     exact ⟨v259, sh260, (by rw [hv' 13 (by decide)]; exact he267), (by rw [hv' 17 (by decide)]; exact he302), hsl261, hS344⟩
    intro vals w494 hW495 hA496
    obtain ⟨v259, sh260, he267, he302, hsl261, hS497⟩ : ∃ (v259 : Value) (sh260 : List CelS), (vals 13 = (v259 : Value)) ∧ (vals 17 = ((sh260.getD k default).v : Value)) ∧ (k < sh260.length) ∧ Sep G W ((CelW v5 42 3 (cur2.set k ⟨(cur2.getD k default).n, (insS (cur2.getD k default).set (((l.getD k default).set).getD j 0))⟩)) :: (RowE (α := CelS) own 42 v259 sh260) :: (Blk b2 (t.cells dt0).toArray 33) :: Rs) w494 := hW495
    refine st_env (kv := [(1, vl), (2, .pointer (some ⟨b2, 0, none⟩)), (5, v5), (6, .int .i64 ((k : Nat) : Int)), (7, .int .i64 ((j : Nat) : Int)), (40, .int .i64 ((j : Nat) : Int)), (41, vl), (42, .int .i64 ((k : Nat) : Int)), (43, .pointer (some ⟨sb vl, so vl + k * 2, none⟩)), (44, .pointer (some ⟨sb vl, so vl + k * 2 + 1, none⟩)), (45, (cellV w83 (sb vl) (so vl + k * 2 + 1))), (46, .int .i64 ((((l.getD k default).set).length : Nat) : Int)), (47, .bool (decide (((j : Nat) : Int) < ((((l.getD k default).set).length : Nat) : Int)))), (48, .bool (decide (((j : Nat) : Int) < ((((l.getD k default).set).length : Nat) : Int)))), (56, .bool true)]) ⟨rfl, rfl, rfl, rfl, rfl, rfl, rfl, rfl, rfl, rfl, rfl, rfl, rfl, rfl, rfl, trivial⟩ (fun ρw494 => ?_)
    refine st_nil ?_
    refine WP_region0 (by kernel_rfl) (fun _ => ?_)
    refine st (ov_move (v := .int .i64 ((j : Nat) : Int)) rfl ?_)
    have hr498 : InR ((j + 1 : Nat) : Int) := by first | omega | (simp only [lens]; omega)
    refine st (ov_add (r := ((j + 1 : Nat) : Int)) (k := .i64) (a := ((j : Nat) : Int)) (b := 1) rfl rfl (by rw [show (((j : Nat) : Int) + 1 : Int) = ((j + 1 : Nat) : Int) by first | omega | (simp only [lens]; omega)]; exact wrap_in hr498) ?_)
    refine st (ov_assign (v := .int .i64 ((j + 1 : Nat) : Int)) rfl ?_)
    refine st_nil ?_
    have hS499 : Sep G W ((CelW v5 42 3 (cur2.set k ⟨(cur2.getD k default).n, (insS (cur2.getD k default).set (((l.getD k default).set).getD j 0))⟩)) :: (Blk b2 (t.cells dt0).toArray 33) :: Rs) w494 := hS497.sel 3 [0, 2] (Nat.le_add_left _ _) rfl rfl
    exact ⟨_, by omega, j + 1, (cur2.set k ⟨(cur2.getD k default).n, (insS (cur2.getD k default).set (((l.getD k default).set).getD j 0))⟩), _, rfl, setAll_self ⟨rfl, rfl, rfl, rfl, rfl, trivial⟩, by omega, (right_ins hR2 (by omega) (by omega) (by omega) (ht.floor k (by omega))), hS499⟩

end Go.Proofs.YtlblilbmpdejgaaDoor
