/- Steps of the proofs of this seat: part C6. -/
import Derived.Test.YtlblilbmpdejgaaDoorC5
set_option linter.unusedSimpArgs false
set_option linter.unusedVariables false
set_option maxRecDepth 8000
namespace Go.Proofs.YtlblilbmpdejgaaDoor
open Go.Proofs Go.RowKit

theorem fin2c {P : Program} {σ : Env} {w : World} {fn : Func} {a u : Tmp} {t : TypeId} {R : Value → World → Prop} {b k : Nat} {cs : List Value} {v' : Value} (hr : fn.results = #[.cell a t, .tmp u]) (hA : ∀ w, (isAgg t).run P w = .ok true w) (hS : ∀ w, (sizeOf t).run P w = .ok k w) (hk : cs.length = k)
    (hv : σ a = .pointer (some ⟨b, 0, none⟩)) (hc : CellsAt w b 0 cs) (hu : σ u = v') (h : R (.tuple #[.agg cs.toArray, v']) w) : bodyQ P fn R .ret σ w := by
  subst hk
  refine ⟨_, fun tmps ht => ?_, h⟩
  have := run_loadCellsFrom (P := P) (w := w) b 0 cs 0 #[] (fun j hj => by simpa using hc j hj)
  have e : tmps[a]?.getD undef = .pointer (some ⟨b, 0, none⟩) := by rw [← hv, ← ht a]; simp
  have e2 : tmps[u]?.getD undef = v' := by rw [← hu, ← ht u]; simp
  simp [results, hr, e, e2, asAddr, loadVar, hA, hS, loadCells, this, go_sem]
def kindL (t : Typ) (n : Int) : Int := if n < 0 ∨ (t.fields.length : Int) ≤ n then 0 else (t.fields.getD n.toNat default).kind
def OneOk (t : Typ) (f : Fld) : Prop := (1 ≤ f.kind ∧ f.kind ≤ 4) ∧ (f.floor = true → f.kind = 1) ∧ ∀ j, j < f.moves.length → (f.moves.getD j default).need = -1 ∨ kindL t (f.moves.getD j default).need = 1
def FewM (f : Fld) : Prop := (f.kind = 4 → 1 ≤ f.moves.length) ∧ f.moves.length ≤ 16
def FewT (t : Typ) : Prop := (1 ≤ t.fields.length ∧ t.fields.length ≤ 8) ∧ ∀ j, j < t.fields.length → FewM (t.fields.getD j default)
def FewD (d : Dcl) : Prop := (1 ≤ d.types.length ∧ d.types.length ≤ 8) ∧ ∀ i, i < d.types.length → FewT (d.types.getD i default)
theorem all_step {p : Nat → Prop} {k : Nat} (h : ∀ i, i < k → p i) (hk : p k) : ∀ i, i < k + 1 → p i := fun i hi => by
  by_cases e : i = k
  · rw [e]; exact hk
  · exact h i (by omega)
theorem dcl_ok {d : Dcl} (h1 : FewD d) (h2 : ∀ i, i < d.types.length → ∀ j, j < (d.types.getD i default).fields.length → OneOk (d.types.getD i default) ((d.types.getD i default).fields.getD j default)) : DclOk d := by
  refine ⟨h1.1.1, h1.1.2, fun i hi => ?_⟩
  have f1 := h1.2 i hi
  have f2 := h2 i hi
  refine ⟨f1.1.1, f1.1.2, fun j hj => (f2 j hj).1, fun j hj => (f2 j hj).2.1, fun j hj => f1.2 j hj, fun j hj q hq => ?_⟩
  rcases (f2 j hj).2.2 q hq with h | h
  · exact .inl h
  · right
    unfold kindL at h
    split at h
    · omega
    · rename_i hn
      exact ⟨by omega, by omega, h⟩
theorem fd25_0 {d : Option Tmp} {ty : TypeId} {pos : String} {af : Array Edge} {g : Option (Nat × Bool)} {σ : Env} {w : World} {K : Value → World → Prop} {x : Operand} {b o : Nat} (hx : ev σ x = .pointer (some ⟨b, o, none⟩)) (h : K (.pointer (some ⟨b, o + 0, none⟩)) w) : opV Tryd.prog ⟨d, .fieldAddr 25 x 0, ty, pos, af, g⟩ σ w K := ov_fieldAddr Tryd.underlying25 rfl rfl (fun w => ⟨0, Tryd.sizeOf22 w⟩) hx h
theorem fd25_1 {d : Option Tmp} {ty : TypeId} {pos : String} {af : Array Edge} {g : Option (Nat × Bool)} {σ : Env} {w : World} {K : Value → World → Prop} {x : Operand} {b o : Nat} (hx : ev σ x = .pointer (some ⟨b, o, none⟩)) (h : K (.pointer (some ⟨b, o + 1, none⟩)) w) : opV Tryd.prog ⟨d, .fieldAddr 25 x 1, ty, pos, af, g⟩ σ w K := ov_fieldAddr Tryd.underlying25 rfl rfl (fun w => ⟨0, Tryd.sizeOf23 w⟩) hx h
theorem D_long {G : Nat → Prop} {W w : World} {Rs : List HP} {d : Dcl} {dd0 : Value} (hdd0 : RdS W G dd0 d.types) {dd1 : Value} (hdd1 : RdS W G dd1 d.projs) (od : d.Ok) (hS0 : Sep G W Rs w) : Ret Tryd.prog 45 [.agg (d.cells dd0 dd1).toArray] w (fun r w' => ∃ (b : Bool), r = (.bool b : Value) ∧ Sep G W Rs w') := by
 have hdd0s : d.types.length * 24 ≤ 140737488355328 := hdd0.small
 have hdd1s : d.projs.length * 40 ≤ 140737488355328 := hdd1.small
 refine Calls_of_WP (args := [.agg (d.cells dd0 dd1).toArray]) Tryd.func45 rfl rfl ?_
 refine WP_seq ?_
 refine WP_region0 (by kernel_rfl) (fun _ => ?_)
 refine st (ov_box (v := .agg (d.cells dd0 dd1).toArray) rfl ?_)
 intro w3 b2 hn1
 have hS4 : Sep G W ((Blk b2 (d.cells dd0 dd1).toArray 25) :: Rs) w3 := hS0.new hn1
 refine st (ov_assign (v := .bool false) rfl ?_)
 refine st_nil ?_
 refine WP_seq ?_
 refine WP_seq ?_
 refine WP_region (by kernel_rfl) ?_
 refine st (fd25_0 rfl ?_)
 refine st (ov_load1 (v := dd0) Tryd.isAgg22 rfl (blk_cellL (hS4.blk (i := 0) rfl) rfl) ?_)
 refine st (ov_len (n := d.types.length) Tryd.underlying22 rfl hdd0.sl ?_)
 refine st (ov_gtr (k := .i64) (a := ((d.types.length : Nat) : Int)) (b := 20) rfl rfl ?_)
 refine st (ov_move (v := .bool (decide (20 < ((d.types.length : Nat) : Int)))) rfl ?_)
 refine stc (V := .pointer (some ⟨b2, 1, none⟩)) rfl rfl (fun hb5 => ?_) ?_
 ·have hl6 := hb5
  have hl6 := of_decide_eq_false hl6
  exact fd25_1 rfl ⟨rfl, rfl⟩
 refine stc (V := dd1) rfl rfl (fun hb7 => ?_) ?_
 ·have hl8 := hb7
  have hl8 := of_decide_eq_false hl8
  exact ov_load1 (v := dd1) Tryd.isAgg23 (show _ = (.pointer (some ⟨b2, 1, none⟩) : Value) from (if_pos hb7)) (blk_cellL (hS4.blk (i := 0) rfl) rfl) ⟨rfl, rfl⟩
 refine stc (V := .int .i64 ((d.projs.length : Nat) : Int)) rfl rfl (fun hb9 => ?_) ?_
 ·have hl10 := hb9
  have hl10 := of_decide_eq_false hl10
  exact ov_len (n := d.projs.length) Tryd.underlying23 (show _ = (dd1 : Value) from (if_pos hb9)) hdd1.sl ⟨rfl, rfl⟩
 refine stc (V := .bool (decide (20 < ((d.projs.length : Nat) : Int)))) rfl rfl (fun hb11 => ?_) ?_
 ·have hl12 := hb11
  have hl12 := of_decide_eq_false hl12
  exact ov_gtr (k := .i64) (a := ((d.projs.length : Nat) : Int)) (b := 20) (show _ = (.int .i64 ((d.projs.length : Nat) : Int) : Value) from (if_pos hb11)) rfl ⟨rfl, rfl⟩
 refine st (ov_pick_or (b := decide (20 < ((d.types.length : Nat) : Int))) (b' := decide (20 < ((d.projs.length : Nat) : Int))) rfl (fun hbp => (show _ = (.bool (decide (20 < ((d.projs.length : Nat) : Int))) : Value) from (if_pos hbp))) ?_)
 refine st_nil ?_
 cases hc13 : (decide (20 < ((d.types.length : Nat) : Int))) || (decide (20 < ((d.projs.length : Nat) : Int)))
 ·skip
  try simp only [bools] at hc13
  refine WP_cond_f rfl ?_
  refine WP_skip ?_
  refine WP_seq ?_
  refine WP_seq ?_
  refine WP_region0 (by kernel_rfl) (fun _ => ?_)
  refine st (ov_assign (v := .int .i64 (0)) rfl ?_)
  refine st_nil ?_
  refine WP_block ?_
  refine WP_loop (fun mq σ wq => ∃ (k : Nat) (ρ : Env), mq = d.types.length - k ∧ σ = setAll ρ [(1, .pointer (some ⟨b2, 0, none⟩)), (3, .int .i64 ((k : Nat) : Int))] ∧ (k ≤ d.types.length) ∧ Sep G W ((Blk b2 (d.cells dd0 dd1).toArray 25) :: Rs) wq) ⟨0, _, rfl, setAll_self ⟨rfl, rfl, trivial⟩, Nat.zero_le _, hS4⟩ ?_
  rintro m15 σ16 w14 ⟨k, ρl1, rfl, rfl, hkk, hS17⟩
  refine WP_seq ?_
  refine WP_seq ?_
  refine WP_region0 (by kernel_rfl) (fun _ => ?_)
  refine st (ov_move (v := .int .i64 ((k : Nat) : Int)) rfl ?_)
  refine st (fd25_0 rfl ?_)
  refine st (ov_load1 (v := dd0) Tryd.isAgg22 rfl (blk_cellL (hS17.blk (i := 0) rfl) rfl) ?_)
  refine st (ov_len (n := d.types.length) Tryd.underlying22 rfl hdd0.sl ?_)
  refine st (ov_lss (k := .i64) (a := ((k : Nat) : Int)) (b := ((d.types.length : Nat) : Int)) rfl rfl ?_)
  refine st_nil ?_
  cases hc18 : decide (((k : Nat) : Int) < ((d.types.length : Nat) : Int))
  ·skip
   have hc18 := of_decide_eq_false hc18
   refine WP_cond_f rfl ?_
   refine WP_exit ?_
   refine blk_exit ?_
   refine WP_seq ?_
   refine WP_region0 (by kernel_rfl) (fun _ => ?_)
   refine st (ov_assign (v := .bool false) rfl ?_)
   refine st_nil ?_
   refine WP_ret ?_
   refine fin1 Tryd.results45 (show _ = (.bool false : Value) from rfl) ?_
   have hS19 : Sep G W Rs w14 := hS17.sel 1 [] (Nat.le_add_left _ _) rfl rfl
   refine ⟨false, rfl, hS19⟩
  ·skip
   have hc18 := of_decide_eq_true hc18
   refine WP_cond_t rfl ?_
   refine WP_skip ?_
   refine WP_seq ?_
   refine WP_block ?_
   refine WP_seq ?_
   refine WP_seq ?_
   refine WP_region0 (by kernel_rfl) (fun _ => ?_)
   refine st (fd25_0 rfl ?_)
   refine st (ov_load1 (v := dd0) Tryd.isAgg22 rfl (blk_cellL (hS17.blk (i := 0) rfl) rfl) ?_)
   refine st (ov_move (v := .int .i64 ((k : Nat) : Int)) rfl ?_)
   have hi20 : k < d.types.length := (by first | omega | (simp only [lens]; omega))
   refine st (ov_indexAddrN (k := 1) (i := k) Tryd.underlying22 Tryd.sizeOf33 rfl hdd0.sl rfl hi20 ?_)
   refine st (fd33_0 rfl ?_)
   have hi22 : k < d.types.length := (by first | omega | (simp only [lens]; omega))
   obtain ⟨hce21, hde21_0, hoke21⟩ := hdd0.typ hi22
   rw [← getD_at default hi22] at hce21 hde21_0 hoke21
   have hsm23 : ((d.types.getD k default).fields).length * 48 ≤ 140737488355328 := hde21_0.small
   have hcw24 := hS17.cells hce21 (hdd0.foot (ne_of_lt hi22))
   refine st (ov_load1 (v := (cellV W (sb dd0) (so dd0 + k * 1 + 0))) Tryd.isAgg31 rfl (hcw24.get (j := 0) rfl) ?_)
   refine st (ov_len (n := ((d.types.getD k default).fields).length) Tryd.underlying31 rfl hde21_0.sl ?_)
   refine st (ov_gtr (k := .i64) (a := ((((d.types.getD k default).fields).length : Nat) : Int)) (b := 20) rfl rfl ?_)
   refine st_nil ?_
   cases hc25 : decide (20 < ((((d.types.getD k default).fields).length : Nat) : Int))
   ·skip
    have hc25 := of_decide_eq_false hc25
    refine WP_cond_f rfl ?_
    refine WP_skip ?_
    refine WP_seq ?_
    refine WP_region0 (by kernel_rfl) (fun _ => ?_)
    refine st (ov_assign (v := .int .i64 (0)) rfl ?_)
    refine st_nil ?_
    refine WP_block ?_
    refine WP_loop (fun mq σ wq => ∃ (j : Nat) (ρ : Env), mq = (d.types.getD k default).fields.length - j ∧ σ = setAll ρ [(1, .pointer (some ⟨b2, 0, none⟩)), (3, .int .i64 ((k : Nat) : Int)), (4, .int .i64 ((j : Nat) : Int))] ∧ (j ≤ (d.types.getD k default).fields.length) ∧ Sep G W ((Blk b2 (d.cells dd0 dd1).toArray 25) :: Rs) wq) ⟨0, _, rfl, setAll_self ⟨rfl, rfl, rfl, trivial⟩, Nat.zero_le _, hS17⟩ ?_
    rintro m27 σ28 w26 ⟨j, ρl2, rfl, rfl, hkj, hS29⟩
    refine WP_seq ?_
    refine WP_seq ?_
    refine WP_region0 (by kernel_rfl) (fun _ => ?_)
    refine st (ov_move (v := .int .i64 ((j : Nat) : Int)) rfl ?_)
    refine st (fd25_0 rfl ?_)
    refine st (ov_load1 (v := dd0) Tryd.isAgg22 rfl (blk_cellL (hS29.blk (i := 0) rfl) rfl) ?_)
    refine st (ov_move (v := .int .i64 ((k : Nat) : Int)) rfl ?_)
    have hi30 : k < d.types.length := (by first | omega | (simp only [lens]; omega))
    refine st (ov_indexAddrN (k := 1) (i := k) Tryd.underlying22 Tryd.sizeOf33 rfl hdd0.sl rfl hi30 ?_)
    refine st (fd33_0 rfl ?_)
    have hcw32 := hS29.cells hce21 (hdd0.foot (ne_of_lt hi22))
    refine st (ov_load1 (v := (cellV W (sb dd0) (so dd0 + k * 1 + 0))) Tryd.isAgg31 rfl (hcw32.get (j := 0) rfl) ?_)
    refine st (ov_len (n := ((d.types.getD k default).fields).length) Tryd.underlying31 rfl hde21_0.sl ?_)
    refine st (ov_lss (k := .i64) (a := ((j : Nat) : Int)) (b := ((((d.types.getD k default).fields).length : Nat) : Int)) rfl rfl ?_)
    refine st_nil ?_
    cases hc33 : decide (((j : Nat) : Int) < ((((d.types.getD k default).fields).length : Nat) : Int))
    ·skip
     have hc33 := of_decide_eq_false hc33
     refine WP_cond_f rfl ?_
     refine WP_exit ?_
     refine blk_exit ?_
     refine WP_region0 (by kernel_rfl) (fun _ => ?_)
     refine st (ov_move (v := .int .i64 ((k : Nat) : Int)) rfl ?_)
     have hr34 : InR ((k + 1 : Nat) : Int) := by first | omega | (simp only [lens]; omega)
     refine st (ov_add (r := ((k + 1 : Nat) : Int)) (k := .i64) (a := ((k : Nat) : Int)) (b := 1) rfl rfl (by rw [show (((k : Nat) : Int) + 1 : Int) = ((k + 1 : Nat) : Int) by first | omega | (simp only [lens]; omega)]; exact wrap_in hr34) ?_)
     refine st (ov_assign (v := .int .i64 ((k + 1 : Nat) : Int)) rfl ?_)
     refine st_nil ?_
     exact ⟨_, by omega, k + 1, _, rfl, setAll_self ⟨rfl, rfl, trivial⟩, by omega, hS29⟩
    ·skip
     have hc33 := of_decide_eq_true hc33
     refine WP_cond_t rfl ?_
     refine WP_skip ?_
     refine WP_seq ?_
     refine WP_block ?_
     refine WP_seq ?_
     refine WP_region0 (by kernel_rfl) (fun _ => ?_)
     refine st (fd25_0 rfl ?_)
     refine st (ov_load1 (v := dd0) Tryd.isAgg22 rfl (blk_cellL (hS29.blk (i := 0) rfl) rfl) ?_)
     refine st (ov_move (v := .int .i64 ((k : Nat) : Int)) rfl ?_)
     have hi35 : k < d.types.length := (by first | omega | (simp only [lens]; omega))
     refine st (ov_indexAddrN (k := 1) (i := k) Tryd.underlying22 Tryd.sizeOf33 rfl hdd0.sl rfl hi35 ?_)
     refine st (fd33_0 rfl ?_)
     have hcw37 := hS29.cells hce21 (hdd0.foot (ne_of_lt hi22))
     refine st (ov_load1 (v := (cellV W (sb dd0) (so dd0 + k * 1 + 0))) Tryd.isAgg31 rfl (hcw37.get (j := 0) rfl) ?_)
     refine st (ov_move (v := .int .i64 ((j : Nat) : Int)) rfl ?_)
     have hi38 : j < ((d.types.getD k default).fields).length := (by first | omega | (simp only [lens]; omega))
     refine st (ov_indexAddrN (k := 4) (i := j) Tryd.underlying31 Tryd.sizeOf79 rfl hde21_0.sl rfl hi38 ?_)
     refine st (fd79_3 rfl ?_)
     have hi40 : j < ((d.types.getD k default).fields).length := (by first | omega | (simp only [lens]; omega))
     obtain ⟨hce39, hde39_0, hoke39⟩ := hde21_0.fld hi40
     rw [← getD_at default hi40] at hce39 hde39_0 hoke39
     have hsm41 : ((((d.types.getD k default).fields).getD j default).moves).length * 32 ≤ 140737488355328 := hde39_0.small
     have hcw42 := hS29.cells hce39 (hde21_0.foot (ne_of_lt hi40))
     refine st (ov_load1 (v := (cellV W (sb (cellV W (sb dd0) (so dd0 + k * 1 + 0))) (so (cellV W (sb dd0) (so dd0 + k * 1 + 0)) + j * 4 + 3))) Tryd.isAgg77 rfl (hcw42.get (j := 3) rfl) ?_)
     refine st (ov_len (n := ((((d.types.getD k default).fields).getD j default).moves).length) Tryd.underlying77 rfl hde39_0.sl ?_)
     refine st (ov_gtr (k := .i64) (a := ((((((d.types.getD k default).fields).getD j default).moves).length : Nat) : Int)) (b := 40) rfl rfl ?_)
     refine st_nil ?_
     cases hc43 : decide (40 < ((((((d.types.getD k default).fields).getD j default).moves).length : Nat) : Int))
     ·skip
      have hc43 := of_decide_eq_false hc43
      refine WP_cond_f rfl ?_
      refine WP_skip ?_
      refine WP_region0 (by kernel_rfl) (fun _ => ?_)
      refine st (ov_move (v := .int .i64 ((j : Nat) : Int)) rfl ?_)
      have hr44 : InR ((j + 1 : Nat) : Int) := by first | omega | (simp only [lens]; omega)
      refine st (ov_add (r := ((j + 1 : Nat) : Int)) (k := .i64) (a := ((j : Nat) : Int)) (b := 1) rfl rfl (by rw [show (((j : Nat) : Int) + 1 : Int) = ((j + 1 : Nat) : Int) by first | omega | (simp only [lens]; omega)]; exact wrap_in hr44) ?_)
      refine st (ov_assign (v := .int .i64 ((j + 1 : Nat) : Int)) rfl ?_)
      refine st_nil ?_
      exact ⟨_, by omega, j + 1, _, rfl, setAll_self ⟨rfl, rfl, rfl, trivial⟩, by omega, hS29⟩
     ·skip
      have hc43 := of_decide_eq_true hc43
      refine WP_cond_t rfl ?_
      refine WP_seq ?_
      refine WP_region0 (by kernel_rfl) (fun _ => ?_)
      refine st (ov_assign (v := .bool true) rfl ?_)
      refine st_nil ?_
      refine WP_ret ?_
      refine fin1 Tryd.results45 (show _ = (.bool true : Value) from rfl) ?_
      have hS45 : Sep G W Rs w26 := hS29.sel 1 [] (Nat.le_add_left _ _) rfl rfl
      refine ⟨true, rfl, hS45⟩
   ·skip
    have hc25 := of_decide_eq_true hc25
    refine WP_cond_t rfl ?_
    refine WP_seq ?_
    refine WP_region0 (by kernel_rfl) (fun _ => ?_)
    refine st (ov_assign (v := .bool true) rfl ?_)
    refine st_nil ?_
    refine WP_ret ?_
    refine fin1 Tryd.results45 (show _ = (.bool true : Value) from rfl) ?_
    have hS46 : Sep G W Rs w14 := hS17.sel 1 [] (Nat.le_add_left _ _) rfl rfl
    refine ⟨true, rfl, hS46⟩
 ·skip
  try simp only [bools] at hc13
  refine WP_cond_t rfl ?_
  refine WP_seq ?_
  refine WP_region0 (by kernel_rfl) (fun _ => ?_)
  refine st (ov_assign (v := .bool true) rfl ?_)
  refine st_nil ?_
  refine WP_ret ?_
  refine fin1 Tryd.results45 (show _ = (.bool true : Value) from rfl) ?_
  have hS47 : Sep G W Rs w3 := hS4.sel 1 [] (Nat.le_add_left _ _) rfl rfl
  refine ⟨true, rfl, hS47⟩

theorem fd79_0 {d : Option Tmp} {ty : TypeId} {pos : String} {af : Array Edge} {g : Option (Nat × Bool)} {σ : Env} {w : World} {K : Value → World → Prop} {x : Operand} {b o : Nat} (hx : ev σ x = .pointer (some ⟨b, o, none⟩)) (h : K (.pointer (some ⟨b, o + 0, none⟩)) w) : opV Tryd.prog ⟨d, .fieldAddr 79 x 0, ty, pos, af, g⟩ σ w K := ov_fieldAddr Tryd.underlying79 rfl rfl (fun w => ⟨0, Tryd.sizeOf3 w⟩) hx h
theorem D_kind {G : Nat → Prop} {W w : World} {Rs : List HP} {t : Typ} {dt0 : Value} (hdt0 : RdS W G dt0 t.fields) (ot : t.Ok) {n : Int} (hn : InR n) (hS0 : Sep G W Rs w) : Ret Tryd.prog 73 [.agg (t.cells dt0).toArray, .int .i64 (n)] w (fun r w' => r = (.int .i64 ((kindL t n)) : Value) ∧ Sep G W Rs w') := by
 have hdt0s : t.fields.length * 48 ≤ 140737488355328 := hdt0.small
 refine Calls_of_WP (args := [.agg (t.cells dt0).toArray, .int .i64 (n)]) Tryd.func73 rfl rfl ?_
 refine WP_seq ?_
 refine WP_region0 (by kernel_rfl) (fun _ => ?_)
 refine st (ov_box (v := .agg (t.cells dt0).toArray) rfl ?_)
 intro w3 b2 hn1
 have hS4 : Sep G W ((Blk b2 (t.cells dt0).toArray 33) :: Rs) w3 := hS0.new hn1
 refine st (ov_assign (v := .int .i64 (0)) rfl ?_)
 refine st_nil ?_
 refine WP_seq ?_
 refine WP_seq ?_
 refine WP_region (by kernel_rfl) ?_
 refine st (ov_move (v := .int .i64 (n)) rfl ?_)
 refine st (ov_lss (k := .i64) (a := n) (b := 0) rfl rfl ?_)
 refine st (ov_move (v := .bool (decide (n < 0))) rfl ?_)
 refine stc (V := .int .i64 (n)) rfl rfl (fun hb5 => ?_) ?_
 ·have hl6 := hb5
  have hl6 := of_decide_eq_false hl6
  exact ov_move (v := .int .i64 (n)) rfl ⟨rfl, rfl⟩
 refine stc (V := .pointer (some ⟨b2, 0, none⟩)) rfl rfl (fun hb7 => ?_) ?_
 ·have hl8 := hb7
  have hl8 := of_decide_eq_false hl8
  exact fd33_0 rfl ⟨rfl, rfl⟩
 refine stc (V := dt0) rfl rfl (fun hb9 => ?_) ?_
 ·have hl10 := hb9
  have hl10 := of_decide_eq_false hl10
  exact ov_load1 (v := dt0) Tryd.isAgg31 (show _ = (.pointer (some ⟨b2, 0, none⟩) : Value) from (if_pos hb9)) (blk_cellL (hS4.blk (i := 0) rfl) rfl) ⟨rfl, rfl⟩
 refine stc (V := .int .i64 ((t.fields.length : Nat) : Int)) rfl rfl (fun hb11 => ?_) ?_
 ·have hl12 := hb11
  have hl12 := of_decide_eq_false hl12
  exact ov_len (n := t.fields.length) Tryd.underlying31 (show _ = (dt0 : Value) from (if_pos hb11)) hdt0.sl ⟨rfl, rfl⟩
 refine stc (V := .bool (decide (((t.fields.length : Nat) : Int) ≤ n))) rfl rfl (fun hb13 => ?_) ?_
 ·have hl14 := hb13
  have hl14 := of_decide_eq_false hl14
  exact ov_geq (k := .i64) (a := n) (b := ((t.fields.length : Nat) : Int)) (show _ = (.int .i64 (n) : Value) from (if_pos hb13)) (show _ = (.int .i64 ((t.fields.length : Nat) : Int) : Value) from (if_pos hb13)) ⟨rfl, rfl⟩
 refine st (ov_pick_or (b := decide (n < 0)) (b' := decide (((t.fields.length : Nat) : Int) ≤ n)) rfl (fun hbp => (show _ = (.bool (decide (((t.fields.length : Nat) : Int) ≤ n)) : Value) from (if_pos hbp))) ?_)
 refine st_nil ?_
 cases hc15 : (decide (n < 0)) || (decide (((t.fields.length : Nat) : Int) ≤ n))
 ·skip
  try simp only [bools] at hc15
  refine WP_cond_f rfl ?_
  refine WP_skip ?_
  refine WP_seq ?_
  refine WP_region0 (by kernel_rfl) (fun _ => ?_)
  refine st (fd33_0 rfl ?_)
  refine st (ov_load1 (v := dt0) Tryd.isAgg31 rfl (blk_cellL (hS4.blk (i := 0) rfl) rfl) ?_)
  refine st (ov_move (v := .int .i64 (n)) rfl ?_)
  have hi16 : n.toNat < t.fields.length := (by first | omega | (simp only [lens]; omega))
  refine st (ov_indexAddr (k := 4) (i := n) Tryd.underlying31 Tryd.sizeOf79 rfl hdt0.sl rfl ⟨by omega, by omega⟩ ?_)
  refine st (fd79_0 rfl ?_)
  have hi18 : n.toNat < t.fields.length := (by first | omega | (simp only [lens]; omega))
  obtain ⟨hce17, hde17_0, hoke17⟩ := hdt0.fld hi18
  rw [← getD_at default hi18] at hce17 hde17_0 hoke17
  have hsm19 : ((t.fields.getD n.toNat default).moves).length * 32 ≤ 140737488355328 := hde17_0.small
  have hcw20 := hS4.cells hce17 (hdt0.foot (ne_of_lt hi18))
  refine st (ov_load1 (v := .int .i64 ((t.fields.getD n.toNat default).kind)) Tryd.isAgg3 rfl (hcw20.get (j := 0) rfl) ?_)
  refine st (ov_assign (v := .int .i64 ((t.fields.getD n.toNat default).kind)) rfl ?_)
  refine st_nil ?_
  refine WP_ret ?_
  refine fin1 Tryd.results73 (show _ = (.int .i64 ((t.fields.getD n.toNat default).kind) : Value) from rfl) ?_
  have hS21 : Sep G W Rs w3 := hS4.sel 1 [] (Nat.le_add_left _ _) rfl rfl
  refine ⟨?_, hS21⟩
  unfold kindL
  rw [if_neg (by omega)]
 ·skip
  try simp only [bools] at hc15
  refine WP_cond_t rfl ?_
  refine WP_seq ?_
  refine WP_region0 (by kernel_rfl) (fun _ => ?_)
  refine st (ov_assign (v := .int .i64 (0)) rfl ?_)
  refine st_nil ?_
  refine WP_ret ?_
  refine fin1 Tryd.results73 (show _ = (.int .i64 (0) : Value) from rfl) ?_
  have hS22 : Sep G W Rs w3 := hS4.sel 1 [] (Nat.le_add_left _ _) rfl rfl
  refine ⟨?_, hS22⟩
  unfold kindL
  rw [if_pos (by omega)]

theorem D_many {G : Nat → Prop} {W w : World} {Rs : List HP} {d : Dcl} {dd0 : Value} (hdd0 : RdS W G dd0 d.types) {dd1 : Value} (hdd1 : RdS W G dd1 d.projs) (od : d.Ok) (hS0 : Sep G W Rs w) : Ret Tryd.prog 70 [.agg (d.cells dd0 dd1).toArray] w (fun r w' => ∃ (b : Bool), r = (.bool b : Value) ∧ (b = false → FewD d) ∧ Sep G W Rs w') := by
 have hdd0s : d.types.length * 24 ≤ 140737488355328 := hdd0.small
 have hdd1s : d.projs.length * 40 ≤ 140737488355328 := hdd1.small
 refine Calls_of_WP (args := [.agg (d.cells dd0 dd1).toArray]) Tryd.func70 rfl rfl ?_
 refine WP_seq ?_
 refine WP_region0 (by kernel_rfl) (fun _ => ?_)
 refine st (ov_box (v := .agg (d.cells dd0 dd1).toArray) rfl ?_)
 intro w3 b2 hn1
 have hS4 : Sep G W ((Blk b2 (d.cells dd0 dd1).toArray 25) :: Rs) w3 := hS0.new hn1
 refine st (ov_assign (v := .bool false) rfl ?_)
 refine st_nil ?_
 refine WP_seq ?_
 refine WP_seq ?_
 refine WP_region (by kernel_rfl) ?_
 refine st (fd25_0 rfl ?_)
 refine st (ov_load1 (v := dd0) Tryd.isAgg22 rfl (blk_cellL (hS4.blk (i := 0) rfl) rfl) ?_)
 refine st (ov_len (n := d.types.length) Tryd.underlying22 rfl hdd0.sl ?_)
 refine st (ov_eql (k := .i64) (a := ((d.types.length : Nat) : Int)) (b := 0) rfl rfl ?_)
 refine st (ov_move (v := .bool (decide (((d.types.length : Nat) : Int) = 0))) rfl ?_)
 refine stc (V := .pointer (some ⟨b2, 0, none⟩)) rfl rfl (fun hb5 => ?_) ?_
 ·have hl6 := hb5
  have hl6 := of_decide_eq_false hl6
  exact fd25_0 rfl ⟨rfl, rfl⟩
 refine stc (V := dd0) rfl rfl (fun hb7 => ?_) ?_
 ·have hl8 := hb7
  have hl8 := of_decide_eq_false hl8
  exact ov_load1 (v := dd0) Tryd.isAgg22 (show _ = (.pointer (some ⟨b2, 0, none⟩) : Value) from (if_pos hb7)) (blk_cellL (hS4.blk (i := 0) rfl) rfl) ⟨rfl, rfl⟩
 refine stc (V := .int .i64 ((d.types.length : Nat) : Int)) rfl rfl (fun hb9 => ?_) ?_
 ·have hl10 := hb9
  have hl10 := of_decide_eq_false hl10
  exact ov_len (n := d.types.length) Tryd.underlying22 (show _ = (dd0 : Value) from (if_pos hb9)) hdd0.sl ⟨rfl, rfl⟩
 refine stc (V := .bool (decide (8 < ((d.types.length : Nat) : Int)))) rfl rfl (fun hb11 => ?_) ?_
 ·have hl12 := hb11
  have hl12 := of_decide_eq_false hl12
  exact ov_gtr (k := .i64) (a := ((d.types.length : Nat) : Int)) (b := 8) (show _ = (.int .i64 ((d.types.length : Nat) : Int) : Value) from (if_pos hb11)) rfl ⟨rfl, rfl⟩
 refine st (ov_pick_or (b := decide (((d.types.length : Nat) : Int) = 0)) (b' := decide (8 < ((d.types.length : Nat) : Int))) rfl (fun hbp => (show _ = (.bool (decide (8 < ((d.types.length : Nat) : Int))) : Value) from (if_pos hbp))) ?_)
 refine st (ov_move (v := .bool ((decide (((d.types.length : Nat) : Int) = 0)) || (decide (8 < ((d.types.length : Nat) : Int))))) rfl ?_)
 refine stc (V := .pointer (some ⟨b2, 1, none⟩)) rfl rfl (fun hb13 => ?_) ?_
 ·have hl14 := hb13
  try simp only [bools] at hl14
  exact fd25_1 rfl ⟨rfl, rfl⟩
 refine stc (V := dd1) rfl rfl (fun hb15 => ?_) ?_
 ·have hl16 := hb15
  try simp only [bools] at hl16
  exact ov_load1 (v := dd1) Tryd.isAgg23 (show _ = (.pointer (some ⟨b2, 1, none⟩) : Value) from (if_pos hb15)) (blk_cellL (hS4.blk (i := 0) rfl) rfl) ⟨rfl, rfl⟩
 refine stc (V := .int .i64 ((d.projs.length : Nat) : Int)) rfl rfl (fun hb17 => ?_) ?_
 ·have hl18 := hb17
  try simp only [bools] at hl18
  exact ov_len (n := d.projs.length) Tryd.underlying23 (show _ = (dd1 : Value) from (if_pos hb17)) hdd1.sl ⟨rfl, rfl⟩
 refine stc (V := .bool (decide (8 < ((d.projs.length : Nat) : Int)))) rfl rfl (fun hb19 => ?_) ?_
 ·have hl20 := hb19
  try simp only [bools] at hl20
  exact ov_gtr (k := .i64) (a := ((d.projs.length : Nat) : Int)) (b := 8) (show _ = (.int .i64 ((d.projs.length : Nat) : Int) : Value) from (if_pos hb19)) rfl ⟨rfl, rfl⟩
 refine st (ov_pick_or (b := (decide (((d.types.length : Nat) : Int) = 0)) || (decide (8 < ((d.types.length : Nat) : Int)))) (b' := decide (8 < ((d.projs.length : Nat) : Int))) rfl (fun hbp => (show _ = (.bool (decide (8 < ((d.projs.length : Nat) : Int))) : Value) from (if_pos hbp))) ?_)
 refine st_nil ?_
 cases hc21 : ((decide (((d.types.length : Nat) : Int) = 0)) || (decide (8 < ((d.types.length : Nat) : Int)))) || (decide (8 < ((d.projs.length : Nat) : Int)))
 ·skip
  try simp only [bools] at hc21
  refine WP_cond_f rfl ?_
  refine WP_skip ?_
  refine WP_seq ?_
  refine WP_seq ?_
  refine WP_region0 (by kernel_rfl) (fun _ => ?_)
  refine st (ov_assign (v := .int .i64 (0)) rfl ?_)
  refine st_nil ?_
  refine WP_block ?_
  refine WP_loop (fun mq σ wq => ∃ (k : Nat) (ρ : Env), mq = d.types.length - k ∧ σ = setAll ρ [(1, .pointer (some ⟨b2, 0, none⟩)), (3, .int .i64 ((k : Nat) : Int))] ∧ (k ≤ d.types.length) ∧ (∀ i, i < k → FewT (d.types.getD i default)) ∧ Sep G W ((Blk b2 (d.cells dd0 dd1).toArray 25) :: Rs) wq) ⟨0, _, rfl, setAll_self ⟨rfl, rfl, trivial⟩, Nat.zero_le _, (fun i h => absurd h (Nat.not_lt_zero i)), hS4⟩ ?_
  rintro m23 σ24 w22 ⟨k, ρl1, rfl, rfl, hkk, hm, hS25⟩
  refine WP_seq ?_
  refine WP_seq ?_
  refine WP_region0 (by kernel_rfl) (fun _ => ?_)
  refine st (ov_move (v := .int .i64 ((k : Nat) : Int)) rfl ?_)
  refine st (fd25_0 rfl ?_)
  refine st (ov_load1 (v := dd0) Tryd.isAgg22 rfl (blk_cellL (hS25.blk (i := 0) rfl) rfl) ?_)
  refine st (ov_len (n := d.types.length) Tryd.underlying22 rfl hdd0.sl ?_)
  refine st (ov_lss (k := .i64) (a := ((k : Nat) : Int)) (b := ((d.types.length : Nat) : Int)) rfl rfl ?_)
  refine st_nil ?_
  cases hc26 : decide (((k : Nat) : Int) < ((d.types.length : Nat) : Int))
  ·skip
   have hc26 := of_decide_eq_false hc26
   refine WP_cond_f rfl ?_
   refine WP_exit ?_
   refine blk_exit ?_
   refine WP_seq ?_
   refine WP_region0 (by kernel_rfl) (fun _ => ?_)
   refine st (ov_assign (v := .bool false) rfl ?_)
   refine st_nil ?_
   refine WP_ret ?_
   refine fin1 Tryd.results70 (show _ = (.bool false : Value) from rfl) ?_
   have hS27 : Sep G W Rs w22 := hS25.sel 1 [] (Nat.le_add_left _ _) rfl rfl
   refine ⟨false, rfl, ?_, hS27⟩
   intro h9
   exact ⟨by omega, fun i hi => hm i (by omega)⟩
  ·skip
   have hc26 := of_decide_eq_true hc26
   refine WP_cond_t rfl ?_
   refine WP_skip ?_
   refine WP_seq ?_
   refine WP_block ?_
   refine WP_seq ?_
   refine WP_region0 (by kernel_rfl) (fun _ => ?_)
   refine st (fd25_0 rfl ?_)
   refine st (ov_load1 (v := dd0) Tryd.isAgg22 rfl (blk_cellL (hS25.blk (i := 0) rfl) rfl) ?_)
   refine st (ov_move (v := .int .i64 ((k : Nat) : Int)) rfl ?_)
   have hi28 : k < d.types.length := (by first | omega | (simp only [lens]; omega))
   refine st (ov_indexAddrN (k := 1) (i := k) Tryd.underlying22 Tryd.sizeOf33 rfl hdd0.sl rfl hi28 ?_)
   refine st (fd33_0 rfl ?_)
   have hi30 : k < d.types.length := (by first | omega | (simp only [lens]; omega))
   obtain ⟨hce29, hde29_0, hoke29⟩ := hdd0.typ hi30
   rw [← getD_at default hi30] at hce29 hde29_0 hoke29
   have hsm31 : ((d.types.getD k default).fields).length * 48 ≤ 140737488355328 := hde29_0.small
   have hcw32 := hS25.cells hce29 (hdd0.foot (ne_of_lt hi30))
   refine st (ov_load1 (v := (cellV W (sb dd0) (so dd0 + k * 1 + 0))) Tryd.isAgg31 rfl (hcw32.get (j := 0) rfl) ?_)
   refine st (ov_assign (v := (cellV W (sb dd0) (so dd0 + k * 1 + 0))) rfl ?_)
   refine st_nil ?_
   refine WP_seq ?_
   refine WP_seq ?_
   refine WP_region (by kernel_rfl) ?_
   refine st (ov_move (v := (cellV W (sb dd0) (so dd0 + k * 1 + 0))) rfl ?_)
   refine st (ov_len (n := ((d.types.getD k default).fields).length) Tryd.underlying31 rfl hde29_0.sl ?_)
   refine st (ov_eql (k := .i64) (a := ((((d.types.getD k default).fields).length : Nat) : Int)) (b := 0) rfl rfl ?_)
   refine st (ov_move (v := .bool (decide (((((d.types.getD k default).fields).length : Nat) : Int) = 0))) rfl ?_)
   refine stc (V := (cellV W (sb dd0) (so dd0 + k * 1 + 0))) rfl rfl (fun hb33 => ?_) ?_
   ·have hl34 := hb33
    have hl34 := of_decide_eq_false hl34
    exact ov_move (v := (cellV W (sb dd0) (so dd0 + k * 1 + 0))) rfl ⟨rfl, rfl⟩
   refine stc (V := .int .i64 ((((d.types.getD k default).fields).length : Nat) : Int)) rfl rfl (fun hb35 => ?_) ?_
   ·have hl36 := hb35
    have hl36 := of_decide_eq_false hl36
    exact ov_len (n := ((d.types.getD k default).fields).length) Tryd.underlying31 (show _ = ((cellV W (sb dd0) (so dd0 + k * 1 + 0)) : Value) from (if_pos hb35)) hde29_0.sl ⟨rfl, rfl⟩
   refine stc (V := .bool (decide (8 < ((((d.types.getD k default).fields).length : Nat) : Int)))) rfl rfl (fun hb37 => ?_) ?_
   ·have hl38 := hb37
    have hl38 := of_decide_eq_false hl38
    exact ov_gtr (k := .i64) (a := ((((d.types.getD k default).fields).length : Nat) : Int)) (b := 8) (show _ = (.int .i64 ((((d.types.getD k default).fields).length : Nat) : Int) : Value) from (if_pos hb37)) rfl ⟨rfl, rfl⟩
   refine st (ov_pick_or (b := decide (((((d.types.getD k default).fields).length : Nat) : Int) = 0)) (b' := decide (8 < ((((d.types.getD k default).fields).length : Nat) : Int))) rfl (fun hbp => (show _ = (.bool (decide (8 < ((((d.types.getD k default).fields).length : Nat) : Int))) : Value) from (if_pos hbp))) ?_)
   refine st_nil ?_
   cases hc39 : (decide (((((d.types.getD k default).fields).length : Nat) : Int) = 0)) || (decide (8 < ((((d.types.getD k default).fields).length : Nat) : Int)))
   ·skip
    try simp only [bools] at hc39
    refine WP_cond_f rfl ?_
    refine WP_skip ?_
    refine WP_seq ?_
    refine WP_region0 (by kernel_rfl) (fun _ => ?_)
    refine st (ov_assign (v := .int .i64 (0)) rfl ?_)
    refine st_nil ?_
    refine WP_block ?_
    refine WP_loop (fun mq σ wq => ∃ (j : Nat) (ρ : Env), mq = (d.types.getD k default).fields.length - j ∧ σ = setAll ρ [(1, .pointer (some ⟨b2, 0, none⟩)), (3, .int .i64 ((k : Nat) : Int)), (4, (cellV W (sb dd0) (so dd0 + k * 1 + 0))), (5, .int .i64 ((j : Nat) : Int))] ∧ (j ≤ (d.types.getD k default).fields.length) ∧ (∀ i, i < j → FewM ((d.types.getD k default).fields.getD i default)) ∧ Sep G W ((Blk b2 (d.cells dd0 dd1).toArray 25) :: Rs) wq) ⟨0, _, rfl, setAll_self ⟨rfl, rfl, rfl, rfl, trivial⟩, Nat.zero_le _, (fun i h => absurd h (Nat.not_lt_zero i)), hS25⟩ ?_
    rintro m41 σ42 w40 ⟨j, ρl2, rfl, rfl, hkj, hm2, hS43⟩
    refine WP_seq ?_
    refine WP_seq ?_
    refine WP_region0 (by kernel_rfl) (fun _ => ?_)
    refine st (ov_move (v := .int .i64 ((j : Nat) : Int)) rfl ?_)
    refine st (ov_move (v := (cellV W (sb dd0) (so dd0 + k * 1 + 0))) rfl ?_)
    refine st (ov_len (n := ((d.types.getD k default).fields).length) Tryd.underlying31 rfl hde29_0.sl ?_)
    refine st (ov_lss (k := .i64) (a := ((j : Nat) : Int)) (b := ((((d.types.getD k default).fields).length : Nat) : Int)) rfl rfl ?_)
    refine st_nil ?_
    cases hc44 : decide (((j : Nat) : Int) < ((((d.types.getD k default).fields).length : Nat) : Int))
    ·skip
     have hc44 := of_decide_eq_false hc44
     refine WP_cond_f rfl ?_
     refine WP_exit ?_
     refine blk_exit ?_
     refine WP_region0 (by kernel_rfl) (fun _ => ?_)
     refine st (ov_move (v := .int .i64 ((k : Nat) : Int)) rfl ?_)
     have hr45 : InR ((k + 1 : Nat) : Int) := by first | omega | (simp only [lens]; omega)
     refine st (ov_add (r := ((k + 1 : Nat) : Int)) (k := .i64) (a := ((k : Nat) : Int)) (b := 1) rfl rfl (by rw [show (((k : Nat) : Int) + 1 : Int) = ((k + 1 : Nat) : Int) by first | omega | (simp only [lens]; omega)]; exact wrap_in hr45) ?_)
     refine st (ov_assign (v := .int .i64 ((k + 1 : Nat) : Int)) rfl ?_)
     refine st_nil ?_
     exact ⟨_, by omega, k + 1, _, rfl, setAll_self ⟨rfl, rfl, trivial⟩, by omega, (all_step hm ⟨by omega, fun j9 h9 => hm2 j9 (by omega)⟩), hS43⟩
    ·skip
     have hc44 := of_decide_eq_true hc44
     refine WP_cond_t rfl ?_
     refine WP_skip ?_
     refine WP_seq ?_
     refine WP_block ?_
     refine WP_seq ?_
     refine WP_region (by kernel_rfl) ?_
     refine st (ov_move (v := (cellV W (sb dd0) (so dd0 + k * 1 + 0))) rfl ?_)
     refine st (ov_move (v := .int .i64 ((j : Nat) : Int)) rfl ?_)
     have hi46 : j < ((d.types.getD k default).fields).length := (by first | omega | (simp only [lens]; omega))
     refine st (ov_indexAddrN (k := 4) (i := j) Tryd.underlying31 Tryd.sizeOf79 rfl hde29_0.sl rfl hi46 ?_)
     refine st (fd79_0 rfl ?_)
     have hi48 : j < ((d.types.getD k default).fields).length := (by first | omega | (simp only [lens]; omega))
     obtain ⟨hce47, hde47_0, hoke47⟩ := hde29_0.fld hi48
     rw [← getD_at default hi48] at hce47 hde47_0 hoke47
     have hsm49 : ((((d.types.getD k default).fields).getD j default).moves).length * 32 ≤ 140737488355328 := hde47_0.small
     have hcw50 := hS43.cells hce47 (hde29_0.foot (ne_of_lt hi48))
     refine st (ov_load1 (v := .int .i64 ((((d.types.getD k default).fields).getD j default).kind)) Tryd.isAgg3 rfl (hcw50.get (j := 0) rfl) ?_)
     refine st (ov_eql (k := .i64) (a := (((d.types.getD k default).fields).getD j default).kind) (b := 4) rfl rfl ?_)
     refine st (ov_move (v := .bool (decide (((((d.types.getD k default).fields).getD j default).kind) = 4))) rfl ?_)
     refine stc (V := (cellV W (sb dd0) (so dd0 + k * 1 + 0))) rfl rfl (fun hb51 => ?_) ?_
     ·have hl52 := hb51
      have hl52 := of_decide_eq_true hl52
      exact ov_move (v := (cellV W (sb dd0) (so dd0 + k * 1 + 0))) rfl ⟨rfl, rfl⟩
     refine stc (V := .int .i64 ((j : Nat) : Int)) rfl rfl (fun hb53 => ?_) ?_
     ·have hl54 := hb53
      have hl54 := of_decide_eq_true hl54
      exact ov_move (v := .int .i64 ((j : Nat) : Int)) rfl ⟨rfl, rfl⟩
     refine stc (V := .pointer (some ⟨sb (cellV W (sb dd0) (so dd0 + k * 1 + 0)), so (cellV W (sb dd0) (so dd0 + k * 1 + 0)) + j * 4, none⟩)) rfl rfl (fun hb55 => ?_) ?_
     ·have hl56 := hb55
      have hl56 := of_decide_eq_true hl56
      have hi57 : j < ((d.types.getD k default).fields).length := (by first | omega | (simp only [lens]; omega))
      exact ov_indexAddrN (k := 4) (i := j) Tryd.underlying31 Tryd.sizeOf79 (show _ = ((cellV W (sb dd0) (so dd0 + k * 1 + 0)) : Value) from (if_pos hb55)) hde29_0.sl (show _ = (.int .i64 ((j : Nat) : Int) : Value) from (if_pos hb55)) hi57 ⟨rfl, rfl⟩
     refine stc (V := .pointer (some ⟨sb (cellV W (sb dd0) (so dd0 + k * 1 + 0)), so (cellV W (sb dd0) (so dd0 + k * 1 + 0)) + j * 4 + 3, none⟩)) rfl rfl (fun hb58 => ?_) ?_
     ·have hl59 := hb58
      have hl59 := of_decide_eq_true hl59
      exact fd79_3 (show _ = (.pointer (some ⟨sb (cellV W (sb dd0) (so dd0 + k * 1 + 0)), so (cellV W (sb dd0) (so dd0 + k * 1 + 0)) + j * 4, none⟩) : Value) from (if_pos hb58)) ⟨rfl, rfl⟩
     refine stc (V := (cellV W (sb (cellV W (sb dd0) (so dd0 + k * 1 + 0))) (so (cellV W (sb dd0) (so dd0 + k * 1 + 0)) + j * 4 + 3))) rfl rfl (fun hb60 => ?_) ?_
     ·have hl61 := hb60
      have hl61 := of_decide_eq_true hl61
      have hcw63 := hS43.cells hce47 (hde29_0.foot (ne_of_lt hi48))
      exact ov_load1 (v := (cellV W (sb (cellV W (sb dd0) (so dd0 + k * 1 + 0))) (so (cellV W (sb dd0) (so dd0 + k * 1 + 0)) + j * 4 + 3))) Tryd.isAgg77 (show _ = (.pointer (some ⟨sb (cellV W (sb dd0) (so dd0 + k * 1 + 0)), so (cellV W (sb dd0) (so dd0 + k * 1 + 0)) + j * 4 + 3, none⟩) : Value) from (if_pos hb60)) (hcw63.get (j := 3) rfl) ⟨rfl, rfl⟩
     refine stc (V := .int .i64 ((((((d.types.getD k default).fields).getD j default).moves).length : Nat) : Int)) rfl rfl (fun hb64 => ?_) ?_
     ·have hl65 := hb64
      have hl65 := of_decide_eq_true hl65
      exact ov_len (n := ((((d.types.getD k default).fields).getD j default).moves).length) Tryd.underlying77 (show _ = ((cellV W (sb (cellV W (sb dd0) (so dd0 + k * 1 + 0))) (so (cellV W (sb dd0) (so dd0 + k * 1 + 0)) + j * 4 + 3)) : Value) from (if_pos hb64)) hde47_0.sl ⟨rfl, rfl⟩
     refine stc (V := .bool (decide (((((((d.types.getD k default).fields).getD j default).moves).length : Nat) : Int) = 0))) rfl rfl (fun hb66 => ?_) ?_
     ·have hl67 := hb66
      have hl67 := of_decide_eq_true hl67
      exact ov_eql (k := .i64) (a := ((((((d.types.getD k default).fields).getD j default).moves).length : Nat) : Int)) (b := 0) (show _ = (.int .i64 ((((((d.types.getD k default).fields).getD j default).moves).length : Nat) : Int) : Value) from (if_pos hb66)) rfl ⟨rfl, rfl⟩
     refine stc (V := .bool (decide (((((((d.types.getD k default).fields).getD j default).moves).length : Nat) : Int) = 0))) rfl rfl (fun hb68 => ?_) ?_
     ·have hl69 := hb68
      have hl69 := of_decide_eq_true hl69
      exact ov_move (v := .bool (decide (((((((d.types.getD k default).fields).getD j default).moves).length : Nat) : Int) = 0))) (show _ = (.bool (decide (((((((d.types.getD k default).fields).getD j default).moves).length : Nat) : Int) = 0)) : Value) from (if_pos hb68)) ⟨rfl, rfl⟩
     refine stcP (V := (cellV W (sb dd0) (so dd0 + k * 1 + 0))) rfl rfl (fun hb70 => ?_) ?_
     ·have hl71 := hb70.1
      have hl71 := of_decide_eq_true hl71
      have hl72 := hb70.2
      have hl72 := of_decide_eq_false hl72
      exact ov_move (v := (cellV W (sb dd0) (so dd0 + k * 1 + 0))) rfl ⟨rfl, rfl⟩
     refine stcP (V := .int .i64 ((j : Nat) : Int)) rfl rfl (fun hb73 => ?_) ?_
     ·have hl74 := hb73.1
      have hl74 := of_decide_eq_true hl74
      have hl75 := hb73.2
      have hl75 := of_decide_eq_false hl75
      exact ov_move (v := .int .i64 ((j : Nat) : Int)) rfl ⟨rfl, rfl⟩
     refine stcP (V := .pointer (some ⟨sb (cellV W (sb dd0) (so dd0 + k * 1 + 0)), so (cellV W (sb dd0) (so dd0 + k * 1 + 0)) + j * 4, none⟩)) rfl rfl (fun hb76 => ?_) ?_
     ·have hl77 := hb76.1
      have hl77 := of_decide_eq_true hl77
      have hl78 := hb76.2
      have hl78 := of_decide_eq_false hl78
      have hi79 : j < ((d.types.getD k default).fields).length := (by first | omega | (simp only [lens]; omega))
      exact ov_indexAddrN (k := 4) (i := j) Tryd.underlying31 Tryd.sizeOf79 (show _ = ((cellV W (sb dd0) (so dd0 + k * 1 + 0)) : Value) from (if_pos ⟨hb76.1, hb76.2⟩)) hde29_0.sl (show _ = (.int .i64 ((j : Nat) : Int) : Value) from (if_pos ⟨hb76.1, hb76.2⟩)) hi79 ⟨rfl, rfl⟩
     refine stcP (V := .pointer (some ⟨sb (cellV W (sb dd0) (so dd0 + k * 1 + 0)), so (cellV W (sb dd0) (so dd0 + k * 1 + 0)) + j * 4 + 3, none⟩)) rfl rfl (fun hb80 => ?_) ?_
     ·have hl81 := hb80.1
      have hl81 := of_decide_eq_true hl81
      have hl82 := hb80.2
      have hl82 := of_decide_eq_false hl82
      exact fd79_3 (show _ = (.pointer (some ⟨sb (cellV W (sb dd0) (so dd0 + k * 1 + 0)), so (cellV W (sb dd0) (so dd0 + k * 1 + 0)) + j * 4, none⟩) : Value) from (if_pos ⟨hb80.1, hb80.2⟩)) ⟨rfl, rfl⟩
     refine stcP (V := (cellV W (sb (cellV W (sb dd0) (so dd0 + k * 1 + 0))) (so (cellV W (sb dd0) (so dd0 + k * 1 + 0)) + j * 4 + 3))) rfl rfl (fun hb83 => ?_) ?_
     ·have hl84 := hb83.1
      have hl84 := of_decide_eq_true hl84
      have hl85 := hb83.2
      have hl85 := of_decide_eq_false hl85
      have hcw87 := hS43.cells hce47 (hde29_0.foot (ne_of_lt hi48))
      exact ov_load1 (v := (cellV W (sb (cellV W (sb dd0) (so dd0 + k * 1 + 0))) (so (cellV W (sb dd0) (so dd0 + k * 1 + 0)) + j * 4 + 3))) Tryd.isAgg77 (show _ = (.pointer (some ⟨sb (cellV W (sb dd0) (so dd0 + k * 1 + 0)), so (cellV W (sb dd0) (so dd0 + k * 1 + 0)) + j * 4 + 3, none⟩) : Value) from (if_pos ⟨hb83.1, hb83.2⟩)) (hcw87.get (j := 3) rfl) ⟨rfl, rfl⟩
     refine stcP (V := .int .i64 ((((((d.types.getD k default).fields).getD j default).moves).length : Nat) : Int)) rfl rfl (fun hb88 => ?_) ?_
     ·have hl89 := hb88.1
      have hl89 := of_decide_eq_true hl89
      have hl90 := hb88.2
      have hl90 := of_decide_eq_false hl90
      exact ov_len (n := ((((d.types.getD k default).fields).getD j default).moves).length) Tryd.underlying77 (show _ = ((cellV W (sb (cellV W (sb dd0) (so dd0 + k * 1 + 0))) (so (cellV W (sb dd0) (so dd0 + k * 1 + 0)) + j * 4 + 3)) : Value) from (if_pos ⟨hb88.1, hb88.2⟩)) hde47_0.sl ⟨rfl, rfl⟩
     refine stcP (V := .bool (decide (16 < ((((((d.types.getD k default).fields).getD j default).moves).length : Nat) : Int)))) rfl rfl (fun hb91 => ?_) ?_
     ·have hl92 := hb91.1
      have hl92 := of_decide_eq_true hl92
      have hl93 := hb91.2
      have hl93 := of_decide_eq_false hl93
      exact ov_gtr (k := .i64) (a := ((((((d.types.getD k default).fields).getD j default).moves).length : Nat) : Int)) (b := 16) (show _ = (.int .i64 ((((((d.types.getD k default).fields).getD j default).moves).length : Nat) : Int) : Value) from (if_pos ⟨hb91.1, hb91.2⟩)) rfl ⟨rfl, rfl⟩
     refine stc (V := .bool ((decide (((((((d.types.getD k default).fields).getD j default).moves).length : Nat) : Int) = 0)) || (decide (16 < ((((((d.types.getD k default).fields).getD j default).moves).length : Nat) : Int))))) rfl rfl (fun hb94 => ?_) ?_
     ·have hl95 := hb94
      have hl95 := of_decide_eq_true hl95
      exact ov_pick_or (b := decide (((((((d.types.getD k default).fields).getD j default).moves).length : Nat) : Int) = 0)) (b' := decide (16 < ((((((d.types.getD k default).fields).getD j default).moves).length : Nat) : Int))) (show _ = (.bool (decide (((((((d.types.getD k default).fields).getD j default).moves).length : Nat) : Int) = 0)) : Value) from (if_pos hb94)) (fun hbp => (show _ = (.bool (decide (16 < ((((((d.types.getD k default).fields).getD j default).moves).length : Nat) : Int))) : Value) from (if_pos ⟨hb94, hbp⟩))) ⟨rfl, rfl⟩
     refine st (ov_pick_and (b := decide (((((d.types.getD k default).fields).getD j default).kind) = 4)) (b' := (decide (((((((d.types.getD k default).fields).getD j default).moves).length : Nat) : Int) = 0)) || (decide (16 < ((((((d.types.getD k default).fields).getD j default).moves).length : Nat) : Int)))) rfl (fun hbp => (show _ = (.bool ((decide (((((((d.types.getD k default).fields).getD j default).moves).length : Nat) : Int) = 0)) || (decide (16 < ((((((d.types.getD k default).fields).getD j default).moves).length : Nat) : Int)))) : Value) from (if_pos hbp))) ?_)
     refine st (ov_move (v := .bool ((decide (((((d.types.getD k default).fields).getD j default).kind) = 4)) && ((decide (((((((d.types.getD k default).fields).getD j default).moves).length : Nat) : Int) = 0)) || (decide (16 < ((((((d.types.getD k default).fields).getD j default).moves).length : Nat) : Int)))))) rfl ?_)
     refine stc (V := (cellV W (sb dd0) (so dd0 + k * 1 + 0))) rfl rfl (fun hb96 => ?_) ?_
     ·have hl97 := hb96
      try simp only [bools] at hl97
      exact ov_move (v := (cellV W (sb dd0) (so dd0 + k * 1 + 0))) rfl ⟨rfl, rfl⟩
     refine stc (V := .int .i64 ((j : Nat) : Int)) rfl rfl (fun hb98 => ?_) ?_
     ·have hl99 := hb98
      try simp only [bools] at hl99
      exact ov_move (v := .int .i64 ((j : Nat) : Int)) rfl ⟨rfl, rfl⟩
     refine stc (V := .pointer (some ⟨sb (cellV W (sb dd0) (so dd0 + k * 1 + 0)), so (cellV W (sb dd0) (so dd0 + k * 1 + 0)) + j * 4, none⟩)) rfl rfl (fun hb100 => ?_) ?_
     ·have hl101 := hb100
      try simp only [bools] at hl101
      have hi102 : j < ((d.types.getD k default).fields).length := (by first | omega | (simp only [lens]; omega))
      exact ov_indexAddrN (k := 4) (i := j) Tryd.underlying31 Tryd.sizeOf79 (show _ = ((cellV W (sb dd0) (so dd0 + k * 1 + 0)) : Value) from (if_pos hb100)) hde29_0.sl (show _ = (.int .i64 ((j : Nat) : Int) : Value) from (if_pos hb100)) hi102 ⟨rfl, rfl⟩
     refine stc (V := .pointer (some ⟨sb (cellV W (sb dd0) (so dd0 + k * 1 + 0)), so (cellV W (sb dd0) (so dd0 + k * 1 + 0)) + j * 4, none⟩)) rfl rfl (fun hb103 => ?_) ?_
     ·have hl104 := hb103
      try simp only [bools] at hl104
      exact fd79_0 (show _ = (.pointer (some ⟨sb (cellV W (sb dd0) (so dd0 + k * 1 + 0)), so (cellV W (sb dd0) (so dd0 + k * 1 + 0)) + j * 4, none⟩) : Value) from (if_pos hb103)) ⟨rfl, rfl⟩
     refine stc (V := .int .i64 ((((d.types.getD k default).fields).getD j default).kind)) rfl rfl (fun hb105 => ?_) ?_
     ·have hl106 := hb105
      try simp only [bools] at hl106
      have hcw108 := hS43.cells hce47 (hde29_0.foot (ne_of_lt hi48))
      exact ov_load1 (v := .int .i64 ((((d.types.getD k default).fields).getD j default).kind)) Tryd.isAgg3 (show _ = (.pointer (some ⟨sb (cellV W (sb dd0) (so dd0 + k * 1 + 0)), so (cellV W (sb dd0) (so dd0 + k * 1 + 0)) + j * 4, none⟩) : Value) from (if_pos hb105)) (hcw108.get (j := 0) rfl) ⟨rfl, rfl⟩
     refine stc (V := .bool (!decide (((((d.types.getD k default).fields).getD j default).kind) = 4))) rfl rfl (fun hb109 => ?_) ?_
     ·have hl110 := hb109
      try simp only [bools] at hl110
      exact ov_neq (k := .i64) (a := (((d.types.getD k default).fields).getD j default).kind) (b := 4) (show _ = (.int .i64 ((((d.types.getD k default).fields).getD j default).kind) : Value) from (if_pos hb109)) rfl ⟨rfl, rfl⟩
     refine stc (V := .bool (!decide (((((d.types.getD k default).fields).getD j default).kind) = 4))) rfl rfl (fun hb111 => ?_) ?_
     ·have hl112 := hb111
      try simp only [bools] at hl112
      exact ov_move (v := .bool (!decide (((((d.types.getD k default).fields).getD j default).kind) = 4))) (show _ = (.bool (!decide (((((d.types.getD k default).fields).getD j default).kind) = 4)) : Value) from (if_pos hb111)) ⟨rfl, rfl⟩
     refine stcP (V := (cellV W (sb dd0) (so dd0 + k * 1 + 0))) rfl rfl (fun hb113 => ?_) ?_
     ·have hl114 := hb113.1
      try simp only [bools] at hl114
      have hl115 := hb113.2
      have hl115 := ndec_true hl115
      exact ov_move (v := (cellV W (sb dd0) (so dd0 + k * 1 + 0))) rfl ⟨rfl, rfl⟩
     refine stcP (V := .int .i64 ((j : Nat) : Int)) rfl rfl (fun hb116 => ?_) ?_
     ·have hl117 := hb116.1
      try simp only [bools] at hl117
      have hl118 := hb116.2
      have hl118 := ndec_true hl118
      exact ov_move (v := .int .i64 ((j : Nat) : Int)) rfl ⟨rfl, rfl⟩
     refine stcP (V := .pointer (some ⟨sb (cellV W (sb dd0) (so dd0 + k * 1 + 0)), so (cellV W (sb dd0) (so dd0 + k * 1 + 0)) + j * 4, none⟩)) rfl rfl (fun hb119 => ?_) ?_
     ·have hl120 := hb119.1
      try simp only [bools] at hl120
      have hl121 := hb119.2
      have hl121 := ndec_true hl121
      have hi122 : j < ((d.types.getD k default).fields).length := (by first | omega | (simp only [lens]; omega))
      exact ov_indexAddrN (k := 4) (i := j) Tryd.underlying31 Tryd.sizeOf79 (show _ = ((cellV W (sb dd0) (so dd0 + k * 1 + 0)) : Value) from (if_pos ⟨hb119.1, hb119.2⟩)) hde29_0.sl (show _ = (.int .i64 ((j : Nat) : Int) : Value) from (if_pos ⟨hb119.1, hb119.2⟩)) hi122 ⟨rfl, rfl⟩
     refine stcP (V := .pointer (some ⟨sb (cellV W (sb dd0) (so dd0 + k * 1 + 0)), so (cellV W (sb dd0) (so dd0 + k * 1 + 0)) + j * 4 + 3, none⟩)) rfl rfl (fun hb123 => ?_) ?_
     ·have hl124 := hb123.1
      try simp only [bools] at hl124
      have hl125 := hb123.2
      have hl125 := ndec_true hl125
      exact fd79_3 (show _ = (.pointer (some ⟨sb (cellV W (sb dd0) (so dd0 + k * 1 + 0)), so (cellV W (sb dd0) (so dd0 + k * 1 + 0)) + j * 4, none⟩) : Value) from (if_pos ⟨hb123.1, hb123.2⟩)) ⟨rfl, rfl⟩
     refine stcP (V := (cellV W (sb (cellV W (sb dd0) (so dd0 + k * 1 + 0))) (so (cellV W (sb dd0) (so dd0 + k * 1 + 0)) + j * 4 + 3))) rfl rfl (fun hb126 => ?_) ?_
     ·have hl127 := hb126.1
      try simp only [bools] at hl127
      have hl128 := hb126.2
      have hl128 := ndec_true hl128
      have hcw130 := hS43.cells hce47 (hde29_0.foot (ne_of_lt hi48))
      exact ov_load1 (v := (cellV W (sb (cellV W (sb dd0) (so dd0 + k * 1 + 0))) (so (cellV W (sb dd0) (so dd0 + k * 1 + 0)) + j * 4 + 3))) Tryd.isAgg77 (show _ = (.pointer (some ⟨sb (cellV W (sb dd0) (so dd0 + k * 1 + 0)), so (cellV W (sb dd0) (so dd0 + k * 1 + 0)) + j * 4 + 3, none⟩) : Value) from (if_pos ⟨hb126.1, hb126.2⟩)) (hcw130.get (j := 3) rfl) ⟨rfl, rfl⟩
     refine stcP (V := .int .i64 ((((((d.types.getD k default).fields).getD j default).moves).length : Nat) : Int)) rfl rfl (fun hb131 => ?_) ?_
     ·have hl132 := hb131.1
      try simp only [bools] at hl132
      have hl133 := hb131.2
      have hl133 := ndec_true hl133
      exact ov_len (n := ((((d.types.getD k default).fields).getD j default).moves).length) Tryd.underlying77 (show _ = ((cellV W (sb (cellV W (sb dd0) (so dd0 + k * 1 + 0))) (so (cellV W (sb dd0) (so dd0 + k * 1 + 0)) + j * 4 + 3)) : Value) from (if_pos ⟨hb131.1, hb131.2⟩)) hde47_0.sl ⟨rfl, rfl⟩
     refine stcP (V := .bool (!decide (((((((d.types.getD k default).fields).getD j default).moves).length : Nat) : Int) = 0))) rfl rfl (fun hb134 => ?_) ?_
     ·have hl135 := hb134.1
      try simp only [bools] at hl135
      have hl136 := hb134.2
      have hl136 := ndec_true hl136
      exact ov_neq (k := .i64) (a := ((((((d.types.getD k default).fields).getD j default).moves).length : Nat) : Int)) (b := 0) (show _ = (.int .i64 ((((((d.types.getD k default).fields).getD j default).moves).length : Nat) : Int) : Value) from (if_pos ⟨hb134.1, hb134.2⟩)) rfl ⟨rfl, rfl⟩
     refine stc (V := .bool ((!decide (((((d.types.getD k default).fields).getD j default).kind) = 4)) && (!decide (((((((d.types.getD k default).fields).getD j default).moves).length : Nat) : Int) = 0)))) rfl rfl (fun hb137 => ?_) ?_
     ·have hl138 := hb137
      try simp only [bools] at hl138
      exact ov_pick_and (b := !decide (((((d.types.getD k default).fields).getD j default).kind) = 4)) (b' := !decide (((((((d.types.getD k default).fields).getD j default).moves).length : Nat) : Int) = 0)) (show _ = (.bool (!decide (((((d.types.getD k default).fields).getD j default).kind) = 4)) : Value) from (if_pos hb137)) (fun hbp => (show _ = (.bool (!decide (((((((d.types.getD k default).fields).getD j default).moves).length : Nat) : Int) = 0)) : Value) from (if_pos ⟨hb137, hbp⟩))) ⟨rfl, rfl⟩
     refine st (ov_pick_or (b := (decide (((((d.types.getD k default).fields).getD j default).kind) = 4)) && ((decide (((((((d.types.getD k default).fields).getD j default).moves).length : Nat) : Int) = 0)) || (decide (16 < ((((((d.types.getD k default).fields).getD j default).moves).length : Nat) : Int))))) (b' := (!decide (((((d.types.getD k default).fields).getD j default).kind) = 4)) && (!decide (((((((d.types.getD k default).fields).getD j default).moves).length : Nat) : Int) = 0))) rfl (fun hbp => (show _ = (.bool ((!decide (((((d.types.getD k default).fields).getD j default).kind) = 4)) && (!decide (((((((d.types.getD k default).fields).getD j default).moves).length : Nat) : Int) = 0))) : Value) from (if_pos hbp))) ?_)
     refine st_nil ?_
     cases hc139 : ((decide (((((d.types.getD k default).fields).getD j default).kind) = 4)) && ((decide (((((((d.types.getD k default).fields).getD j default).moves).length : Nat) : Int) = 0)) || (decide (16 < ((((((d.types.getD k default).fields).getD j default).moves).length : Nat) : Int))))) || ((!decide (((((d.types.getD k default).fields).getD j default).kind) = 4)) && (!decide (((((((d.types.getD k default).fields).getD j default).moves).length : Nat) : Int) = 0)))
     ·skip
      try simp only [bools] at hc139
      refine WP_cond_f rfl ?_
      refine WP_skip ?_
      refine WP_region0 (by kernel_rfl) (fun _ => ?_)
      refine st (ov_move (v := .int .i64 ((j : Nat) : Int)) rfl ?_)
      have hr140 : InR ((j + 1 : Nat) : Int) := by first | omega | (simp only [lens]; omega)
      refine st (ov_add (r := ((j + 1 : Nat) : Int)) (k := .i64) (a := ((j : Nat) : Int)) (b := 1) rfl rfl (by rw [show (((j : Nat) : Int) + 1 : Int) = ((j + 1 : Nat) : Int) by first | omega | (simp only [lens]; omega)]; exact wrap_in hr140) ?_)
      refine st (ov_assign (v := .int .i64 ((j + 1 : Nat) : Int)) rfl ?_)
      refine st_nil ?_
      exact ⟨_, by omega, j + 1, _, rfl, setAll_self ⟨rfl, rfl, rfl, rfl, trivial⟩, by omega, (all_step hm2 (by unfold FewM; have h9 := hc139; omega)), hS43⟩
     ·skip
      try simp only [bools] at hc139
      refine WP_cond_t rfl ?_
      refine WP_seq ?_
      refine WP_region0 (by kernel_rfl) (fun _ => ?_)
      refine st (ov_assign (v := .bool true) rfl ?_)
      refine st_nil ?_
      refine WP_ret ?_
      refine fin1 Tryd.results70 (show _ = (.bool true : Value) from rfl) ?_
      have hS141 : Sep G W Rs w40 := hS43.sel 1 [] (Nat.le_add_left _ _) rfl rfl
      refine ⟨true, rfl, ?_, hS141⟩
      intro h9
      exact absurd h9 (by decide)
   ·skip
    try simp only [bools] at hc39
    refine WP_cond_t rfl ?_
    refine WP_seq ?_
    refine WP_region0 (by kernel_rfl) (fun _ => ?_)
    refine st (ov_assign (v := .bool true) rfl ?_)
    refine st_nil ?_
    refine WP_ret ?_
    refine fin1 Tryd.results70 (show _ = (.bool true : Value) from rfl) ?_
    have hS142 : Sep G W Rs w22 := hS25.sel 1 [] (Nat.le_add_left _ _) rfl rfl
    refine ⟨true, rfl, ?_, hS142⟩
    intro h9
    exact absurd h9 (by decide)
 ·skip
  try simp only [bools] at hc21
  refine WP_cond_t rfl ?_
  refine WP_seq ?_
  refine WP_region0 (by kernel_rfl) (fun _ => ?_)
  refine st (ov_assign (v := .bool true) rfl ?_)
  refine st_nil ?_
  refine WP_ret ?_
  refine fin1 Tryd.results70 (show _ = (.bool true : Value) from rfl) ?_
  have hS143 : Sep G W Rs w3 := hS4.sel 1 [] (Nat.le_add_left _ _) rfl rfl
  refine ⟨true, rfl, ?_, hS143⟩
  intro h9
  exact absurd h9 (by decide)

end Go.Proofs.YtlblilbmpdejgaaDoor
