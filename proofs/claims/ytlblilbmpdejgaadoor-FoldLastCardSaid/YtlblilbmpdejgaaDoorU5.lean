import Derived.Test.YtlblilbmpdejgaaDoorU4
set_option linter.unusedSimpArgs false
set_option linter.unusedVariables false
set_option linter.unusedSectionVars false
set_option linter.deprecated false
/- Steps of the proofs of this seat: part C6. -/
set_option maxRecDepth 8000
namespace Go.Proofs.YtlblilbmpdejgaaDoor
open Go.Proofs Go.RowKit

theorem YU {P : Program} {σ : Env} {w : World} {fn : Func} {a u : Tmp} {t : TypeId} {R : Value → World → Prop} {b k : Nat} {cs : List Value} {v' : Value} (hr : fn.results = #[.cell a t, .tmp u]) (hA : ∀ w, (isAgg t).run P w = .ok true w) (hS : ∀ w, (sizeOf t).run P w = .ok k w) (hk : cs.length = k)
    (hv : σ a = .pointer (some ⟨b, 0, none⟩)) (hc : CellsAt w b 0 cs) (hu : σ u = v') (h : R (.tuple #[.agg cs.toArray, v']) w) : Yh P fn R .ret σ w := by
  subst hk
  refine ⟨_, fun tmps ht => ?_, h⟩
  have := yH (P := P) (w := w) b 0 cs 0 #[] (fun j hj => by simpa using hc j hj)
  have e : tmps[a]?.getD undef = .pointer (some ⟨b, 0, none⟩) := by rw [← hv, ← ht a]; simp
  have e2 : tmps[u]?.getD undef = v' := by rw [← hu, ← ht u]; simp
  simp [results, hr, e, e2, asAddr, loadVar, hA, hS, loadCells, this, go_sem]
def yf (t : Typ) (n : Int) : Int := if n < 0 ∨ (t.fields.length : Int) ≤ n then 0 else (t.fields.getD n.toNat default).kind
def YN (t : Typ) (f : Fld) : Prop := (1 ≤ f.kind ∧ f.kind ≤ 4) ∧ (f.floor = true → f.kind = 1) ∧ ∀ j, j < f.moves.length → (f.moves.getD j default).need = -1 ∨ yf t (f.moves.getD j default).need = 1
def QC (f : Fld) : Prop := (f.kind = 4 → 1 ≤ f.moves.length) ∧ f.moves.length ≤ 16
def FewT (t : Typ) : Prop := (1 ≤ t.fields.length ∧ t.fields.length ≤ 8) ∧ ∀ j, j < t.fields.length → QC (t.fields.getD j default)
def FewD (d : Dcl) : Prop := (1 ≤ d.types.length ∧ d.types.length ≤ 8) ∧ ∀ i, i < d.types.length → FewT (d.types.getD i default)
theorem xv {p : Nat → Prop} {k : Nat} (h : ∀ i, i < k → p i) (hk : p k) : ∀ i, i < k + 1 → p i := fun i hi => by
  by_cases e : i = k
  · rw [e]; exact hk
  · exact h i (by omega)
theorem Qw {d : Dcl} (h1 : FewD d) (h2 : ∀ i, i < d.types.length → ∀ j, j < (d.types.getD i default).fields.length → YN (d.types.getD i default) ((d.types.getD i default).fields.getD j default)) : DclOk d := by
  refine ⟨h1.1.1, h1.1.2, fun i hi => ?_⟩
  have f1 := h1.2 i hi
  have f2 := h2 i hi
  refine ⟨f1.1.1, f1.1.2, fun j hj => (f2 j hj).1, fun j hj => (f2 j hj).2.1, fun j hj => f1.2 j hj, fun j hj q hq => ?_⟩
  rcases (f2 j hj).2.2 q hq with h | h
  · exact .inl h
  · right
    unfold yf at h
    split at h
    · omega
    · rename_i hn
      exact ⟨by omega, by omega, h⟩
theorem yt {d : Option Tmp} {ty : TypeId} {pos : String} {af : Array Edge} {g : Option (Nat × Bool)} {σ : Env} {w : World} {K : Value → World → Prop} {x : Operand} {b o : Nat} (hx : ev σ x = .pointer (some ⟨b, o, none⟩)) (h : K (.pointer (some ⟨b, o + 0, none⟩)) w) : opV Tryd.prog ⟨d, .fieldAddr 25 x 0, ty, pos, af, g⟩ σ w K := zt Tryd.underlying25 rfl rfl (fun w => ⟨0, Tryd.sizeOf22 w⟩) hx h
theorem xK {d : Option Tmp} {ty : TypeId} {pos : String} {af : Array Edge} {g : Option (Nat × Bool)} {σ : Env} {w : World} {K : Value → World → Prop} {x : Operand} {b o : Nat} (hx : ev σ x = .pointer (some ⟨b, o, none⟩)) (h : K (.pointer (some ⟨b, o + 1, none⟩)) w) : opV Tryd.prog ⟨d, .fieldAddr 25 x 1, ty, pos, af, g⟩ σ w K := zt Tryd.underlying25 rfl rfl (fun w => ⟨0, Tryd.sizeOf23 w⟩) hx h
theorem Qe {G : Nat → Prop} {W w : World} {Rs : List HP} {d : Dcl} {dd0 : Value} (hdd0 : RdS W G dd0 d.types) {dd1 : Value} (hdd1 : RdS W G dd1 d.projs) (od : d.Ok) (hS0 : Sep G W Rs w) : Ret Tryd.prog 45 [.agg (d.cells dd0 dd1).toArray] w (fun r w' => ∃ (b : Bool), r = (.bool b : Value) ∧ Sep G W Rs w') := by
 have hdd0s : _ * 24 ≤ _ := hdd0.small
 have hdd1s : _ * 40 ≤ _ := hdd1.small
 refine zr (args := [.agg (d.cells dd0 dd1).toArray]) Tryd.func45 rfl rfl ?_
 refine zd ?_
 refine za (by kernel_rfl) (fun _ => ?_)
 refine st (yb (v := .agg (d.cells dd0 dd1).toArray) rfl ?_)
 intro w3 b2 hn1
 have hS4 := hS0.new hn1
 refine st (ze (v := .bool false) rfl ?_)
 refine zf ?_
 refine zd ?_
 refine zd ?_
 refine zD (by kernel_rfl) ?_
 refine st (yt rfl ?_)
 refine st (zg (v := dd0) Tryd.isAgg22 rfl (zh (hS4.blk (i := 0) rfl) rfl) ?_)
 refine st (zJ (n := d.types.length) Tryd.underlying22 rfl hdd0.sl ?_)
 refine st (yP (k := .i64) (a := ((d.types.length : Nat) : Int)) (b := 20) rfl rfl ?_)
 refine st (zb (v := .bool (decide (20 < ((d.types.length : Nat) : Int)))) rfl ?_)
 refine stc (V := .pointer (some ⟨b2, 1, none⟩)) rfl rfl (fun hb5 => ?_) ?_
 ·have hl6 := hb5
  have hl6 := of_decide_eq_false hl6
  exact xK rfl ⟨rfl, rfl⟩
 refine stc (V := dd1) rfl rfl (fun hb7 => ?_) ?_
 ·have hl8 := hb7
  have hl8 := of_decide_eq_false hl8
  exact zg (v := dd1) Tryd.isAgg23 (show _ = (.pointer (some ⟨b2, 1, none⟩) : Value) from (if_pos hb7)) (zh (hS4.blk (i := 0) rfl) rfl) ⟨rfl, rfl⟩
 refine stc (V := .int .i64 ((d.projs.length : Nat) : Int)) rfl rfl (fun hb9 => ?_) ?_
 ·have hl10 := hb9
  have hl10 := of_decide_eq_false hl10
  exact zJ (n := d.projs.length) Tryd.underlying23 (show _ = (dd1 : Value) from (if_pos hb9)) hdd1.sl ⟨rfl, rfl⟩
 refine stc (V := .bool (decide (20 < ((d.projs.length : Nat) : Int)))) rfl rfl (fun hb11 => ?_) ?_
 ·have hl12 := hb11
  have hl12 := of_decide_eq_false hl12
  exact yP (k := .i64) (a := ((d.projs.length : Nat) : Int)) (b := 20) (show _ = (.int .i64 ((d.projs.length : Nat) : Int) : Value) from (if_pos hb11)) rfl ⟨rfl, rfl⟩
 refine st (zA (b := decide (20 < ((d.types.length : Nat) : Int))) (b' := decide (20 < ((d.projs.length : Nat) : Int))) rfl (fun hbp => (show _ = (.bool (decide (20 < ((d.projs.length : Nat) : Int))) : Value) from (if_pos hbp))) ?_)
 refine zf ?_
 cases hc13 : (decide (20 < ((d.types.length : Nat) : Int))) || (decide (20 < ((d.projs.length : Nat) : Int)))
 ·skip
  try simp only [zn] at hc13
  refine zo rfl ?_
  refine zw ?_
  refine zd ?_
  refine zd ?_
  refine za (by kernel_rfl) (fun _ => ?_)
  refine st (ze (v := .int .i64 (0)) rfl ?_)
  refine zf ?_
  refine zx ?_
  refine yn (fun mq σ wq => ∃ (k : Nat) (ρ : Env), mq = d.types.length - k ∧ σ = yp ρ [(1, .pointer (some ⟨b2, 0, none⟩)), (3, .int .i64 ((k : Nat) : Int))] ∧ (k ≤ d.types.length) ∧ Sep G W ((Blk b2 (d.cells dd0 dd1).toArray 25) :: Rs) wq) ⟨0, _, rfl, zp ⟨rfl, rfl, trivial⟩, Nat.zero_le _, hS4⟩ ?_
  rintro m15 σ16 w14 ⟨k, ρl1, rfl, rfl, hkk, hS17⟩
  refine zd ?_
  refine zd ?_
  refine za (by kernel_rfl) (fun _ => ?_)
  refine st (zb (v := .int .i64 ((k : Nat) : Int)) rfl ?_)
  refine st (yt rfl ?_)
  refine st (zg (v := dd0) Tryd.isAgg22 rfl (zh (hS17.blk (i := 0) rfl) rfl) ?_)
  refine st (zJ (n := d.types.length) Tryd.underlying22 rfl hdd0.sl ?_)
  refine st (zN (k := .i64) (a := ((k : Nat) : Int)) (b := ((d.types.length : Nat) : Int)) rfl rfl ?_)
  refine zf ?_
  cases hc18 : decide (((k : Nat) : Int) < ((d.types.length : Nat) : Int))
  ·skip
   have hc18 := of_decide_eq_false hc18
   refine zo rfl ?_
   refine ym ?_
   refine yd ?_
   refine zd ?_
   refine za (by kernel_rfl) (fun _ => ?_)
   refine st (ze (v := .bool false) rfl ?_)
   refine zf ?_
   refine zu ?_
   refine ya Tryd.results45 (show _ = (.bool false : Value) from rfl) ?_
   have hS19 : Sep G W Rs w14 := hS17.sel 1 [] (Nat.le_add_left _ _) rfl rfl
   refine ⟨false, rfl, hS19⟩
  ·skip
   have hc18 := of_decide_eq_true hc18
   refine zq rfl ?_
   refine zw ?_
   refine zd ?_
   refine zx ?_
   refine zd ?_
   refine zd ?_
   refine za (by kernel_rfl) (fun _ => ?_)
   refine st (yt rfl ?_)
   refine st (zg (v := dd0) Tryd.isAgg22 rfl (zh (hS17.blk (i := 0) rfl) rfl) ?_)
   refine st (zb (v := .int .i64 ((k : Nat) : Int)) rfl ?_)
   have hi20 : k < d.types.length := (by first | omega | (simp only [lens]; omega))
   refine st (zm (k := 1) (i := k) Tryd.underlying22 Tryd.sizeOf33 rfl hdd0.sl rfl hi20 ?_)
   refine st (yC rfl ?_)
   have hi22 : k < d.types.length := (by first | omega | (simp only [lens]; omega))
   obtain ⟨hce21, hde21_0, hoke21⟩ := hdd0.typ hi22
   rw [← zk default hi22] at hce21 hde21_0 hoke21
   have hsm23 : ((d.types.getD k default).fields).length * 48 ≤ 140737488355328 := hde21_0.small
   have hcw24 := hS17.cells hce21 (hdd0.foot (ne_of_lt hi22))
   refine st (zg (v := (zi W (sb dd0) (so dd0 + k * 1 + 0))) Tryd.isAgg31 rfl (hcw24.get (j := 0) rfl) ?_)
   refine st (zJ (n := ((d.types.getD k default).fields).length) Tryd.underlying31 rfl hde21_0.sl ?_)
   refine st (yP (k := .i64) (a := ((((d.types.getD k default).fields).length : Nat) : Int)) (b := 20) rfl rfl ?_)
   refine zf ?_
   cases hc25 : decide (20 < ((((d.types.getD k default).fields).length : Nat) : Int))
   ·skip
    have hc25 := of_decide_eq_false hc25
    refine zo rfl ?_
    refine zw ?_
    refine zd ?_
    refine za (by kernel_rfl) (fun _ => ?_)
    refine st (ze (v := .int .i64 (0)) rfl ?_)
    refine zf ?_
    refine zx ?_
    refine yn (fun mq σ wq => ∃ (j : Nat) (ρ : Env), mq = (d.types.getD k default).fields.length - j ∧ σ = yp ρ [(1, .pointer (some ⟨b2, 0, none⟩)), (3, .int .i64 ((k : Nat) : Int)), (4, .int .i64 ((j : Nat) : Int))] ∧ (j ≤ (d.types.getD k default).fields.length) ∧ Sep G W ((Blk b2 (d.cells dd0 dd1).toArray 25) :: Rs) wq) ⟨0, _, rfl, zp ⟨rfl, rfl, rfl, trivial⟩, Nat.zero_le _, hS17⟩ ?_
    rintro m27 σ28 w26 ⟨j, ρl2, rfl, rfl, hkj, hS29⟩
    refine zd ?_
    refine zd ?_
    refine za (by kernel_rfl) (fun _ => ?_)
    refine st (zb (v := .int .i64 ((j : Nat) : Int)) rfl ?_)
    refine st (yt rfl ?_)
    refine st (zg (v := dd0) Tryd.isAgg22 rfl (zh (hS29.blk (i := 0) rfl) rfl) ?_)
    refine st (zb (v := .int .i64 ((k : Nat) : Int)) rfl ?_)
    have hi30 : k < d.types.length := (by first | omega | (simp only [lens]; omega))
    refine st (zm (k := 1) (i := k) Tryd.underlying22 Tryd.sizeOf33 rfl hdd0.sl rfl hi30 ?_)
    refine st (yC rfl ?_)
    have hcw32 := hS29.cells hce21 (hdd0.foot (ne_of_lt hi22))
    refine st (zg (v := (zi W (sb dd0) (so dd0 + k * 1 + 0))) Tryd.isAgg31 rfl (hcw32.get (j := 0) rfl) ?_)
    refine st (zJ (n := ((d.types.getD k default).fields).length) Tryd.underlying31 rfl hde21_0.sl ?_)
    refine st (zN (k := .i64) (a := ((j : Nat) : Int)) (b := ((((d.types.getD k default).fields).length : Nat) : Int)) rfl rfl ?_)
    refine zf ?_
    cases hc33 : decide (((j : Nat) : Int) < ((((d.types.getD k default).fields).length : Nat) : Int))
    ·skip
     have hc33 := of_decide_eq_false hc33
     refine zo rfl ?_
     refine ym ?_
     refine yd ?_
     refine za (by kernel_rfl) (fun _ => ?_)
     refine st (zb (v := .int .i64 ((k : Nat) : Int)) rfl ?_)
     have hr34 : InR ((k + 1 : Nat) : Int) := by first | omega | (simp only [lens]; omega)
     refine st (ye (r := ((k + 1 : Nat) : Int)) (k := .i64) (a := ((k : Nat) : Int)) (b := 1) rfl rfl (by rw [show (((k : Nat) : Int) + 1 : Int) = ((k + 1 : Nat) : Int) by first | omega | (simp only [lens]; omega)]; exact zQ hr34) ?_)
     refine st (ze (v := .int .i64 ((k + 1 : Nat) : Int)) rfl ?_)
     refine zf ?_
     exact ⟨_, by omega, k + 1, _, rfl, zp ⟨rfl, rfl, trivial⟩, by omega, hS29⟩
    ·skip
     have hc33 := of_decide_eq_true hc33
     refine zq rfl ?_
     refine zw ?_
     refine zd ?_
     refine zx ?_
     refine zd ?_
     refine za (by kernel_rfl) (fun _ => ?_)
     refine st (yt rfl ?_)
     refine st (zg (v := dd0) Tryd.isAgg22 rfl (zh (hS29.blk (i := 0) rfl) rfl) ?_)
     refine st (zb (v := .int .i64 ((k : Nat) : Int)) rfl ?_)
     have hi35 : k < d.types.length := (by first | omega | (simp only [lens]; omega))
     refine st (zm (k := 1) (i := k) Tryd.underlying22 Tryd.sizeOf33 rfl hdd0.sl rfl hi35 ?_)
     refine st (yC rfl ?_)
     have hcw37 := hS29.cells hce21 (hdd0.foot (ne_of_lt hi22))
     refine st (zg (v := (zi W (sb dd0) (so dd0 + k * 1 + 0))) Tryd.isAgg31 rfl (hcw37.get (j := 0) rfl) ?_)
     refine st (zb (v := .int .i64 ((j : Nat) : Int)) rfl ?_)
     have hi38 : j < ((d.types.getD k default).fields).length := (by first | omega | (simp only [lens]; omega))
     refine st (zm (k := 4) (i := j) Tryd.underlying31 Tryd.sizeOf79 rfl hde21_0.sl rfl hi38 ?_)
     refine st (yE rfl ?_)
     have hi40 : j < ((d.types.getD k default).fields).length := (by first | omega | (simp only [lens]; omega))
     obtain ⟨hce39, hde39_0, hoke39⟩ := hde21_0.fld hi40
     rw [← zk default hi40] at hce39 hde39_0 hoke39
     have hsm41 : ((((d.types.getD k default).fields).getD j default).moves).length * 32 ≤ 140737488355328 := hde39_0.small
     have hcw42 := hS29.cells hce39 (hde21_0.foot (ne_of_lt hi40))
     refine st (zg (v := (zi W (sb (zi W (sb dd0) (so dd0 + k * 1 + 0))) (so (zi W (sb dd0) (so dd0 + k * 1 + 0)) + j * 4 + 3))) Tryd.isAgg77 rfl (hcw42.get (j := 3) rfl) ?_)
     refine st (zJ (n := ((((d.types.getD k default).fields).getD j default).moves).length) Tryd.underlying77 rfl hde39_0.sl ?_)
     refine st (yP (k := .i64) (a := ((((((d.types.getD k default).fields).getD j default).moves).length : Nat) : Int)) (b := 40) rfl rfl ?_)
     refine zf ?_
     cases hc43 : decide (40 < ((((((d.types.getD k default).fields).getD j default).moves).length : Nat) : Int))
     ·skip
      have hc43 := of_decide_eq_false hc43
      refine zo rfl ?_
      refine zw ?_
      refine za (by kernel_rfl) (fun _ => ?_)
      refine st (zb (v := .int .i64 ((j : Nat) : Int)) rfl ?_)
      have hr44 : InR ((j + 1 : Nat) : Int) := by first | omega | (simp only [lens]; omega)
      refine st (ye (r := ((j + 1 : Nat) : Int)) (k := .i64) (a := ((j : Nat) : Int)) (b := 1) rfl rfl (by rw [show (((j : Nat) : Int) + 1 : Int) = ((j + 1 : Nat) : Int) by first | omega | (simp only [lens]; omega)]; exact zQ hr44) ?_)
      refine st (ze (v := .int .i64 ((j + 1 : Nat) : Int)) rfl ?_)
      refine zf ?_
      exact ⟨_, by omega, j + 1, _, rfl, zp ⟨rfl, rfl, rfl, trivial⟩, by omega, hS29⟩
     ·skip
      have hc43 := of_decide_eq_true hc43
      refine zq rfl ?_
      refine zd ?_
      refine za (by kernel_rfl) (fun _ => ?_)
      refine st (ze (v := .bool true) rfl ?_)
      refine zf ?_
      refine zu ?_
      refine ya Tryd.results45 (show _ = (.bool true : Value) from rfl) ?_
      have hS45 : Sep G W Rs w26 := hS29.sel 1 [] (Nat.le_add_left _ _) rfl rfl
      refine ⟨true, rfl, hS45⟩
   ·skip
    have hc25 := of_decide_eq_true hc25
    refine zq rfl ?_
    refine zd ?_
    refine za (by kernel_rfl) (fun _ => ?_)
    refine st (ze (v := .bool true) rfl ?_)
    refine zf ?_
    refine zu ?_
    refine ya Tryd.results45 (show _ = (.bool true : Value) from rfl) ?_
    have hS46 : Sep G W Rs w14 := hS17.sel 1 [] (Nat.le_add_left _ _) rfl rfl
    refine ⟨true, rfl, hS46⟩
 ·skip
  try simp only [zn] at hc13
  refine zq rfl ?_
  refine zd ?_
  refine za (by kernel_rfl) (fun _ => ?_)
  refine st (ze (v := .bool true) rfl ?_)
  refine zf ?_
  refine zu ?_
  refine ya Tryd.results45 (show _ = (.bool true : Value) from rfl) ?_
  have hS47 : Sep G W Rs w3 := hS4.sel 1 [] (Nat.le_add_left _ _) rfl rfl
  refine ⟨true, rfl, hS47⟩

theorem xA {d : Option Tmp} {ty : TypeId} {pos : String} {af : Array Edge} {g : Option (Nat × Bool)} {σ : Env} {w : World} {K : Value → World → Prop} {x : Operand} {b o : Nat} (hx : ev σ x = .pointer (some ⟨b, o, none⟩)) (h : K (.pointer (some ⟨b, o + 0, none⟩)) w) : opV Tryd.prog ⟨d, .fieldAddr 79 x 0, ty, pos, af, g⟩ σ w K := zt Tryd.underlying79 rfl rfl (fun w => ⟨0, Tryd.sizeOf3 w⟩) hx h
theorem Ul {G : Nat → Prop} {W w : World} {Rs : List HP} {t : Typ} {dt0 : Value} (hdt0 : RdS W G dt0 t.fields) (ot : t.Ok) {n : Int} (hn : InR n) (hS0 : Sep G W Rs w) : Ret Tryd.prog 73 [.agg (t.cells dt0).toArray, .int .i64 (n)] w (fun r w' => r = (.int .i64 ((yf t n)) : Value) ∧ Sep G W Rs w') := by
 have hdt0s : _ * 48 ≤ _ := hdt0.small
 refine zr (args := [.agg (t.cells dt0).toArray, .int .i64 (n)]) Tryd.func73 rfl rfl ?_
 refine zd ?_
 refine za (by kernel_rfl) (fun _ => ?_)
 refine st (yb (v := .agg (t.cells dt0).toArray) rfl ?_)
 intro w3 b2 hn1
 have hS4 := hS0.new hn1
 refine st (ze (v := .int .i64 (0)) rfl ?_)
 refine zf ?_
 refine zd ?_
 refine zd ?_
 refine zD (by kernel_rfl) ?_
 refine st (zb (v := .int .i64 (n)) rfl ?_)
 refine st (zN (k := .i64) (a := n) (b := 0) rfl rfl ?_)
 refine st (zb (v := .bool (decide (n < 0))) rfl ?_)
 refine stc (V := .int .i64 (n)) rfl rfl (fun hb5 => ?_) ?_
 ·have hl6 := hb5
  have hl6 := of_decide_eq_false hl6
  exact zb (v := .int .i64 (n)) rfl ⟨rfl, rfl⟩
 refine stc (V := .pointer (some ⟨b2, 0, none⟩)) rfl rfl (fun hb7 => ?_) ?_
 ·have hl8 := hb7
  have hl8 := of_decide_eq_false hl8
  exact yC rfl ⟨rfl, rfl⟩
 refine stc (V := dt0) rfl rfl (fun hb9 => ?_) ?_
 ·have hl10 := hb9
  have hl10 := of_decide_eq_false hl10
  exact zg (v := dt0) Tryd.isAgg31 (show _ = (.pointer (some ⟨b2, 0, none⟩) : Value) from (if_pos hb9)) (zh (hS4.blk (i := 0) rfl) rfl) ⟨rfl, rfl⟩
 refine stc (V := .int .i64 ((t.fields.length : Nat) : Int)) rfl rfl (fun hb11 => ?_) ?_
 ·have hl12 := hb11
  have hl12 := of_decide_eq_false hl12
  exact zJ (n := t.fields.length) Tryd.underlying31 (show _ = (dt0 : Value) from (if_pos hb11)) hdt0.sl ⟨rfl, rfl⟩
 refine stc (V := .bool (decide (((t.fields.length : Nat) : Int) ≤ n))) rfl rfl (fun hb13 => ?_) ?_
 ·have hl14 := hb13
  have hl14 := of_decide_eq_false hl14
  exact xI (k := .i64) (a := n) (b := ((t.fields.length : Nat) : Int)) (show _ = (.int .i64 (n) : Value) from (if_pos hb13)) (show _ = (.int .i64 ((t.fields.length : Nat) : Int) : Value) from (if_pos hb13)) ⟨rfl, rfl⟩
 refine st (zA (b := decide (n < 0)) (b' := decide (((t.fields.length : Nat) : Int) ≤ n)) rfl (fun hbp => (show _ = (.bool (decide (((t.fields.length : Nat) : Int) ≤ n)) : Value) from (if_pos hbp))) ?_)
 refine zf ?_
 cases hc15 : (decide (n < 0)) || (decide (((t.fields.length : Nat) : Int) ≤ n))
 ·skip
  try simp only [zn] at hc15
  refine zo rfl ?_
  refine zw ?_
  refine zd ?_
  refine za (by kernel_rfl) (fun _ => ?_)
  refine st (yC rfl ?_)
  refine st (zg (v := dt0) Tryd.isAgg31 rfl (zh (hS4.blk (i := 0) rfl) rfl) ?_)
  refine st (zb (v := .int .i64 (n)) rfl ?_)
  have hi16 : n.toNat < t.fields.length := (by first | omega | (simp only [lens]; omega))
  refine st (zG (k := 4) (i := n) Tryd.underlying31 Tryd.sizeOf79 rfl hdt0.sl rfl ⟨by omega, by omega⟩ ?_)
  refine st (xA rfl ?_)
  have hi18 : n.toNat < t.fields.length := (by first | omega | (simp only [lens]; omega))
  obtain ⟨hce17, hde17_0, hoke17⟩ := hdt0.fld hi18
  rw [← zk default hi18] at hce17 hde17_0 hoke17
  have hsm19 : ((t.fields.getD n.toNat default).moves).length * 32 ≤ 140737488355328 := hde17_0.small
  have hcw20 := hS4.cells hce17 (hdt0.foot (ne_of_lt hi18))
  refine st (zg (v := .int .i64 ((t.fields.getD n.toNat default).kind)) Tryd.isAgg3 rfl (hcw20.get (j := 0) rfl) ?_)
  refine st (ze (v := .int .i64 ((t.fields.getD n.toNat default).kind)) rfl ?_)
  refine zf ?_
  refine zu ?_
  refine ya Tryd.results73 (show _ = (.int .i64 ((t.fields.getD n.toNat default).kind) : Value) from rfl) ?_
  have hS21 : Sep G W Rs w3 := hS4.sel 1 [] (Nat.le_add_left _ _) rfl rfl
  refine ⟨?_, hS21⟩
  unfold yf
  rw [if_neg (by omega)]
 ·skip
  try simp only [zn] at hc15
  refine zq rfl ?_
  refine zd ?_
  refine za (by kernel_rfl) (fun _ => ?_)
  refine st (ze (v := .int .i64 (0)) rfl ?_)
  refine zf ?_
  refine zu ?_
  refine ya Tryd.results73 (show _ = (.int .i64 (0) : Value) from rfl) ?_
  have hS22 : Sep G W Rs w3 := hS4.sel 1 [] (Nat.le_add_left _ _) rfl rfl
  refine ⟨?_, hS22⟩
  unfold yf
  rw [if_pos (by omega)]

theorem QP {G : Nat → Prop} {W w : World} {Rs : List HP} {d : Dcl} {dd0 : Value} (hdd0 : RdS W G dd0 d.types) {dd1 : Value} (hdd1 : RdS W G dd1 d.projs) (od : d.Ok) (hS0 : Sep G W Rs w) : Ret Tryd.prog 70 [.agg (d.cells dd0 dd1).toArray] w (fun r w' => ∃ (b : Bool), r = (.bool b : Value) ∧ (b = false → FewD d) ∧ Sep G W Rs w') := by
 have hdd0s : _ * 24 ≤ _ := hdd0.small
 have hdd1s : _ * 40 ≤ _ := hdd1.small
 refine zr (args := [.agg (d.cells dd0 dd1).toArray]) Tryd.func70 rfl rfl ?_
 refine zd ?_
 refine za (by kernel_rfl) (fun _ => ?_)
 refine st (yb (v := .agg (d.cells dd0 dd1).toArray) rfl ?_)
 intro w3 b2 hn1
 have hS4 := hS0.new hn1
 refine st (ze (v := .bool false) rfl ?_)
 refine zf ?_
 refine zd ?_
 refine zd ?_
 refine zD (by kernel_rfl) ?_
 refine st (yt rfl ?_)
 refine st (zg (v := dd0) Tryd.isAgg22 rfl (zh (hS4.blk (i := 0) rfl) rfl) ?_)
 refine st (zJ (n := d.types.length) Tryd.underlying22 rfl hdd0.sl ?_)
 refine st (yu (k := .i64) (a := ((d.types.length : Nat) : Int)) (b := 0) rfl rfl ?_)
 refine st (zb (v := .bool (decide (((d.types.length : Nat) : Int) = 0))) rfl ?_)
 refine stc (V := .pointer (some ⟨b2, 0, none⟩)) rfl rfl (fun hb5 => ?_) ?_
 ·have hl6 := hb5
  have hl6 := of_decide_eq_false hl6
  exact yt rfl ⟨rfl, rfl⟩
 refine stc (V := dd0) rfl rfl (fun hb7 => ?_) ?_
 ·have hl8 := hb7
  have hl8 := of_decide_eq_false hl8
  exact zg (v := dd0) Tryd.isAgg22 (show _ = (.pointer (some ⟨b2, 0, none⟩) : Value) from (if_pos hb7)) (zh (hS4.blk (i := 0) rfl) rfl) ⟨rfl, rfl⟩
 refine stc (V := .int .i64 ((d.types.length : Nat) : Int)) rfl rfl (fun hb9 => ?_) ?_
 ·have hl10 := hb9
  have hl10 := of_decide_eq_false hl10
  exact zJ (n := d.types.length) Tryd.underlying22 (show _ = (dd0 : Value) from (if_pos hb9)) hdd0.sl ⟨rfl, rfl⟩
 refine stc (V := .bool (decide (8 < ((d.types.length : Nat) : Int)))) rfl rfl (fun hb11 => ?_) ?_
 ·have hl12 := hb11
  have hl12 := of_decide_eq_false hl12
  exact yP (k := .i64) (a := ((d.types.length : Nat) : Int)) (b := 8) (show _ = (.int .i64 ((d.types.length : Nat) : Int) : Value) from (if_pos hb11)) rfl ⟨rfl, rfl⟩
 refine st (zA (b := decide (((d.types.length : Nat) : Int) = 0)) (b' := decide (8 < ((d.types.length : Nat) : Int))) rfl (fun hbp => (show _ = (.bool (decide (8 < ((d.types.length : Nat) : Int))) : Value) from (if_pos hbp))) ?_)
 refine st (zb (v := .bool ((decide (((d.types.length : Nat) : Int) = 0)) || (decide (8 < ((d.types.length : Nat) : Int))))) rfl ?_)
 refine stc (V := .pointer (some ⟨b2, 1, none⟩)) rfl rfl (fun hb13 => ?_) ?_
 ·have hl14 := hb13
  try simp only [zn] at hl14
  exact xK rfl ⟨rfl, rfl⟩
 refine stc (V := dd1) rfl rfl (fun hb15 => ?_) ?_
 ·have hl16 := hb15
  try simp only [zn] at hl16
  exact zg (v := dd1) Tryd.isAgg23 (show _ = (.pointer (some ⟨b2, 1, none⟩) : Value) from (if_pos hb15)) (zh (hS4.blk (i := 0) rfl) rfl) ⟨rfl, rfl⟩
 refine stc (V := .int .i64 ((d.projs.length : Nat) : Int)) rfl rfl (fun hb17 => ?_) ?_
 ·have hl18 := hb17
  try simp only [zn] at hl18
  exact zJ (n := d.projs.length) Tryd.underlying23 (show _ = (dd1 : Value) from (if_pos hb17)) hdd1.sl ⟨rfl, rfl⟩
 refine stc (V := .bool (decide (8 < ((d.projs.length : Nat) : Int)))) rfl rfl (fun hb19 => ?_) ?_
 ·have hl20 := hb19
  try simp only [zn] at hl20
  exact yP (k := .i64) (a := ((d.projs.length : Nat) : Int)) (b := 8) (show _ = (.int .i64 ((d.projs.length : Nat) : Int) : Value) from (if_pos hb19)) rfl ⟨rfl, rfl⟩
 refine st (zA (b := (decide (((d.types.length : Nat) : Int) = 0)) || (decide (8 < ((d.types.length : Nat) : Int)))) (b' := decide (8 < ((d.projs.length : Nat) : Int))) rfl (fun hbp => (show _ = (.bool (decide (8 < ((d.projs.length : Nat) : Int))) : Value) from (if_pos hbp))) ?_)
 refine zf ?_
 cases hc21 : ((decide (((d.types.length : Nat) : Int) = 0)) || (decide (8 < ((d.types.length : Nat) : Int)))) || (decide (8 < ((d.projs.length : Nat) : Int)))
 ·skip
  try simp only [zn] at hc21
  refine zo rfl ?_
  refine zw ?_
  refine zd ?_
  refine zd ?_
  refine za (by kernel_rfl) (fun _ => ?_)
  refine st (ze (v := .int .i64 (0)) rfl ?_)
  refine zf ?_
  refine zx ?_
  refine yn (fun mq σ wq => ∃ (k : Nat) (ρ : Env), mq = d.types.length - k ∧ σ = yp ρ [(1, .pointer (some ⟨b2, 0, none⟩)), (3, .int .i64 ((k : Nat) : Int))] ∧ (k ≤ d.types.length) ∧ (∀ i, i < k → FewT (d.types.getD i default)) ∧ Sep G W ((Blk b2 (d.cells dd0 dd1).toArray 25) :: Rs) wq) ⟨0, _, rfl, zp ⟨rfl, rfl, trivial⟩, Nat.zero_le _, (fun i h => absurd h (Nat.not_lt_zero i)), hS4⟩ ?_
  rintro m23 σ24 w22 ⟨k, ρl1, rfl, rfl, hkk, hm, hS25⟩
  refine zd ?_
  refine zd ?_
  refine za (by kernel_rfl) (fun _ => ?_)
  refine st (zb (v := .int .i64 ((k : Nat) : Int)) rfl ?_)
  refine st (yt rfl ?_)
  refine st (zg (v := dd0) Tryd.isAgg22 rfl (zh (hS25.blk (i := 0) rfl) rfl) ?_)
  refine st (zJ (n := d.types.length) Tryd.underlying22 rfl hdd0.sl ?_)
  refine st (zN (k := .i64) (a := ((k : Nat) : Int)) (b := ((d.types.length : Nat) : Int)) rfl rfl ?_)
  refine zf ?_
  cases hc26 : decide (((k : Nat) : Int) < ((d.types.length : Nat) : Int))
  ·skip
   have hc26 := of_decide_eq_false hc26
   refine zo rfl ?_
   refine ym ?_
   refine yd ?_
   refine zd ?_
   refine za (by kernel_rfl) (fun _ => ?_)
   refine st (ze (v := .bool false) rfl ?_)
   refine zf ?_
   refine zu ?_
   refine ya Tryd.results70 (show _ = (.bool false : Value) from rfl) ?_
   have hS27 : Sep G W Rs w22 := hS25.sel 1 [] (Nat.le_add_left _ _) rfl rfl
   refine ⟨false, rfl, ?_, hS27⟩
   intro h9
   exact ⟨by omega, fun i hi => hm i (by omega)⟩
  ·skip
   have hc26 := of_decide_eq_true hc26
   refine zq rfl ?_
   refine zw ?_
   refine zd ?_
   refine zx ?_
   refine zd ?_
   refine za (by kernel_rfl) (fun _ => ?_)
   refine st (yt rfl ?_)
   refine st (zg (v := dd0) Tryd.isAgg22 rfl (zh (hS25.blk (i := 0) rfl) rfl) ?_)
   refine st (zb (v := .int .i64 ((k : Nat) : Int)) rfl ?_)
   have hi28 : k < d.types.length := (by first | omega | (simp only [lens]; omega))
   refine st (zm (k := 1) (i := k) Tryd.underlying22 Tryd.sizeOf33 rfl hdd0.sl rfl hi28 ?_)
   refine st (yC rfl ?_)
   have hi30 : k < d.types.length := (by first | omega | (simp only [lens]; omega))
   obtain ⟨hce29, hde29_0, hoke29⟩ := hdd0.typ hi30
   rw [← zk default hi30] at hce29 hde29_0 hoke29
   have hsm31 : ((d.types.getD k default).fields).length * 48 ≤ 140737488355328 := hde29_0.small
   have hcw32 := hS25.cells hce29 (hdd0.foot (ne_of_lt hi30))
   refine st (zg (v := (zi W (sb dd0) (so dd0 + k * 1 + 0))) Tryd.isAgg31 rfl (hcw32.get (j := 0) rfl) ?_)
   refine st (ze (v := (zi W (sb dd0) (so dd0 + k * 1 + 0))) rfl ?_)
   refine zf ?_
   refine zd ?_
   refine zd ?_
   refine zD (by kernel_rfl) ?_
   refine st (zb (v := (zi W (sb dd0) (so dd0 + k * 1 + 0))) rfl ?_)
   refine st (zJ (n := ((d.types.getD k default).fields).length) Tryd.underlying31 rfl hde29_0.sl ?_)
   refine st (yu (k := .i64) (a := ((((d.types.getD k default).fields).length : Nat) : Int)) (b := 0) rfl rfl ?_)
   refine st (zb (v := .bool (decide (((((d.types.getD k default).fields).length : Nat) : Int) = 0))) rfl ?_)
   refine stc (V := (zi W (sb dd0) (so dd0 + k * 1 + 0))) rfl rfl (fun hb33 => ?_) ?_
   ·have hl34 := hb33
    have hl34 := of_decide_eq_false hl34
    exact zb (v := (zi W (sb dd0) (so dd0 + k * 1 + 0))) rfl ⟨rfl, rfl⟩
   refine stc (V := .int .i64 ((((d.types.getD k default).fields).length : Nat) : Int)) rfl rfl (fun hb35 => ?_) ?_
   ·have hl36 := hb35
    have hl36 := of_decide_eq_false hl36
    exact zJ (n := ((d.types.getD k default).fields).length) Tryd.underlying31 (show _ = ((zi W (sb dd0) (so dd0 + k * 1 + 0)) : Value) from (if_pos hb35)) hde29_0.sl ⟨rfl, rfl⟩
   refine stc (V := .bool (decide (8 < ((((d.types.getD k default).fields).length : Nat) : Int)))) rfl rfl (fun hb37 => ?_) ?_
   ·have hl38 := hb37
    have hl38 := of_decide_eq_false hl38
    exact yP (k := .i64) (a := ((((d.types.getD k default).fields).length : Nat) : Int)) (b := 8) (show _ = (.int .i64 ((((d.types.getD k default).fields).length : Nat) : Int) : Value) from (if_pos hb37)) rfl ⟨rfl, rfl⟩
   refine st (zA (b := decide (((((d.types.getD k default).fields).length : Nat) : Int) = 0)) (b' := decide (8 < ((((d.types.getD k default).fields).length : Nat) : Int))) rfl (fun hbp => (show _ = (.bool (decide (8 < ((((d.types.getD k default).fields).length : Nat) : Int))) : Value) from (if_pos hbp))) ?_)
   refine zf ?_
   cases hc39 : (decide (((((d.types.getD k default).fields).length : Nat) : Int) = 0)) || (decide (8 < ((((d.types.getD k default).fields).length : Nat) : Int)))
   ·skip
    try simp only [zn] at hc39
    refine zo rfl ?_
    refine zw ?_
    refine zd ?_
    refine za (by kernel_rfl) (fun _ => ?_)
    refine st (ze (v := .int .i64 (0)) rfl ?_)
    refine zf ?_
    refine zx ?_
    refine yn (fun mq σ wq => ∃ (j : Nat) (ρ : Env), mq = (d.types.getD k default).fields.length - j ∧ σ = yp ρ [(1, .pointer (some ⟨b2, 0, none⟩)), (3, .int .i64 ((k : Nat) : Int)), (4, (zi W (sb dd0) (so dd0 + k * 1 + 0))), (5, .int .i64 ((j : Nat) : Int))] ∧ (j ≤ (d.types.getD k default).fields.length) ∧ (∀ i, i < j → QC ((d.types.getD k default).fields.getD i default)) ∧ Sep G W ((Blk b2 (d.cells dd0 dd1).toArray 25) :: Rs) wq) ⟨0, _, rfl, zp ⟨rfl, rfl, rfl, rfl, trivial⟩, Nat.zero_le _, (fun i h => absurd h (Nat.not_lt_zero i)), hS25⟩ ?_
    rintro m41 σ42 w40 ⟨j, ρl2, rfl, rfl, hkj, hm2, hS43⟩
    refine zd ?_
    refine zd ?_
    refine za (by kernel_rfl) (fun _ => ?_)
    refine st (zb (v := .int .i64 ((j : Nat) : Int)) rfl ?_)
    refine st (zb (v := (zi W (sb dd0) (so dd0 + k * 1 + 0))) rfl ?_)
    refine st (zJ (n := ((d.types.getD k default).fields).length) Tryd.underlying31 rfl hde29_0.sl ?_)
    refine st (zN (k := .i64) (a := ((j : Nat) : Int)) (b := ((((d.types.getD k default).fields).length : Nat) : Int)) rfl rfl ?_)
    refine zf ?_
    cases hc44 : decide (((j : Nat) : Int) < ((((d.types.getD k default).fields).length : Nat) : Int))
    ·skip
     have hc44 := of_decide_eq_false hc44
     refine zo rfl ?_
     refine ym ?_
     refine yd ?_
     refine za (by kernel_rfl) (fun _ => ?_)
     refine st (zb (v := .int .i64 ((k : Nat) : Int)) rfl ?_)
     have hr45 : InR ((k + 1 : Nat) : Int) := by first | omega | (simp only [lens]; omega)
     refine st (ye (r := ((k + 1 : Nat) : Int)) (k := .i64) (a := ((k : Nat) : Int)) (b := 1) rfl rfl (by rw [show (((k : Nat) : Int) + 1 : Int) = ((k + 1 : Nat) : Int) by first | omega | (simp only [lens]; omega)]; exact zQ hr45) ?_)
     refine st (ze (v := .int .i64 ((k + 1 : Nat) : Int)) rfl ?_)
     refine zf ?_
     exact ⟨_, by omega, k + 1, _, rfl, zp ⟨rfl, rfl, trivial⟩, by omega, (xv hm ⟨by omega, fun j9 h9 => hm2 j9 (by omega)⟩), hS43⟩
    ·skip
     have hc44 := of_decide_eq_true hc44
     refine zq rfl ?_
     refine zw ?_
     refine zd ?_
     refine zx ?_
     refine zd ?_
     refine zD (by kernel_rfl) ?_
     refine st (zb (v := (zi W (sb dd0) (so dd0 + k * 1 + 0))) rfl ?_)
     refine st (zb (v := .int .i64 ((j : Nat) : Int)) rfl ?_)
     have hi46 : j < ((d.types.getD k default).fields).length := (by first | omega | (simp only [lens]; omega))
     refine st (zm (k := 4) (i := j) Tryd.underlying31 Tryd.sizeOf79 rfl hde29_0.sl rfl hi46 ?_)
     refine st (xA rfl ?_)
     have hi48 : j < ((d.types.getD k default).fields).length := (by first | omega | (simp only [lens]; omega))
     obtain ⟨hce47, hde47_0, hoke47⟩ := hde29_0.fld hi48
     rw [← zk default hi48] at hce47 hde47_0 hoke47
     have hsm49 : ((((d.types.getD k default).fields).getD j default).moves).length * 32 ≤ 140737488355328 := hde47_0.small
     have hcw50 := hS43.cells hce47 (hde29_0.foot (ne_of_lt hi48))
     refine st (zg (v := .int .i64 ((((d.types.getD k default).fields).getD j default).kind)) Tryd.isAgg3 rfl (hcw50.get (j := 0) rfl) ?_)
     refine st (yu (k := .i64) (a := (((d.types.getD k default).fields).getD j default).kind) (b := 4) rfl rfl ?_)
     refine st (zb (v := .bool (decide (((((d.types.getD k default).fields).getD j default).kind) = 4))) rfl ?_)
     refine stc (V := (zi W (sb dd0) (so dd0 + k * 1 + 0))) rfl rfl (fun hb51 => ?_) ?_
     ·have hl52 := hb51
      have hl52 := of_decide_eq_true hl52
      exact zb (v := (zi W (sb dd0) (so dd0 + k * 1 + 0))) rfl ⟨rfl, rfl⟩
     refine stc (V := .int .i64 ((j : Nat) : Int)) rfl rfl (fun hb53 => ?_) ?_
     ·have hl54 := hb53
      have hl54 := of_decide_eq_true hl54
      exact zb (v := .int .i64 ((j : Nat) : Int)) rfl ⟨rfl, rfl⟩
     refine stc (V := .pointer (some ⟨sb (zi W (sb dd0) (so dd0 + k * 1 + 0)), so (zi W (sb dd0) (so dd0 + k * 1 + 0)) + j * 4, none⟩)) rfl rfl (fun hb55 => ?_) ?_
     ·have hl56 := hb55
      have hl56 := of_decide_eq_true hl56
      have hi57 : j < ((d.types.getD k default).fields).length := (by first | omega | (simp only [lens]; omega))
      exact zm (k := 4) (i := j) Tryd.underlying31 Tryd.sizeOf79 (show _ = ((zi W (sb dd0) (so dd0 + k * 1 + 0)) : Value) from (if_pos hb55)) hde29_0.sl (show _ = (.int .i64 ((j : Nat) : Int) : Value) from (if_pos hb55)) hi57 ⟨rfl, rfl⟩
     refine stc (V := .pointer (some ⟨sb (zi W (sb dd0) (so dd0 + k * 1 + 0)), so (zi W (sb dd0) (so dd0 + k * 1 + 0)) + j * 4 + 3, none⟩)) rfl rfl (fun hb58 => ?_) ?_
     ·have hl59 := hb58
      have hl59 := of_decide_eq_true hl59
      exact yE (show _ = (.pointer (some ⟨sb (zi W (sb dd0) (so dd0 + k * 1 + 0)), so (zi W (sb dd0) (so dd0 + k * 1 + 0)) + j * 4, none⟩) : Value) from (if_pos hb58)) ⟨rfl, rfl⟩
     refine stc (V := (zi W (sb (zi W (sb dd0) (so dd0 + k * 1 + 0))) (so (zi W (sb dd0) (so dd0 + k * 1 + 0)) + j * 4 + 3))) rfl rfl (fun hb60 => ?_) ?_
     ·have hl61 := hb60
      have hl61 := of_decide_eq_true hl61
      have hcw63 := hS43.cells hce47 (hde29_0.foot (ne_of_lt hi48))
      exact zg (v := (zi W (sb (zi W (sb dd0) (so dd0 + k * 1 + 0))) (so (zi W (sb dd0) (so dd0 + k * 1 + 0)) + j * 4 + 3))) Tryd.isAgg77 (show _ = (.pointer (some ⟨sb (zi W (sb dd0) (so dd0 + k * 1 + 0)), so (zi W (sb dd0) (so dd0 + k * 1 + 0)) + j * 4 + 3, none⟩) : Value) from (if_pos hb60)) (hcw63.get (j := 3) rfl) ⟨rfl, rfl⟩
     refine stc (V := .int .i64 ((((((d.types.getD k default).fields).getD j default).moves).length : Nat) : Int)) rfl rfl (fun hb64 => ?_) ?_
     ·have hl65 := hb64
      have hl65 := of_decide_eq_true hl65
      exact zJ (n := ((((d.types.getD k default).fields).getD j default).moves).length) Tryd.underlying77 (show _ = ((zi W (sb (zi W (sb dd0) (so dd0 + k * 1 + 0))) (so (zi W (sb dd0) (so dd0 + k * 1 + 0)) + j * 4 + 3)) : Value) from (if_pos hb64)) hde47_0.sl ⟨rfl, rfl⟩
     refine stc (V := .bool (decide (((((((d.types.getD k default).fields).getD j default).moves).length : Nat) : Int) = 0))) rfl rfl (fun hb66 => ?_) ?_
     ·have hl67 := hb66
      have hl67 := of_decide_eq_true hl67
      exact yu (k := .i64) (a := ((((((d.types.getD k default).fields).getD j default).moves).length : Nat) : Int)) (b := 0) (show _ = (.int .i64 ((((((d.types.getD k default).fields).getD j default).moves).length : Nat) : Int) : Value) from (if_pos hb66)) rfl ⟨rfl, rfl⟩
     refine stc (V := .bool (decide (((((((d.types.getD k default).fields).getD j default).moves).length : Nat) : Int) = 0))) rfl rfl (fun hb68 => ?_) ?_
     ·have hl69 := hb68
      have hl69 := of_decide_eq_true hl69
      exact zb (v := .bool (decide (((((((d.types.getD k default).fields).getD j default).moves).length : Nat) : Int) = 0))) (show _ = (.bool (decide (((((((d.types.getD k default).fields).getD j default).moves).length : Nat) : Int) = 0)) : Value) from (if_pos hb68)) ⟨rfl, rfl⟩
     refine yB (V := (zi W (sb dd0) (so dd0 + k * 1 + 0))) rfl rfl (fun hb70 => ?_) ?_
     ·have hl71 := hb70.1
      have hl71 := of_decide_eq_true hl71
      have hl72 := hb70.2
      have hl72 := of_decide_eq_false hl72
      exact zb (v := (zi W (sb dd0) (so dd0 + k * 1 + 0))) rfl ⟨rfl, rfl⟩
     refine yB (V := .int .i64 ((j : Nat) : Int)) rfl rfl (fun hb73 => ?_) ?_
     ·have hl74 := hb73.1
      have hl74 := of_decide_eq_true hl74
      have hl75 := hb73.2
      have hl75 := of_decide_eq_false hl75
      exact zb (v := .int .i64 ((j : Nat) : Int)) rfl ⟨rfl, rfl⟩
     refine yB (V := .pointer (some ⟨sb (zi W (sb dd0) (so dd0 + k * 1 + 0)), so (zi W (sb dd0) (so dd0 + k * 1 + 0)) + j * 4, none⟩)) rfl rfl (fun hb76 => ?_) ?_
     ·have hl77 := hb76.1
      have hl77 := of_decide_eq_true hl77
      have hl78 := hb76.2
      have hl78 := of_decide_eq_false hl78
      have hi79 : j < ((d.types.getD k default).fields).length := (by first | omega | (simp only [lens]; omega))
      exact zm (k := 4) (i := j) Tryd.underlying31 Tryd.sizeOf79 (show _ = ((zi W (sb dd0) (so dd0 + k * 1 + 0)) : Value) from (if_pos ⟨hb76.1, hb76.2⟩)) hde29_0.sl (show _ = (.int .i64 ((j : Nat) : Int) : Value) from (if_pos ⟨hb76.1, hb76.2⟩)) hi79 ⟨rfl, rfl⟩
     refine yB (V := .pointer (some ⟨sb (zi W (sb dd0) (so dd0 + k * 1 + 0)), so (zi W (sb dd0) (so dd0 + k * 1 + 0)) + j * 4 + 3, none⟩)) rfl rfl (fun hb80 => ?_) ?_
     ·have hl81 := hb80.1
      have hl81 := of_decide_eq_true hl81
      have hl82 := hb80.2
      have hl82 := of_decide_eq_false hl82
      exact yE (show _ = (.pointer (some ⟨sb (zi W (sb dd0) (so dd0 + k * 1 + 0)), so (zi W (sb dd0) (so dd0 + k * 1 + 0)) + j * 4, none⟩) : Value) from (if_pos ⟨hb80.1, hb80.2⟩)) ⟨rfl, rfl⟩
     refine yB (V := (zi W (sb (zi W (sb dd0) (so dd0 + k * 1 + 0))) (so (zi W (sb dd0) (so dd0 + k * 1 + 0)) + j * 4 + 3))) rfl rfl (fun hb83 => ?_) ?_
     ·have hl84 := hb83.1
      have hl84 := of_decide_eq_true hl84
      have hl85 := hb83.2
      have hl85 := of_decide_eq_false hl85
      have hcw87 := hS43.cells hce47 (hde29_0.foot (ne_of_lt hi48))
      exact zg (v := (zi W (sb (zi W (sb dd0) (so dd0 + k * 1 + 0))) (so (zi W (sb dd0) (so dd0 + k * 1 + 0)) + j * 4 + 3))) Tryd.isAgg77 (show _ = (.pointer (some ⟨sb (zi W (sb dd0) (so dd0 + k * 1 + 0)), so (zi W (sb dd0) (so dd0 + k * 1 + 0)) + j * 4 + 3, none⟩) : Value) from (if_pos ⟨hb83.1, hb83.2⟩)) (hcw87.get (j := 3) rfl) ⟨rfl, rfl⟩
     refine yB (V := .int .i64 ((((((d.types.getD k default).fields).getD j default).moves).length : Nat) : Int)) rfl rfl (fun hb88 => ?_) ?_
     ·have hl89 := hb88.1
      have hl89 := of_decide_eq_true hl89
      have hl90 := hb88.2
      have hl90 := of_decide_eq_false hl90
      exact zJ (n := ((((d.types.getD k default).fields).getD j default).moves).length) Tryd.underlying77 (show _ = ((zi W (sb (zi W (sb dd0) (so dd0 + k * 1 + 0))) (so (zi W (sb dd0) (so dd0 + k * 1 + 0)) + j * 4 + 3)) : Value) from (if_pos ⟨hb88.1, hb88.2⟩)) hde47_0.sl ⟨rfl, rfl⟩
     refine yB (V := .bool (decide (16 < ((((((d.types.getD k default).fields).getD j default).moves).length : Nat) : Int)))) rfl rfl (fun hb91 => ?_) ?_
     ·have hl92 := hb91.1
      have hl92 := of_decide_eq_true hl92
      have hl93 := hb91.2
      have hl93 := of_decide_eq_false hl93
      exact yP (k := .i64) (a := ((((((d.types.getD k default).fields).getD j default).moves).length : Nat) : Int)) (b := 16) (show _ = (.int .i64 ((((((d.types.getD k default).fields).getD j default).moves).length : Nat) : Int) : Value) from (if_pos ⟨hb91.1, hb91.2⟩)) rfl ⟨rfl, rfl⟩
     refine stc (V := .bool ((decide (((((((d.types.getD k default).fields).getD j default).moves).length : Nat) : Int) = 0)) || (decide (16 < ((((((d.types.getD k default).fields).getD j default).moves).length : Nat) : Int))))) rfl rfl (fun hb94 => ?_) ?_
     ·have hl95 := hb94
      have hl95 := of_decide_eq_true hl95
      exact zA (b := decide (((((((d.types.getD k default).fields).getD j default).moves).length : Nat) : Int) = 0)) (b' := decide (16 < ((((((d.types.getD k default).fields).getD j default).moves).length : Nat) : Int))) (show _ = (.bool (decide (((((((d.types.getD k default).fields).getD j default).moves).length : Nat) : Int) = 0)) : Value) from (if_pos hb94)) (fun hbp => (show _ = (.bool (decide (16 < ((((((d.types.getD k default).fields).getD j default).moves).length : Nat) : Int))) : Value) from (if_pos ⟨hb94, hbp⟩))) ⟨rfl, rfl⟩
     refine st (zK (b := decide (((((d.types.getD k default).fields).getD j default).kind) = 4)) (b' := (decide (((((((d.types.getD k default).fields).getD j default).moves).length : Nat) : Int) = 0)) || (decide (16 < ((((((d.types.getD k default).fields).getD j default).moves).length : Nat) : Int)))) rfl (fun hbp => (show _ = (.bool ((decide (((((((d.types.getD k default).fields).getD j default).moves).length : Nat) : Int) = 0)) || (decide (16 < ((((((d.types.getD k default).fields).getD j default).moves).length : Nat) : Int)))) : Value) from (if_pos hbp))) ?_)
     refine st (zb (v := .bool ((decide (((((d.types.getD k default).fields).getD j default).kind) = 4)) && ((decide (((((((d.types.getD k default).fields).getD j default).moves).length : Nat) : Int) = 0)) || (decide (16 < ((((((d.types.getD k default).fields).getD j default).moves).length : Nat) : Int)))))) rfl ?_)
     refine stc (V := (zi W (sb dd0) (so dd0 + k * 1 + 0))) rfl rfl (fun hb96 => ?_) ?_
     ·have hl97 := hb96
      try simp only [zn] at hl97
      exact zb (v := (zi W (sb dd0) (so dd0 + k * 1 + 0))) rfl ⟨rfl, rfl⟩
     refine stc (V := .int .i64 ((j : Nat) : Int)) rfl rfl (fun hb98 => ?_) ?_
     ·have hl99 := hb98
      try simp only [zn] at hl99
      exact zb (v := .int .i64 ((j : Nat) : Int)) rfl ⟨rfl, rfl⟩
     refine stc (V := .pointer (some ⟨sb (zi W (sb dd0) (so dd0 + k * 1 + 0)), so (zi W (sb dd0) (so dd0 + k * 1 + 0)) + j * 4, none⟩)) rfl rfl (fun hb100 => ?_) ?_
     ·have hl101 := hb100
      try simp only [zn] at hl101
      have hi102 : j < ((d.types.getD k default).fields).length := (by first | omega | (simp only [lens]; omega))
      exact zm (k := 4) (i := j) Tryd.underlying31 Tryd.sizeOf79 (show _ = ((zi W (sb dd0) (so dd0 + k * 1 + 0)) : Value) from (if_pos hb100)) hde29_0.sl (show _ = (.int .i64 ((j : Nat) : Int) : Value) from (if_pos hb100)) hi102 ⟨rfl, rfl⟩
     refine stc (V := .pointer (some ⟨sb (zi W (sb dd0) (so dd0 + k * 1 + 0)), so (zi W (sb dd0) (so dd0 + k * 1 + 0)) + j * 4, none⟩)) rfl rfl (fun hb103 => ?_) ?_
     ·have hl104 := hb103
      try simp only [zn] at hl104
      exact xA (show _ = (.pointer (some ⟨sb (zi W (sb dd0) (so dd0 + k * 1 + 0)), so (zi W (sb dd0) (so dd0 + k * 1 + 0)) + j * 4, none⟩) : Value) from (if_pos hb103)) ⟨rfl, rfl⟩
     refine stc (V := .int .i64 ((((d.types.getD k default).fields).getD j default).kind)) rfl rfl (fun hb105 => ?_) ?_
     ·have hl106 := hb105
      try simp only [zn] at hl106
      have hcw108 := hS43.cells hce47 (hde29_0.foot (ne_of_lt hi48))
      exact zg (v := .int .i64 ((((d.types.getD k default).fields).getD j default).kind)) Tryd.isAgg3 (show _ = (.pointer (some ⟨sb (zi W (sb dd0) (so dd0 + k * 1 + 0)), so (zi W (sb dd0) (so dd0 + k * 1 + 0)) + j * 4, none⟩) : Value) from (if_pos hb105)) (hcw108.get (j := 0) rfl) ⟨rfl, rfl⟩
     refine stc (V := .bool (!decide (((((d.types.getD k default).fields).getD j default).kind) = 4))) rfl rfl (fun hb109 => ?_) ?_
     ·have hl110 := hb109
      try simp only [zn] at hl110
      exact yz (k := .i64) (a := (((d.types.getD k default).fields).getD j default).kind) (b := 4) (show _ = (.int .i64 ((((d.types.getD k default).fields).getD j default).kind) : Value) from (if_pos hb109)) rfl ⟨rfl, rfl⟩
     refine stc (V := .bool (!decide (((((d.types.getD k default).fields).getD j default).kind) = 4))) rfl rfl (fun hb111 => ?_) ?_
     ·have hl112 := hb111
      try simp only [zn] at hl112
      exact zb (v := .bool (!decide (((((d.types.getD k default).fields).getD j default).kind) = 4))) (show _ = (.bool (!decide (((((d.types.getD k default).fields).getD j default).kind) = 4)) : Value) from (if_pos hb111)) ⟨rfl, rfl⟩
     refine yB (V := (zi W (sb dd0) (so dd0 + k * 1 + 0))) rfl rfl (fun hb113 => ?_) ?_
     ·have hl114 := hb113.1
      try simp only [zn] at hl114
      have hl115 := hb113.2
      have hl115 := zY hl115
      exact zb (v := (zi W (sb dd0) (so dd0 + k * 1 + 0))) rfl ⟨rfl, rfl⟩
     refine yB (V := .int .i64 ((j : Nat) : Int)) rfl rfl (fun hb116 => ?_) ?_
     ·have hl117 := hb116.1
      try simp only [zn] at hl117
      have hl118 := hb116.2
      have hl118 := zY hl118
      exact zb (v := .int .i64 ((j : Nat) : Int)) rfl ⟨rfl, rfl⟩
     refine yB (V := .pointer (some ⟨sb (zi W (sb dd0) (so dd0 + k * 1 + 0)), so (zi W (sb dd0) (so dd0 + k * 1 + 0)) + j * 4, none⟩)) rfl rfl (fun hb119 => ?_) ?_
     ·have hl120 := hb119.1
      try simp only [zn] at hl120
      have hl121 := hb119.2
      have hl121 := zY hl121
      have hi122 : j < ((d.types.getD k default).fields).length := (by first | omega | (simp only [lens]; omega))
      exact zm (k := 4) (i := j) Tryd.underlying31 Tryd.sizeOf79 (show _ = ((zi W (sb dd0) (so dd0 + k * 1 + 0)) : Value) from (if_pos ⟨hb119.1, hb119.2⟩)) hde29_0.sl (show _ = (.int .i64 ((j : Nat) : Int) : Value) from (if_pos ⟨hb119.1, hb119.2⟩)) hi122 ⟨rfl, rfl⟩
     refine yB (V := .pointer (some ⟨sb (zi W (sb dd0) (so dd0 + k * 1 + 0)), so (zi W (sb dd0) (so dd0 + k * 1 + 0)) + j * 4 + 3, none⟩)) rfl rfl (fun hb123 => ?_) ?_
     ·have hl124 := hb123.1
      try simp only [zn] at hl124
      have hl125 := hb123.2
      have hl125 := zY hl125
      exact yE (show _ = (.pointer (some ⟨sb (zi W (sb dd0) (so dd0 + k * 1 + 0)), so (zi W (sb dd0) (so dd0 + k * 1 + 0)) + j * 4, none⟩) : Value) from (if_pos ⟨hb123.1, hb123.2⟩)) ⟨rfl, rfl⟩
     refine yB (V := (zi W (sb (zi W (sb dd0) (so dd0 + k * 1 + 0))) (so (zi W (sb dd0) (so dd0 + k * 1 + 0)) + j * 4 + 3))) rfl rfl (fun hb126 => ?_) ?_
     ·have hl127 := hb126.1
      try simp only [zn] at hl127
      have hl128 := hb126.2
      have hl128 := zY hl128
      have hcw130 := hS43.cells hce47 (hde29_0.foot (ne_of_lt hi48))
      exact zg (v := (zi W (sb (zi W (sb dd0) (so dd0 + k * 1 + 0))) (so (zi W (sb dd0) (so dd0 + k * 1 + 0)) + j * 4 + 3))) Tryd.isAgg77 (show _ = (.pointer (some ⟨sb (zi W (sb dd0) (so dd0 + k * 1 + 0)), so (zi W (sb dd0) (so dd0 + k * 1 + 0)) + j * 4 + 3, none⟩) : Value) from (if_pos ⟨hb126.1, hb126.2⟩)) (hcw130.get (j := 3) rfl) ⟨rfl, rfl⟩
     refine yB (V := .int .i64 ((((((d.types.getD k default).fields).getD j default).moves).length : Nat) : Int)) rfl rfl (fun hb131 => ?_) ?_
     ·have hl132 := hb131.1
      try simp only [zn] at hl132
      have hl133 := hb131.2
      have hl133 := zY hl133
      exact zJ (n := ((((d.types.getD k default).fields).getD j default).moves).length) Tryd.underlying77 (show _ = ((zi W (sb (zi W (sb dd0) (so dd0 + k * 1 + 0))) (so (zi W (sb dd0) (so dd0 + k * 1 + 0)) + j * 4 + 3)) : Value) from (if_pos ⟨hb131.1, hb131.2⟩)) hde47_0.sl ⟨rfl, rfl⟩
     refine yB (V := .bool (!decide (((((((d.types.getD k default).fields).getD j default).moves).length : Nat) : Int) = 0))) rfl rfl (fun hb134 => ?_) ?_
     ·have hl135 := hb134.1
      try simp only [zn] at hl135
      have hl136 := hb134.2
      have hl136 := zY hl136
      exact yz (k := .i64) (a := ((((((d.types.getD k default).fields).getD j default).moves).length : Nat) : Int)) (b := 0) (show _ = (.int .i64 ((((((d.types.getD k default).fields).getD j default).moves).length : Nat) : Int) : Value) from (if_pos ⟨hb134.1, hb134.2⟩)) rfl ⟨rfl, rfl⟩
     refine stc (V := .bool ((!decide (((((d.types.getD k default).fields).getD j default).kind) = 4)) && (!decide (((((((d.types.getD k default).fields).getD j default).moves).length : Nat) : Int) = 0)))) rfl rfl (fun hb137 => ?_) ?_
     ·have hl138 := hb137
      try simp only [zn] at hl138
      exact zK (b := !decide (((((d.types.getD k default).fields).getD j default).kind) = 4)) (b' := !decide (((((((d.types.getD k default).fields).getD j default).moves).length : Nat) : Int) = 0)) (show _ = (.bool (!decide (((((d.types.getD k default).fields).getD j default).kind) = 4)) : Value) from (if_pos hb137)) (fun hbp => (show _ = (.bool (!decide (((((((d.types.getD k default).fields).getD j default).moves).length : Nat) : Int) = 0)) : Value) from (if_pos ⟨hb137, hbp⟩))) ⟨rfl, rfl⟩
     refine st (zA (b := (decide (((((d.types.getD k default).fields).getD j default).kind) = 4)) && ((decide (((((((d.types.getD k default).fields).getD j default).moves).length : Nat) : Int) = 0)) || (decide (16 < ((((((d.types.getD k default).fields).getD j default).moves).length : Nat) : Int))))) (b' := (!decide (((((d.types.getD k default).fields).getD j default).kind) = 4)) && (!decide (((((((d.types.getD k default).fields).getD j default).moves).length : Nat) : Int) = 0))) rfl (fun hbp => (show _ = (.bool ((!decide (((((d.types.getD k default).fields).getD j default).kind) = 4)) && (!decide (((((((d.types.getD k default).fields).getD j default).moves).length : Nat) : Int) = 0))) : Value) from (if_pos hbp))) ?_)
     refine zf ?_
     cases hc139 : ((decide (((((d.types.getD k default).fields).getD j default).kind) = 4)) && ((decide (((((((d.types.getD k default).fields).getD j default).moves).length : Nat) : Int) = 0)) || (decide (16 < ((((((d.types.getD k default).fields).getD j default).moves).length : Nat) : Int))))) || ((!decide (((((d.types.getD k default).fields).getD j default).kind) = 4)) && (!decide (((((((d.types.getD k default).fields).getD j default).moves).length : Nat) : Int) = 0)))
     ·skip
      try simp only [zn] at hc139
      refine zo rfl ?_
      refine zw ?_
      refine za (by kernel_rfl) (fun _ => ?_)
      refine st (zb (v := .int .i64 ((j : Nat) : Int)) rfl ?_)
      have hr140 : InR ((j + 1 : Nat) : Int) := by first | omega | (simp only [lens]; omega)
      refine st (ye (r := ((j + 1 : Nat) : Int)) (k := .i64) (a := ((j : Nat) : Int)) (b := 1) rfl rfl (by rw [show (((j : Nat) : Int) + 1 : Int) = ((j + 1 : Nat) : Int) by first | omega | (simp only [lens]; omega)]; exact zQ hr140) ?_)
      refine st (ze (v := .int .i64 ((j + 1 : Nat) : Int)) rfl ?_)
      refine zf ?_
      exact ⟨_, by omega, j + 1, _, rfl, zp ⟨rfl, rfl, rfl, rfl, trivial⟩, by omega, (xv hm2 (by unfold QC; have h9 := hc139; omega)), hS43⟩
     ·skip
      try simp only [zn] at hc139
      refine zq rfl ?_
      refine zd ?_
      refine za (by kernel_rfl) (fun _ => ?_)
      refine st (ze (v := .bool true) rfl ?_)
      refine zf ?_
      refine zu ?_
      refine ya Tryd.results70 (show _ = (.bool true : Value) from rfl) ?_
      have hS141 : Sep G W Rs w40 := hS43.sel 1 [] (Nat.le_add_left _ _) rfl rfl
      refine ⟨true, rfl, ?_, hS141⟩
      intro h9
      exact absurd h9 (by decide)
   ·skip
    try simp only [zn] at hc39
    refine zq rfl ?_
    refine zd ?_
    refine za (by kernel_rfl) (fun _ => ?_)
    refine st (ze (v := .bool true) rfl ?_)
    refine zf ?_
    refine zu ?_
    refine ya Tryd.results70 (show _ = (.bool true : Value) from rfl) ?_
    have hS142 : Sep G W Rs w22 := hS25.sel 1 [] (Nat.le_add_left _ _) rfl rfl
    refine ⟨true, rfl, ?_, hS142⟩
    intro h9
    exact absurd h9 (by decide)
 ·skip
  try simp only [zn] at hc21
  refine zq rfl ?_
  refine zd ?_
  refine za (by kernel_rfl) (fun _ => ?_)
  refine st (ze (v := .bool true) rfl ?_)
  refine zf ?_
  refine zu ?_
  refine ya Tryd.results70 (show _ = (.bool true : Value) from rfl) ?_
  have hS143 : Sep G W Rs w3 := hS4.sel 1 [] (Nat.le_add_left _ _) rfl rfl
  refine ⟨true, rfl, ?_, hS143⟩
  intro h9
  exact absurd h9 (by decide)

end Go.Proofs.YtlblilbmpdejgaaDoor
/- Steps of the proofs of this seat: part C7. -/
set_option maxRecDepth 8000
namespace Go.Proofs.YtlblilbmpdejgaaDoor
open Go.Proofs Go.RowKit

theorem ZI {d : Option Tmp} {ty : TypeId} {pos : String} {af : Array Edge} {g : Option (Nat × Bool)} {σ : Env} {w : World} {K : Value → World → Prop} {x : Operand} {b o : Nat} (hx : ev σ x = .pointer (some ⟨b, o, none⟩)) (h : K (.pointer (some ⟨b, o + 1, none⟩)) w) : opV Tryd.prog ⟨d, .fieldAddr 79 x 1, ty, pos, af, g⟩ σ w K := zt Tryd.underlying79 rfl rfl (fun w => ⟨0, Tryd.sizeOf3 w⟩) hx h
theorem D_one {G : Nat → Prop} {W w : World} {Rs : List HP} {t : Typ} {dt0 : Value} (hdt0 : RdS W G dt0 t.fields) (ot : t.Ok) {f : Fld} {df0 : Value} (hdf0 : RdS W G df0 f.moves) (of : f.Ok) (hS0 : Sep G W Rs w) : Ret Tryd.prog 71 [.agg (t.cells dt0).toArray, .agg (f.cells df0).toArray] w (fun r w' => ∃ (e : Int), r = (.int .i64 (e) : Value) ∧ (InR e) ∧ (e = 0 → YN t f) ∧ Sep G W Rs w') := by
 have hdt0s : _ * 48 ≤ _ := hdt0.small
 have hdf0s : _ * 32 ≤ _ := hdf0.small
 refine zr (args := [.agg (t.cells dt0).toArray, .agg (f.cells df0).toArray]) Tryd.func71 rfl rfl ?_
 refine zd ?_
 refine za (by kernel_rfl) (fun _ => ?_)
 refine st (yb (v := .agg (t.cells dt0).toArray) rfl ?_)
 intro w3 b2 hn1
 have hS4 := hS0.new hn1
 refine st (yb (v := .agg (f.cells df0).toArray) rfl ?_)
 intro w7 b6 hn5
 have hS8 := hS4.new hn5
 refine st (ze (v := .int .i64 (0)) rfl ?_)
 refine zf ?_
 refine zd ?_
 refine zd ?_
 refine zD (by kernel_rfl) ?_
 refine st (xA rfl ?_)
 refine st (zg (v := .int .i64 (f.kind)) Tryd.isAgg3 rfl (zh (hS8.blk (i := 0) rfl) rfl) ?_)
 refine st (zN (k := .i64) (a := f.kind) (b := 1) rfl rfl ?_)
 refine st (zb (v := .bool (decide (f.kind < 1))) rfl ?_)
 refine stc (V := .pointer (some ⟨b6, 0, none⟩)) rfl rfl (fun hb9 => ?_) ?_
 ·have hl10 := hb9
  have hl10 := of_decide_eq_false hl10
  exact xA rfl ⟨rfl, rfl⟩
 refine stc (V := .int .i64 (f.kind)) rfl rfl (fun hb11 => ?_) ?_
 ·have hl12 := hb11
  have hl12 := of_decide_eq_false hl12
  exact zg (v := .int .i64 (f.kind)) Tryd.isAgg3 (show _ = (.pointer (some ⟨b6, 0, none⟩) : Value) from (if_pos hb11)) (zh (hS8.blk (i := 0) rfl) rfl) ⟨rfl, rfl⟩
 refine stc (V := .bool (decide (4 < f.kind))) rfl rfl (fun hb13 => ?_) ?_
 ·have hl14 := hb13
  have hl14 := of_decide_eq_false hl14
  exact yP (k := .i64) (a := f.kind) (b := 4) (show _ = (.int .i64 (f.kind) : Value) from (if_pos hb13)) rfl ⟨rfl, rfl⟩
 refine st (zA (b := decide (f.kind < 1)) (b' := decide (4 < f.kind)) rfl (fun hbp => (show _ = (.bool (decide (4 < f.kind)) : Value) from (if_pos hbp))) ?_)
 refine zf ?_
 cases hc15 : (decide (f.kind < 1)) || (decide (4 < f.kind))
 ·skip
  try simp only [zn] at hc15
  refine zo rfl ?_
  refine zw ?_
  refine zd ?_
  refine zD (by kernel_rfl) ?_
  refine st (ZI rfl ?_)
  refine st (zg (v := .int .i64 (f.policy)) Tryd.isAgg3 rfl (zh (hS8.blk (i := 0) rfl) rfl) ?_)
  refine st (yu (k := .i64) (a := f.policy) (b := 1) rfl rfl ?_)
  refine st (zb (v := .bool (decide (f.policy = 1))) rfl ?_)
  refine stc (V := .pointer (some ⟨b6, 1, none⟩)) rfl rfl (fun hb16 => ?_) ?_
  ·have hl17 := hb16
   have hl17 := of_decide_eq_false hl17
   exact ZI rfl ⟨rfl, rfl⟩
  refine stc (V := .int .i64 (f.policy)) rfl rfl (fun hb18 => ?_) ?_
  ·have hl19 := hb18
   have hl19 := of_decide_eq_false hl19
   exact zg (v := .int .i64 (f.policy)) Tryd.isAgg3 (show _ = (.pointer (some ⟨b6, 1, none⟩) : Value) from (if_pos hb18)) (zh (hS8.blk (i := 0) rfl) rfl) ⟨rfl, rfl⟩
  refine stc (V := .bool (decide (f.policy = 2))) rfl rfl (fun hb20 => ?_) ?_
  ·have hl21 := hb20
   have hl21 := of_decide_eq_false hl21
   exact yu (k := .i64) (a := f.policy) (b := 2) (show _ = (.int .i64 (f.policy) : Value) from (if_pos hb20)) rfl ⟨rfl, rfl⟩
  refine stc (V := .bool (decide (f.policy = 2))) rfl rfl (fun hb22 => ?_) ?_
  ·have hl23 := hb22
   have hl23 := of_decide_eq_false hl23
   exact zb (v := .bool (decide (f.policy = 2))) (show _ = (.bool (decide (f.policy = 2)) : Value) from (if_pos hb22)) ⟨rfl, rfl⟩
  refine yB (V := .pointer (some ⟨b6, 0, none⟩)) rfl rfl (fun hb24 => ?_) ?_
  ·have hl25 := hb24.1
   have hl25 := of_decide_eq_false hl25
   have hl26 := hb24.2
   have hl26 := of_decide_eq_true hl26
   exact xA rfl ⟨rfl, rfl⟩
  refine yB (V := .int .i64 (f.kind)) rfl rfl (fun hb27 => ?_) ?_
  ·have hl28 := hb27.1
   have hl28 := of_decide_eq_false hl28
   have hl29 := hb27.2
   have hl29 := of_decide_eq_true hl29
   exact zg (v := .int .i64 (f.kind)) Tryd.isAgg3 (show _ = (.pointer (some ⟨b6, 0, none⟩) : Value) from (if_pos ⟨hb27.1, hb27.2⟩)) (zh (hS8.blk (i := 0) rfl) rfl) ⟨rfl, rfl⟩
  refine yB (V := .bool (!decide (f.kind = 1))) rfl rfl (fun hb30 => ?_) ?_
  ·have hl31 := hb30.1
   have hl31 := of_decide_eq_false hl31
   have hl32 := hb30.2
   have hl32 := of_decide_eq_true hl32
   exact yz (k := .i64) (a := f.kind) (b := 1) (show _ = (.int .i64 (f.kind) : Value) from (if_pos ⟨hb30.1, hb30.2⟩)) rfl ⟨rfl, rfl⟩
  refine stc (V := .bool ((decide (f.policy = 2)) && (!decide (f.kind = 1)))) rfl rfl (fun hb33 => ?_) ?_
  ·have hl34 := hb33
   have hl34 := of_decide_eq_false hl34
   exact zK (b := decide (f.policy = 2)) (b' := !decide (f.kind = 1)) (show _ = (.bool (decide (f.policy = 2)) : Value) from (if_pos hb33)) (fun hbp => (show _ = (.bool (!decide (f.kind = 1)) : Value) from (if_pos ⟨hb33, hbp⟩))) ⟨rfl, rfl⟩
  refine st (zA (b := decide (f.policy = 1)) (b' := (decide (f.policy = 2)) && (!decide (f.kind = 1))) rfl (fun hbp => (show _ = (.bool ((decide (f.policy = 2)) && (!decide (f.kind = 1))) : Value) from (if_pos hbp))) ?_)
  refine st (zb (v := .bool ((decide (f.policy = 1)) || ((decide (f.policy = 2)) && (!decide (f.kind = 1))))) rfl ?_)
  refine stc (V := .pointer (some ⟨b6, 1, none⟩)) rfl rfl (fun hb35 => ?_) ?_
  ·have hl36 := hb35
   try simp only [zn] at hl36
   exact ZI rfl ⟨rfl, rfl⟩
  refine stc (V := .int .i64 (f.policy)) rfl rfl (fun hb37 => ?_) ?_
  ·have hl38 := hb37
   try simp only [zn] at hl38
   exact zg (v := .int .i64 (f.policy)) Tryd.isAgg3 (show _ = (.pointer (some ⟨b6, 1, none⟩) : Value) from (if_pos hb37)) (zh (hS8.blk (i := 0) rfl) rfl) ⟨rfl, rfl⟩
  refine stc (V := .bool (decide (f.policy = 3))) rfl rfl (fun hb39 => ?_) ?_
  ·have hl40 := hb39
   try simp only [zn] at hl40
   exact yu (k := .i64) (a := f.policy) (b := 3) (show _ = (.int .i64 (f.policy) : Value) from (if_pos hb39)) rfl ⟨rfl, rfl⟩
  refine stc (V := .bool (decide (f.policy = 3))) rfl rfl (fun hb41 => ?_) ?_
  ·have hl42 := hb41
   try simp only [zn] at hl42
   exact zb (v := .bool (decide (f.policy = 3))) (show _ = (.bool (decide (f.policy = 3)) : Value) from (if_pos hb41)) ⟨rfl, rfl⟩
  refine yB (V := .pointer (some ⟨b6, 0, none⟩)) rfl rfl (fun hb43 => ?_) ?_
  ·have hl44 := hb43.1
   try simp only [zn] at hl44
   have hl45 := hb43.2
   have hl45 := of_decide_eq_true hl45
   exact xA rfl ⟨rfl, rfl⟩
  refine yB (V := .int .i64 (f.kind)) rfl rfl (fun hb46 => ?_) ?_
  ·have hl47 := hb46.1
   try simp only [zn] at hl47
   have hl48 := hb46.2
   have hl48 := of_decide_eq_true hl48
   exact zg (v := .int .i64 (f.kind)) Tryd.isAgg3 (show _ = (.pointer (some ⟨b6, 0, none⟩) : Value) from (if_pos ⟨hb46.1, hb46.2⟩)) (zh (hS8.blk (i := 0) rfl) rfl) ⟨rfl, rfl⟩
  refine yB (V := .bool (decide (f.kind = 2))) rfl rfl (fun hb49 => ?_) ?_
  ·have hl50 := hb49.1
   try simp only [zn] at hl50
   have hl51 := hb49.2
   have hl51 := of_decide_eq_true hl51
   exact yu (k := .i64) (a := f.kind) (b := 2) (show _ = (.int .i64 (f.kind) : Value) from (if_pos ⟨hb49.1, hb49.2⟩)) rfl ⟨rfl, rfl⟩
  refine stc (V := .bool ((decide (f.policy = 3)) && (decide (f.kind = 2)))) rfl rfl (fun hb52 => ?_) ?_
  ·have hl53 := hb52
   try simp only [zn] at hl53
   exact zK (b := decide (f.policy = 3)) (b' := decide (f.kind = 2)) (show _ = (.bool (decide (f.policy = 3)) : Value) from (if_pos hb52)) (fun hbp => (show _ = (.bool (decide (f.kind = 2)) : Value) from (if_pos ⟨hb52, hbp⟩))) ⟨rfl, rfl⟩
  refine st (zA (b := (decide (f.policy = 1)) || ((decide (f.policy = 2)) && (!decide (f.kind = 1)))) (b' := (decide (f.policy = 3)) && (decide (f.kind = 2))) rfl (fun hbp => (show _ = (.bool ((decide (f.policy = 3)) && (decide (f.kind = 2))) : Value) from (if_pos hbp))) ?_)
  refine st (ze (v := .bool (((decide (f.policy = 1)) || ((decide (f.policy = 2)) && (!decide (f.kind = 1)))) || ((decide (f.policy = 3)) && (decide (f.kind = 2))))) rfl ?_)
  refine zf ?_
  refine zd ?_
  refine zd ?_
  refine zD (by kernel_rfl) ?_
  refine st (zb (v := .bool (((decide (f.policy = 1)) || ((decide (f.policy = 2)) && (!decide (f.kind = 1)))) || ((decide (f.policy = 3)) && (decide (f.kind = 2))))) rfl ?_)
  refine st (yJ (a := ((decide (f.policy = 1)) || ((decide (f.policy = 2)) && (!decide (f.kind = 1)))) || ((decide (f.policy = 3)) && (decide (f.kind = 2)))) rfl ?_)
  refine st (zb (v := .bool (!(((decide (f.policy = 1)) || ((decide (f.policy = 2)) && (!decide (f.kind = 1)))) || ((decide (f.policy = 3)) && (decide (f.kind = 2)))))) rfl ?_)
  refine stc (V := .pointer (some ⟨b6, 2, none⟩)) rfl rfl (fun hb54 => ?_) ?_
  ·have hl55 := hb54
   try simp only [zn] at hl55
   exact Wp rfl ⟨rfl, rfl⟩
  refine stc (V := .bool (f.floor)) rfl rfl (fun hb56 => ?_) ?_
  ·have hl57 := hb56
   try simp only [zn] at hl57
   exact zg (v := .bool (f.floor)) Tryd.isAgg4 (show _ = (.pointer (some ⟨b6, 2, none⟩) : Value) from (if_pos hb56)) (zh (hS8.blk (i := 0) rfl) rfl) ⟨rfl, rfl⟩
  refine stc (V := .bool (f.floor)) rfl rfl (fun hb58 => ?_) ?_
  ·have hl59 := hb58
   try simp only [zn] at hl59
   exact zb (v := .bool (f.floor)) (show _ = (.bool (f.floor) : Value) from (if_pos hb58)) ⟨rfl, rfl⟩
  refine yB (V := .pointer (some ⟨b6, 0, none⟩)) rfl rfl (fun hb60 => ?_) ?_
  ·have hl61 := hb60.1
   try simp only [zn] at hl61
   have hl62 := hb60.2
   exact xA rfl ⟨rfl, rfl⟩
  refine yB (V := .int .i64 (f.kind)) rfl rfl (fun hb63 => ?_) ?_
  ·have hl64 := hb63.1
   try simp only [zn] at hl64
   have hl65 := hb63.2
   exact zg (v := .int .i64 (f.kind)) Tryd.isAgg3 (show _ = (.pointer (some ⟨b6, 0, none⟩) : Value) from (if_pos ⟨hb63.1, hb63.2⟩)) (zh (hS8.blk (i := 0) rfl) rfl) ⟨rfl, rfl⟩
  refine yB (V := .bool (!decide (f.kind = 1))) rfl rfl (fun hb66 => ?_) ?_
  ·have hl67 := hb66.1
   try simp only [zn] at hl67
   have hl68 := hb66.2
   exact yz (k := .i64) (a := f.kind) (b := 1) (show _ = (.int .i64 (f.kind) : Value) from (if_pos ⟨hb66.1, hb66.2⟩)) rfl ⟨rfl, rfl⟩
  refine stc (V := .bool (f.floor && (!decide (f.kind = 1)))) rfl rfl (fun hb69 => ?_) ?_
  ·have hl70 := hb69
   try simp only [zn] at hl70
   exact zK (b := f.floor) (b' := !decide (f.kind = 1)) (show _ = (.bool (f.floor) : Value) from (if_pos hb69)) (fun hbp => (show _ = (.bool (!decide (f.kind = 1)) : Value) from (if_pos ⟨hb69, hbp⟩))) ⟨rfl, rfl⟩
  refine st (zA (b := !(((decide (f.policy = 1)) || ((decide (f.policy = 2)) && (!decide (f.kind = 1)))) || ((decide (f.policy = 3)) && (decide (f.kind = 2))))) (b' := f.floor && (!decide (f.kind = 1))) rfl (fun hbp => (show _ = (.bool (f.floor && (!decide (f.kind = 1))) : Value) from (if_pos hbp))) ?_)
  refine zf ?_
  cases hc71 : (!(((decide (f.policy = 1)) || ((decide (f.policy = 2)) && (!decide (f.kind = 1)))) || ((decide (f.policy = 3)) && (decide (f.kind = 2))))) || (f.floor && (!decide (f.kind = 1)))
  ·skip
   try simp only [zn] at hc71
   have hfl : f.floor = true → f.kind = 1 := by
     intro h9
     rcases hc71.2 with h7 | h7
     · rw [h9] at h7; cases h7
     · exact h7
   refine zo rfl ?_
   refine zw ?_
   refine zd ?_
   refine zd ?_
   refine za (by kernel_rfl) (fun _ => ?_)
   refine st (ze (v := .int .i64 (0)) rfl ?_)
   refine zf ?_
   refine zx ?_
   refine yn (fun mq σ wq => ∃ (k : Nat) (ρ : Env), mq = f.moves.length - k ∧ σ = yp ρ [(2, .pointer (some ⟨b2, 0, none⟩)), (3, .pointer (some ⟨b6, 0, none⟩)), (6, .int .i64 ((k : Nat) : Int))] ∧ (k ≤ f.moves.length) ∧ Sep G W ((Blk b6 (f.cells df0).toArray 79) :: (Blk b2 (t.cells dt0).toArray 33) :: Rs) wq) ⟨0, _, rfl, zp ⟨rfl, rfl, rfl, trivial⟩, Nat.zero_le _, hS8⟩ ?_
   rintro m73 σ74 w72 ⟨k, ρl1, rfl, rfl, hkk, hS75⟩
   refine zd ?_
   refine zd ?_
   refine za (by kernel_rfl) (fun _ => ?_)
   refine st (zb (v := .int .i64 ((k : Nat) : Int)) rfl ?_)
   refine st (yE rfl ?_)
   refine st (zg (v := df0) Tryd.isAgg77 rfl (zh (hS75.blk (i := 0) rfl) rfl) ?_)
   refine st (zJ (n := f.moves.length) Tryd.underlying77 rfl hdf0.sl ?_)
   refine st (zN (k := .i64) (a := ((k : Nat) : Int)) (b := ((f.moves.length : Nat) : Int)) rfl rfl ?_)
   refine zf ?_
   cases hc76 : decide (((k : Nat) : Int) < ((f.moves.length : Nat) : Int))
   ·skip
    have hc76 := of_decide_eq_false hc76
    refine zo rfl ?_
    refine ym ?_
    refine yd ?_
    refine zd ?_
    refine zd ?_
    refine za (by kernel_rfl) (fun _ => ?_)
    refine st (ze (v := .int .i64 (0)) rfl ?_)
    refine zf ?_
    refine zx ?_
    refine yn (fun mq σ wq => ∃ (j : Nat) (ρ : Env), mq = f.moves.length - j ∧ σ = yp ρ [(2, .pointer (some ⟨b2, 0, none⟩)), (3, .pointer (some ⟨b6, 0, none⟩)), (8, .int .i64 ((j : Nat) : Int))] ∧ (j ≤ f.moves.length) ∧ (∀ i, i < j → (f.moves.getD i default).need = -1 ∨ yf t (f.moves.getD i default).need = 1) ∧ Sep G W ((Blk b6 (f.cells df0).toArray 79) :: (Blk b2 (t.cells dt0).toArray 33) :: Rs) wq) ⟨0, _, rfl, zp ⟨rfl, rfl, rfl, trivial⟩, Nat.zero_le _, (fun i h => absurd h (Nat.not_lt_zero i)), hS75⟩ ?_
    rintro m78 σ79 w77 ⟨j, ρl2, rfl, rfl, hkj, hm, hS80⟩
    refine zd ?_
    refine zd ?_
    refine za (by kernel_rfl) (fun _ => ?_)
    refine st (zb (v := .int .i64 ((j : Nat) : Int)) rfl ?_)
    refine st (yE rfl ?_)
    refine st (zg (v := df0) Tryd.isAgg77 rfl (zh (hS80.blk (i := 0) rfl) rfl) ?_)
    refine st (zJ (n := f.moves.length) Tryd.underlying77 rfl hdf0.sl ?_)
    refine st (zN (k := .i64) (a := ((j : Nat) : Int)) (b := ((f.moves.length : Nat) : Int)) rfl rfl ?_)
    refine zf ?_
    cases hc81 : decide (((j : Nat) : Int) < ((f.moves.length : Nat) : Int))
    ·skip
     have hc81 := of_decide_eq_false hc81
     refine zo rfl ?_
     refine ym ?_
     refine yd ?_
     refine zd ?_
     refine za (by kernel_rfl) (fun _ => ?_)
     refine st (ze (v := .int .i64 (0)) rfl ?_)
     refine zf ?_
     refine zu ?_
     refine ya Tryd.results71 (show _ = (.int .i64 (0) : Value) from rfl) ?_
     have hS82 : Sep G W Rs w77 := hS80.sel 2 [] (Nat.le_add_left _ _) rfl rfl
     refine ⟨0, rfl, ?_, ?_, hS82⟩
     · decide
     · intro h9
       exact ⟨by omega, hfl, fun i hi => hm i (by omega)⟩
    ·skip
     have hc81 := of_decide_eq_true hc81
     refine zq rfl ?_
     refine zw ?_
     refine zd ?_
     refine zx ?_
     refine zd ?_
     refine zP ((fun TT pp0 => WF [fun vals wq => Sep G W (pp0 :: TT) wq, fun vals wq => (vals 15 = (if (!decide (((f.moves.getD j default).need) = (-1))) = true then (.int .i64 ((yf t ((f.moves.getD j default).need))) : Value) else undef)) ∧ Sep G W (pp0 :: TT) wq]) ((Blk b2 (t.cells dt0).toArray 33) :: Rs) (Blk b6 (f.cells df0).toArray 79)) (AF [Vl 0 (.pointer (some ⟨b6, 3, none⟩)), Vl 1 (df0), Vl 2 (.int .i64 ((j : Nat) : Int)), Vl 3 (.pointer (some ⟨sb df0, so df0 + j * 4, none⟩)), Vl 4 (.pointer (some ⟨sb df0, so df0 + j * 4 + 2, none⟩)), Vl 5 (.int .i64 ((f.moves.getD j default).need)), Vl 6 (.bool (!decide (((f.moves.getD j default).need) = (-1)))), Vl 7 (.bool (!decide (((f.moves.getD j default).need) = (-1)))), Vl 8 (if (!decide (((f.moves.getD j default).need) = (-1))) = true then .agg (t.cells dt0).toArray else undef), Vl 9 (if (!decide (((f.moves.getD j default).need) = (-1))) = true then .pointer (some ⟨b6, 3, none⟩) else undef), Vl 10 (if (!decide (((f.moves.getD j default).need) = (-1))) = true then df0 else undef), Vl 11 (if (!decide (((f.moves.getD j default).need) = (-1))) = true then .int .i64 ((j : Nat) : Int) else undef), Vl 12 (if (!decide (((f.moves.getD j default).need) = (-1))) = true then .pointer (some ⟨sb df0, so df0 + j * 4, none⟩) else undef), Vl 13 (if (!decide (((f.moves.getD j default).need) = (-1))) = true then .pointer (some ⟨sb df0, so df0 + j * 4 + 2, none⟩) else undef), Vl 14 (if (!decide (((f.moves.getD j default).need) = (-1))) = true then .int .i64 ((f.moves.getD j default).need) else undef), fun _ => True, Vl 16 (if (!decide (((f.moves.getD j default).need) = (-1))) = true then .bool (!decide ((yf t ((f.moves.getD j default).need)) = 1)) else undef), Vl 17 (.bool ((!decide (((f.moves.getD j default).need) = (-1))) && (!decide ((yf t ((f.moves.getD j default).need)) = 1))))]) [[], [0], [], [0, 1, 2], [0, 1, 2, 3], [0, 1, 2, 3, 4], [0, 1, 2, 3, 4, 5], [0, 1, 2, 3, 4, 5, 6], [0, 1, 2, 3, 4, 5, 6, 7], [0, 1, 2, 3, 4, 5, 6, 7], [0, 1, 2, 3, 4, 5, 6, 7, 9], [0, 1, 2, 3, 4, 5, 6, 7], [0, 1, 2, 3, 4, 5, 6, 7, 9, 10, 11], [0, 1, 2, 3, 4, 5, 6, 7, 9, 10, 11, 12], [0, 1, 2, 3, 4, 5, 6, 7, 9, 10, 11, 12, 13], [0, 1, 2, 3, 4, 5, 6, 7, 8, 9, 10, 11, 12, 13, 14], [0, 1, 2, 3, 4, 5, 6, 7, 8, 9, 10, 11, 12, 13, 14, 15], [0, 1, 2, 3, 4, 5, 6, 7, 8, 9, 10, 11, 12, 13, 14, 15, 16]] [15] [(0, 0), (0, 0), (0, 0), (0, 0), (0, 0), (0, 0), (0, 0), (0, 0), (0, 0), (0, 0), (0, 0), (0, 0), (0, 0), (0, 0), (0, 0), (0, 0), (1, 1), (1, 1)] (by kernel_rfl) (by kernel_rfl) (by kernel_rfl) rfl (by kernel_rfl) (by kernel_rfl) (fun _ h1 h2 h3 h4 _ => hS80.same h1 h2 h3 h4) ?_ (yg ⟨dA, dA, dA, dA, dA, dA, dA, dA, dA, dA, dA, dA, dA, dA, dA, dT, dA, dA, trivial⟩) ⟨?_, ?_, ?_, ?_, ?_, ?_, ?_, ?_, ?_, ?_, ?_, ?_, ?_, ?_, ?_, ?_, ?_, ?_, trivial⟩ ?_
     ·intro k vals vals' w hv h
      have e : ∀ j ∈ ([15] : List Nat), vals' j = vals j := hv
      match k, h with
      | 0, h => exact h
      | 1, h => exact (by simpa only [WF, List.getElem?_cons_zero, List.getElem?_cons_succ, e 15 (by decide)] using h)
      | _ + 2, _ => trivial
     ·intro k258 vals w259 h262 h263 hW261 hA260
      refine obl rfl ?_
      exact yE rfl (fun vals' hv _ => ⟨rfl, hv⟩)
     ·intro k264 vals w265 h268 h269 hW267 hA266
      obtain rfl : k264 = 0 := Nat.le_antisymm h269 h268
      have hS270 : Sep _ _ _ _ := hW267
      have e271 := hA266 0 (by decide)
      refine obl rfl ?_
      exact zg (v := df0) Tryd.isAgg77 e271 (zh (hS270.blk (i := 0) rfl) rfl) (fun vals' hv _ => ⟨rfl, hv⟩)
     ·intro k272 vals w273 h276 h277 hW275 hA274
      refine obl rfl ?_
      exact zb (v := .int .i64 ((j : Nat) : Int)) rfl (fun vals' hv _ => ⟨rfl, hv⟩)
     ·intro k278 vals w279 h282 h283 hW281 hA280
      obtain rfl : k278 = 0 := Nat.le_antisymm h283 h282
      have hS284 : Sep _ _ _ _ := hW281
      have e285 := hA280 1 (by decide)
      have e286 := hA280 2 (by decide)
      refine obl rfl ?_
      have hi287 : j < f.moves.length := (by first | omega | (simp only [lens]; omega))
      exact zm (k := 4) (i := j) Tryd.underlying77 Tryd.sizeOf115 e285 hdf0.sl e286 hi287 (fun vals' hv _ => ⟨rfl, hv⟩)
     ·intro k288 vals w289 h292 h293 hW291 hA290
      have e294 := hA290 3 (by decide)
      refine obl rfl ?_
      exact ZB e294 (fun vals' hv _ => ⟨rfl, hv⟩)
     ·intro k295 vals w296 h299 h300 hW298 hA297
      obtain rfl : k295 = 0 := Nat.le_antisymm h300 h299
      have hS301 : Sep _ _ _ _ := hW298
      have e302 := hA297 4 (by decide)
      refine obl rfl ?_
      have hi304 : j < f.moves.length := (by first | omega | (simp only [lens]; omega))
      obtain ⟨hce303, hoke303⟩ := hdf0.mv hi304
      rw [← zk default hi304] at hce303 hoke303
      have hcw305 := hS301.cells hce303 (hdf0.foot (ne_of_lt hi304))
      exact zg (v := .int .i64 ((f.moves.getD j default).need)) Tryd.isAgg3 e302 (hcw305.get (j := 2) rfl) (fun vals' hv _ => ⟨rfl, hv⟩)
     ·intro k306 vals w307 h310 h311 hW309 hA308
      obtain rfl : k306 = 0 := Nat.le_antisymm h311 h310
      have hS312 : Sep _ _ _ _ := hW309
      have e313 := hA308 5 (by decide)
      refine obl rfl ?_
      exact yz (k := .i64) (a := (f.moves.getD j default).need) (b := -1) e313 rfl (fun vals' hv _ => ⟨rfl, hv⟩)
     ·intro k314 vals w315 h318 h319 hW317 hA316
      have e320 := hA316 6 (by decide)
      refine obl rfl ?_
      exact zb (v := .bool (!decide (((f.moves.getD j default).need) = (-1)))) e320 (fun vals' hv _ => ⟨rfl, hv⟩)
     ·intro k321 vals w322 h325 h326 hW324 hA323
      obtain rfl : k321 = 0 := Nat.le_antisymm h326 h325
      have hS327 : Sep _ _ _ _ := hW324
      have e328 := hA323 7 (by decide)
      refine zC rfl rfl e328 (fun hb329 => ?_) (fun hb329 => fun vals' hv _ => ⟨trivial, hv.trans (if_neg hb329).symm⟩)
      have hl330 := hb329
      have hl330 := zY hl330
      exact zl (k := 1) Tryd.isAgg33 Tryd.sizeOf33 rfl rfl (CellsAt.all (hS327.blk (i := 1) rfl)) (fun vals' hv _ => ⟨rfl, hv.trans (if_pos hb329).symm⟩)
     ·intro k331 vals w332 h335 h336 hW334 hA333
      have e337 := hA333 7 (by decide)
      refine zC rfl rfl e337 (fun hb338 => ?_) (fun hb338 => fun vals' hv _ => ⟨trivial, hv.trans (if_neg hb338).symm⟩)
      have hl339 := hb338
      have hl339 := zY hl339
      exact yE rfl (fun vals' hv _ => ⟨rfl, hv.trans (if_pos hb338).symm⟩)
     ·intro k340 vals w341 h344 h345 hW343 hA342
      obtain rfl : k340 = 0 := Nat.le_antisymm h345 h344
      have hS346 : Sep _ _ _ _ := hW343
      have e347 := hA342 7 (by decide)
      have e348 : vals 9 = (if (!decide (((f.moves.getD j default).need) = (-1))) = true then (.pointer (some ⟨b6, 3, none⟩) : Value) else undef) := hA342 9 (by decide)
      refine zC rfl rfl e347 (fun hb349 => ?_) (fun hb349 => fun vals' hv _ => ⟨trivial, hv.trans (if_neg hb349).symm⟩)
      have hl350 := hb349
      have hl350 := zY hl350
      exact zg (v := df0) Tryd.isAgg77 (show _ = (.pointer (some ⟨b6, 3, none⟩) : Value) from (Eq.trans e348 (if_pos hb349))) (zh (hS346.blk (i := 0) rfl) rfl) (fun vals' hv _ => ⟨rfl, hv.trans (if_pos hb349).symm⟩)
     ·intro k351 vals w352 h355 h356 hW354 hA353
      have e357 := hA353 7 (by decide)
      refine zC rfl rfl e357 (fun hb358 => ?_) (fun hb358 => fun vals' hv _ => ⟨trivial, hv.trans (if_neg hb358).symm⟩)
      have hl359 := hb358
      have hl359 := zY hl359
      exact zb (v := .int .i64 ((j : Nat) : Int)) rfl (fun vals' hv _ => ⟨rfl, hv.trans (if_pos hb358).symm⟩)
     ·intro k360 vals w361 h364 h365 hW363 hA362
      obtain rfl : k360 = 0 := Nat.le_antisymm h365 h364
      have hS366 : Sep _ _ _ _ := hW363
      have e367 := hA362 7 (by decide)
      have e368 : vals 10 = (if (!decide (((f.moves.getD j default).need) = (-1))) = true then (df0 : Value) else undef) := hA362 10 (by decide)
      have e369 : vals 11 = (if (!decide (((f.moves.getD j default).need) = (-1))) = true then (.int .i64 ((j : Nat) : Int) : Value) else undef) := hA362 11 (by decide)
      refine zC rfl rfl e367 (fun hb370 => ?_) (fun hb370 => fun vals' hv _ => ⟨trivial, hv.trans (if_neg hb370).symm⟩)
      have hl371 := hb370
      have hl371 := zY hl371
      have hi372 : j < f.moves.length := (by first | omega | (simp only [lens]; omega))
      exact zm (k := 4) (i := j) Tryd.underlying77 Tryd.sizeOf115 (show _ = (df0 : Value) from (Eq.trans e368 (if_pos hb370))) hdf0.sl (show _ = (.int .i64 ((j : Nat) : Int) : Value) from (Eq.trans e369 (if_pos hb370))) hi372 (fun vals' hv _ => ⟨rfl, hv.trans (if_pos hb370).symm⟩)
     ·intro k373 vals w374 h377 h378 hW376 hA375
      have e379 := hA375 7 (by decide)
      have e380 : vals 12 = (if (!decide (((f.moves.getD j default).need) = (-1))) = true then (.pointer (some ⟨sb df0, so df0 + j * 4, none⟩) : Value) else undef) := hA375 12 (by decide)
      refine zC rfl rfl e379 (fun hb381 => ?_) (fun hb381 => fun vals' hv _ => ⟨trivial, hv.trans (if_neg hb381).symm⟩)
      have hl382 := hb381
      have hl382 := zY hl382
      exact ZB (show _ = (.pointer (some ⟨sb df0, so df0 + j * 4, none⟩) : Value) from (Eq.trans e380 (if_pos hb381))) (fun vals' hv _ => ⟨rfl, hv.trans (if_pos hb381).symm⟩)
     ·intro k383 vals w384 h387 h388 hW386 hA385
      obtain rfl : k383 = 0 := Nat.le_antisymm h388 h387
      have hS389 : Sep _ _ _ _ := hW386
      have e390 := hA385 7 (by decide)
      have e391 : vals 13 = (if (!decide (((f.moves.getD j default).need) = (-1))) = true then (.pointer (some ⟨sb df0, so df0 + j * 4 + 2, none⟩) : Value) else undef) := hA385 13 (by decide)
      refine zC rfl rfl e390 (fun hb392 => ?_) (fun hb392 => fun vals' hv _ => ⟨trivial, hv.trans (if_neg hb392).symm⟩)
      have hl393 := hb392
      have hl393 := zY hl393
      have hi395 : j < f.moves.length := (by first | omega | (simp only [lens]; omega))
      obtain ⟨hce394, hoke394⟩ := hdf0.mv hi395
      rw [← zk default hi395] at hce394 hoke394
      have hcw396 := hS389.cells hce394 (hdf0.foot (ne_of_lt hi395))
      exact zg (v := .int .i64 ((f.moves.getD j default).need)) Tryd.isAgg3 (show _ = (.pointer (some ⟨sb df0, so df0 + j * 4 + 2, none⟩) : Value) from (Eq.trans e391 (if_pos hb392))) (hcw396.get (j := 2) rfl) (fun vals' hv _ => ⟨rfl, hv.trans (if_pos hb392).symm⟩)
     ·intro k222 vals w223 h226 h227 hW225 hA224
      obtain rfl : k222 = 0 := Nat.le_antisymm h227 h226
      have hS228 : Sep _ _ _ _ := hW225
      have e229 := hA224 7 (by decide)
      have e230 : vals 8 = (if (!decide (((f.moves.getD j default).need) = (-1))) = true then (.agg (t.cells dt0).toArray : Value) else undef) := hA224 8 (by decide)
      have e231 : vals 14 = (if (!decide (((f.moves.getD j default).need) = (-1))) = true then (.int .i64 ((f.moves.getD j default).need) : Value) else undef) := hA224 14 (by decide)
      refine zC rfl rfl e229 (fun hb232 => ?_) (fun hb232 vals' hv hv' => ?_)
      ·skip
       have hl233 := hb232
       have hl233 := zY hl233
       have hi235 : j < f.moves.length := (by first | omega | (simp only [lens]; omega))
       obtain ⟨hce234, hoke234⟩ := hdf0.mv hi235
       rw [← zk default hi235] at hce234 hoke234
       have hcw236 := hS228.cells hce234 (hdf0.foot (ne_of_lt hi235))
       refine (zv (f := 73) (vals := [.agg (t.cells dt0).toArray, .int .i64 ((f.moves.getD j default).need)]) (cap := []) rfl (xj ⟨(show _ = (.agg (t.cells dt0).toArray : Value) from (Eq.trans e230 (if_pos hb232))), (show _ = (.int .i64 ((f.moves.getD j default).need) : Value) from (Eq.trans e231 (if_pos hb232))), trivial⟩) Tryd.call73 (Ul (t := t) (n := (f.moves.getD j default).need) hdt0 ot hoke234.need hS228) ?_)
       rintro _ w237 ⟨rfl, hS238⟩
       intro vals' hv hv'
       refine ⟨?_, trivial⟩
       show (vals' 15 = (if (!decide (((f.moves.getD j default).need) = (-1))) = true then (.int .i64 ((yf t ((f.moves.getD j default).need))) : Value) else undef)) ∧ Sep G W ((Blk b6 (f.cells df0).toArray 79) :: (Blk b2 (t.cells dt0).toArray 33) :: Rs) w237
       exact ⟨(hv.trans (if_pos hb232).symm), hS238⟩
      ·skip
       refine ⟨?_, trivial⟩
       show (vals' 15 = (if (!decide (((f.moves.getD j default).need) = (-1))) = true then (.int .i64 ((yf t ((f.moves.getD j default).need))) : Value) else undef)) ∧ Sep G W ((Blk b6 (f.cells df0).toArray 79) :: (Blk b2 (t.cells dt0).toArray 33) :: Rs) w223
       exact ⟨(hv.trans (if_neg hb232).symm), hS228⟩
     ·intro k397 vals w398 h401 h402 hW400 hA399
      obtain rfl : k397 = 1 := Nat.le_antisymm h402 h401
      obtain ⟨he239, hS403⟩ := hW400
      have e404 := hA399 7 (by decide)
      refine zC rfl rfl e404 (fun hb405 => ?_) (fun hb405 => fun vals' hv _ => ⟨trivial, hv.trans (if_neg hb405).symm⟩)
      have hl406 := hb405
      have hl406 := zY hl406
      exact yz (k := .i64) (a := (yf t ((f.moves.getD j default).need))) (b := 1) (show _ = (.int .i64 ((yf t ((f.moves.getD j default).need))) : Value) from (Eq.trans he239 (if_pos hb405))) rfl (fun vals' hv _ => ⟨rfl, hv.trans (if_pos hb405).symm⟩)
     ·intro k407 vals w408 h411 h412 hW410 hA409
      have e413 := hA409 7 (by decide)
      have e414 : vals 16 = (if (!decide (((f.moves.getD j default).need) = (-1))) = true then (.bool (!decide ((yf t ((f.moves.getD j default).need)) = 1)) : Value) else undef) := hA409 16 (by decide)
      refine obl rfl ?_
      exact zK (b := !decide (((f.moves.getD j default).need) = (-1))) (b' := !decide ((yf t ((f.moves.getD j default).need)) = 1)) e413 (fun hbp => (show _ = (.bool (!decide ((yf t ((f.moves.getD j default).need)) = 1)) : Value) from (Eq.trans e414 (if_pos hbp)))) (fun vals' hv _ => ⟨rfl, hv⟩)
     intro vals w415 hW416 hA417
     obtain ⟨he239, hS418⟩ := hW416
     have e419 := hA417 17 (by decide)
     refine yh (kv := [(2, .pointer (some ⟨b2, 0, none⟩)), (3, .pointer (some ⟨b6, 0, none⟩)), (8, .int .i64 ((j : Nat) : Int)), (81, .int .i64 ((j : Nat) : Int)), (82, .pointer (some ⟨b6, 3, none⟩)), (83, df0), (84, .int .i64 ((f.moves.length : Nat) : Int)), (85, .bool true), (105, .bool ((!decide (((f.moves.getD j default).need) = (-1))) && (!decide ((yf t ((f.moves.getD j default).need)) = 1))))]) ⟨rfl, rfl, rfl, rfl, rfl, rfl, rfl, rfl, (by exact e419), trivial⟩ (fun ρw415 => ?_)
     refine zf ?_
     cases hc420 : (!decide (((f.moves.getD j default).need) = (-1))) && (!decide ((yf t ((f.moves.getD j default).need)) = 1))
     ·skip
      try simp only [zn] at hc420
      refine zo rfl ?_
      refine zw ?_
      refine za (by kernel_rfl) (fun _ => ?_)
      refine st (zb (v := .int .i64 ((j : Nat) : Int)) rfl ?_)
      have hr421 : InR ((j + 1 : Nat) : Int) := by first | omega | (simp only [lens]; omega)
      refine st (ye (r := ((j + 1 : Nat) : Int)) (k := .i64) (a := ((j : Nat) : Int)) (b := 1) rfl rfl (by rw [show (((j : Nat) : Int) + 1 : Int) = ((j + 1 : Nat) : Int) by first | omega | (simp only [lens]; omega)]; exact zQ hr421) ?_)
      refine st (ze (v := .int .i64 ((j + 1 : Nat) : Int)) rfl ?_)
      refine zf ?_
      exact ⟨_, by omega, j + 1, _, rfl, zp ⟨rfl, rfl, rfl, trivial⟩, by omega, (xv hm (by have h9 := hc420; omega)), hS418⟩
     ·skip
      try simp only [zn] at hc420
      refine zq rfl ?_
      refine zd ?_
      refine za (by kernel_rfl) (fun _ => ?_)
      refine st (ze (v := .int .i64 (8)) rfl ?_)
      refine zf ?_
      refine zu ?_
      refine ya Tryd.results71 (show _ = (.int .i64 (8) : Value) from rfl) ?_
      have hS422 : Sep G W Rs w415 := hS418.sel 2 [] (Nat.le_add_left _ _) rfl rfl
      refine ⟨8, rfl, ?_, ?_, hS422⟩
      · decide
      · intro h9
        exact absurd h9 (by decide)
   ·skip
    have hc76 := of_decide_eq_true hc76
    refine zq rfl ?_
    refine zw ?_
    refine zd ?_
    refine zx ?_
    refine zd ?_
    refine za (by kernel_rfl) (fun _ => ?_)
    refine st (yE rfl ?_)
    refine st (zg (v := df0) Tryd.isAgg77 rfl (zh (hS75.blk (i := 0) rfl) rfl) ?_)
    refine st (zb (v := .int .i64 ((k : Nat) : Int)) rfl ?_)
    have hi423 : k < f.moves.length := (by first | omega | (simp only [lens]; omega))
    refine st (zm (k := 4) (i := k) Tryd.underlying77 Tryd.sizeOf115 rfl hdf0.sl rfl hi423 ?_)
    have hi425 : k < f.moves.length := (by first | omega | (simp only [lens]; omega))
    obtain ⟨hce424, hoke424⟩ := hdf0.mv hi425
    rw [← zk default hi425] at hce424 hoke424
    have hcw426 := hS75.cells hce424 (hdf0.foot (ne_of_lt hi425))
    refine st (zl (k := 4) Tryd.isAgg115 Tryd.sizeOf115 rfl rfl hcw426 ?_)
    refine st (zE Tryd.zeroValue115 ?_)
    intro w429 b428 hn427
    have hS430 := hS75.new hn427
    refine stn (zy (v := .agg ((f.moves.getD k default).cells).toArray) (c' := ((f.moves.getD k default).cells).toArray) Tryd.sizeOf115 rfl rfl (hS430.blk (i := 0) rfl) (yj ⟨rfl, rfl, rfl, rfl, trivial⟩) (Nat.le_of_ble_eq_true rfl) rfl ?_)
    intro w431 hp432
    have hS433 := hS430.pt0 hp432
    refine zf ?_
    refine zd ?_
    refine zD (by kernel_rfl) ?_
    refine st (WZ rfl ?_)
    refine st (zg (v := .int .i64 ((f.moves.getD k default).frm)) Tryd.isAgg3 rfl (zh (hS433.blk (i := 0) rfl) rfl) ?_)
    refine st (zN (k := .i64) (a := (f.moves.getD k default).frm) (b := 0) rfl rfl ?_)
    refine st (zb (v := .bool (decide (((f.moves.getD k default).frm) < 0))) rfl ?_)
    refine stc (V := .pointer (some ⟨b428, 1, none⟩)) rfl rfl (fun hb434 => ?_) ?_
    ·have hl435 := hb434
     have hl435 := of_decide_eq_false hl435
     exact WW rfl ⟨rfl, rfl⟩
    refine stc (V := .int .i64 ((f.moves.getD k default).to)) rfl rfl (fun hb436 => ?_) ?_
    ·have hl437 := hb436
     have hl437 := of_decide_eq_false hl437
     exact zg (v := .int .i64 ((f.moves.getD k default).to)) Tryd.isAgg3 (show _ = (.pointer (some ⟨b428, 1, none⟩) : Value) from (if_pos hb436)) (zh (hS433.blk (i := 0) rfl) rfl) ⟨rfl, rfl⟩
    refine stc (V := .bool (decide (((f.moves.getD k default).to) < 0))) rfl rfl (fun hb438 => ?_) ?_
    ·have hl439 := hb438
     have hl439 := of_decide_eq_false hl439
     exact zN (k := .i64) (a := (f.moves.getD k default).to) (b := 0) (show _ = (.int .i64 ((f.moves.getD k default).to) : Value) from (if_pos hb438)) rfl ⟨rfl, rfl⟩
    refine st (zA (b := decide (((f.moves.getD k default).frm) < 0)) (b' := decide (((f.moves.getD k default).to) < 0)) rfl (fun hbp => (show _ = (.bool (decide (((f.moves.getD k default).to) < 0)) : Value) from (if_pos hbp))) ?_)
    refine st (zb (v := .bool ((decide (((f.moves.getD k default).frm) < 0)) || (decide (((f.moves.getD k default).to) < 0)))) rfl ?_)
    refine stc (V := .pointer (some ⟨b428, 2, none⟩)) rfl rfl (fun hb440 => ?_) ?_
    ·have hl441 := hb440
     try simp only [zn] at hl441
     exact ZB rfl ⟨rfl, rfl⟩
    refine stc (V := .int .i64 ((f.moves.getD k default).need)) rfl rfl (fun hb442 => ?_) ?_
    ·have hl443 := hb442
     try simp only [zn] at hl443
     exact zg (v := .int .i64 ((f.moves.getD k default).need)) Tryd.isAgg3 (show _ = (.pointer (some ⟨b428, 2, none⟩) : Value) from (if_pos hb442)) (zh (hS433.blk (i := 0) rfl) rfl) ⟨rfl, rfl⟩
    refine stc (V := .bool (decide (((f.moves.getD k default).need) = (-1)))) rfl rfl (fun hb444 => ?_) ?_
    ·have hl445 := hb444
     try simp only [zn] at hl445
     exact yu (k := .i64) (a := (f.moves.getD k default).need) (b := -1) (show _ = (.int .i64 ((f.moves.getD k default).need) : Value) from (if_pos hb444)) rfl ⟨rfl, rfl⟩
    refine stc (V := .bool (decide (((f.moves.getD k default).need) = (-1)))) rfl rfl (fun hb446 => ?_) ?_
    ·have hl447 := hb446
     try simp only [zn] at hl447
     exact zb (v := .bool (decide (((f.moves.getD k default).need) = (-1)))) (show _ = (.bool (decide (((f.moves.getD k default).need) = (-1))) : Value) from (if_pos hb446)) ⟨rfl, rfl⟩
    refine yB (V := .pointer (some ⟨b428, 3, none⟩)) rfl rfl (fun hb448 => ?_) ?_
    ·have hl449 := hb448.1
     try simp only [zn] at hl449
     have hl450 := hb448.2
     have hl450 := of_decide_eq_true hl450
     exact WV rfl ⟨rfl, rfl⟩
    refine yB (V := .int .i64 ((f.moves.getD k default).least)) rfl rfl (fun hb451 => ?_) ?_
    ·have hl452 := hb451.1
     try simp only [zn] at hl452
     have hl453 := hb451.2
     have hl453 := of_decide_eq_true hl453
     exact zg (v := .int .i64 ((f.moves.getD k default).least)) Tryd.isAgg3 (show _ = (.pointer (some ⟨b428, 3, none⟩) : Value) from (if_pos ⟨hb451.1, hb451.2⟩)) (zh (hS433.blk (i := 0) rfl) rfl) ⟨rfl, rfl⟩
    refine yB (V := .bool (!decide (((f.moves.getD k default).least) = 0))) rfl rfl (fun hb454 => ?_) ?_
    ·have hl455 := hb454.1
     try simp only [zn] at hl455
     have hl456 := hb454.2
     have hl456 := of_decide_eq_true hl456
     exact yz (k := .i64) (a := (f.moves.getD k default).least) (b := 0) (show _ = (.int .i64 ((f.moves.getD k default).least) : Value) from (if_pos ⟨hb454.1, hb454.2⟩)) rfl ⟨rfl, rfl⟩
    refine stc (V := .bool ((decide (((f.moves.getD k default).need) = (-1))) && (!decide (((f.moves.getD k default).least) = 0)))) rfl rfl (fun hb457 => ?_) ?_
    ·have hl458 := hb457
     try simp only [zn] at hl458
     exact zK (b := decide (((f.moves.getD k default).need) = (-1))) (b' := !decide (((f.moves.getD k default).least) = 0)) (show _ = (.bool (decide (((f.moves.getD k default).need) = (-1))) : Value) from (if_pos hb457)) (fun hbp => (show _ = (.bool (!decide (((f.moves.getD k default).least) = 0)) : Value) from (if_pos ⟨hb457, hbp⟩))) ⟨rfl, rfl⟩
    refine st (zA (b := (decide (((f.moves.getD k default).frm) < 0)) || (decide (((f.moves.getD k default).to) < 0))) (b' := (decide (((f.moves.getD k default).need) = (-1))) && (!decide (((f.moves.getD k default).least) = 0))) rfl (fun hbp => (show _ = (.bool ((decide (((f.moves.getD k default).need) = (-1))) && (!decide (((f.moves.getD k default).least) = 0))) : Value) from (if_pos hbp))) ?_)
    refine zf ?_
    cases hc459 : ((decide (((f.moves.getD k default).frm) < 0)) || (decide (((f.moves.getD k default).to) < 0))) || ((decide (((f.moves.getD k default).need) = (-1))) && (!decide (((f.moves.getD k default).least) = 0)))
    ·skip
     try simp only [zn] at hc459
     refine zo rfl ?_
     refine zw ?_
     refine za (by kernel_rfl) (fun _ => ?_)
     refine st (zb (v := .int .i64 ((k : Nat) : Int)) rfl ?_)
     have hr460 : InR ((k + 1 : Nat) : Int) := by first | omega | (simp only [lens]; omega)
     refine st (ye (r := ((k + 1 : Nat) : Int)) (k := .i64) (a := ((k : Nat) : Int)) (b := 1) rfl rfl (by rw [show (((k : Nat) : Int) + 1 : Int) = ((k + 1 : Nat) : Int) by first | omega | (simp only [lens]; omega)]; exact zQ hr460) ?_)
     refine st (ze (v := .int .i64 ((k + 1 : Nat) : Int)) rfl ?_)
     refine zf ?_
     have hS461 : Sep G W ((Blk b6 (f.cells df0).toArray 79) :: (Blk b2 (t.cells dt0).toArray 33) :: Rs) w431 := hS433.sel 3 [1, 2] (Nat.le_add_left _ _) rfl rfl
     exact ⟨_, by omega, k + 1, _, rfl, zp ⟨rfl, rfl, rfl, trivial⟩, by omega, hS461⟩
    ·skip
     try simp only [zn] at hc459
     refine zq rfl ?_
     refine zd ?_
     refine za (by kernel_rfl) (fun _ => ?_)
     refine st (ze (v := .int .i64 (1)) rfl ?_)
     refine zf ?_
     refine zu ?_
     refine ya Tryd.results71 (show _ = (.int .i64 (1) : Value) from rfl) ?_
     have hS462 : Sep G W Rs w431 := hS433.sel 3 [] (Nat.le_add_left _ _) rfl rfl
     refine ⟨1, rfl, ?_, ?_, hS462⟩
     · decide
     · intro h9
       exact absurd h9 (by decide)
  ·skip
   try simp only [zn] at hc71
   refine zq rfl ?_
   refine zd ?_
   refine za (by kernel_rfl) (fun _ => ?_)
   refine st (ze (v := .int .i64 (1)) rfl ?_)
   refine zf ?_
   refine zu ?_
   refine ya Tryd.results71 (show _ = (.int .i64 (1) : Value) from rfl) ?_
   have hS463 : Sep G W Rs w7 := hS8.sel 2 [] (Nat.le_add_left _ _) rfl rfl
   refine ⟨1, rfl, ?_, ?_, hS463⟩
   · decide
   · intro h9
     exact absurd h9 (by decide)
 ·skip
  try simp only [zn] at hc15
  refine zq rfl ?_
  refine zd ?_
  refine za (by kernel_rfl) (fun _ => ?_)
  refine st (ze (v := .int .i64 (2)) rfl ?_)
  refine zf ?_
  refine zu ?_
  refine ya Tryd.results71 (show _ = (.int .i64 (2) : Value) from rfl) ?_
  have hS464 : Sep G W Rs w7 := hS8.sel 2 [] (Nat.le_add_left _ _) rfl rfl
  refine ⟨2, rfl, ?_, ?_, hS464⟩
  · decide
  · intro h9
    exact absurd h9 (by decide)

theorem QR : Elem Tryd.prog 77 115 4 32 := ⟨Tryd.underlying77, _, _, rfl, rfl, rfl, rfl, rfl⟩
theorem UI {G : Nat → Prop} {W w : World} {Rs : List HP} {d : Dcl} {dd0 : Value} (hdd0 : RdS W G dd0 d.types) {dd1 : Value} (hdd1 : RdS W G dd1 d.projs) (od : d.Ok) {ty : Int} (hty : InR ty) {fi : Int} (hfi : InR fi) (hS0 : Sep G W Rs w) : Ret Tryd.prog 72 [.agg (d.cells dd0 dd1).toArray, .int .i64 (ty), .int .i64 (fi)] w (fun r w' => ∃ (c1 : Int) (c2 : Int) (c3 : Bool) (dx : Value) (b : Bool), r = (.tuple #[.agg #[.int .i64 (c1), .int .i64 (c2), .bool c3, dx], .bool b] : Value) ∧ (dx.oneCell' = true) ∧ (b = true → (0 ≤ ty ∧ ty < d.types.length) ∧ 0 ≤ fi ∧ fi < (d.types.getD ty.toNat default).fields.length) ∧ Sep G W Rs w') := by
 have hdd0s : _ * 24 ≤ _ := hdd0.small
 have hdd1s : _ * 40 ≤ _ := hdd1.small
 refine zr (args := [.agg (d.cells dd0 dd1).toArray, .int .i64 (ty), .int .i64 (fi)]) Tryd.func72 rfl rfl ?_
 refine zd ?_
 refine za (by kernel_rfl) (fun _ => ?_)
 refine st (yb (v := .agg (d.cells dd0 dd1).toArray) rfl ?_)
 intro w3 b2 hn1
 have hS4 := hS0.new hn1
 refine st (zE Tryd.zeroValue79 ?_)
 intro w7 b6 hn5
 have hS8 := hS4.new hn5
 refine st (ze (v := .bool false) rfl ?_)
 refine zf ?_
 refine zd ?_
 refine zd ?_
 refine zD (by kernel_rfl) ?_
 refine st (zb (v := .int .i64 (ty)) rfl ?_)
 refine st (zN (k := .i64) (a := ty) (b := 0) rfl rfl ?_)
 refine st (zb (v := .bool (decide (ty < 0))) rfl ?_)
 refine stc (V := .int .i64 (ty)) rfl rfl (fun hb9 => ?_) ?_
 ·have hl10 := hb9
  have hl10 := of_decide_eq_false hl10
  exact zb (v := .int .i64 (ty)) rfl ⟨rfl, rfl⟩
 refine stc (V := .pointer (some ⟨b2, 0, none⟩)) rfl rfl (fun hb11 => ?_) ?_
 ·have hl12 := hb11
  have hl12 := of_decide_eq_false hl12
  exact yt rfl ⟨rfl, rfl⟩
 refine stc (V := dd0) rfl rfl (fun hb13 => ?_) ?_
 ·have hl14 := hb13
  have hl14 := of_decide_eq_false hl14
  exact zg (v := dd0) Tryd.isAgg22 (show _ = (.pointer (some ⟨b2, 0, none⟩) : Value) from (if_pos hb13)) (zh (hS8.blk (i := 1) rfl) rfl) ⟨rfl, rfl⟩
 refine stc (V := .int .i64 ((d.types.length : Nat) : Int)) rfl rfl (fun hb15 => ?_) ?_
 ·have hl16 := hb15
  have hl16 := of_decide_eq_false hl16
  exact zJ (n := d.types.length) Tryd.underlying22 (show _ = (dd0 : Value) from (if_pos hb15)) hdd0.sl ⟨rfl, rfl⟩
 refine stc (V := .bool (decide (((d.types.length : Nat) : Int) ≤ ty))) rfl rfl (fun hb17 => ?_) ?_
 ·have hl18 := hb17
  have hl18 := of_decide_eq_false hl18
  exact xI (k := .i64) (a := ty) (b := ((d.types.length : Nat) : Int)) (show _ = (.int .i64 (ty) : Value) from (if_pos hb17)) (show _ = (.int .i64 ((d.types.length : Nat) : Int) : Value) from (if_pos hb17)) ⟨rfl, rfl⟩
 refine st (zA (b := decide (ty < 0)) (b' := decide (((d.types.length : Nat) : Int) ≤ ty)) rfl (fun hbp => (show _ = (.bool (decide (((d.types.length : Nat) : Int) ≤ ty)) : Value) from (if_pos hbp))) ?_)
 refine st (zb (v := .bool ((decide (ty < 0)) || (decide (((d.types.length : Nat) : Int) ≤ ty)))) rfl ?_)
 refine stc (V := .int .i64 (fi)) rfl rfl (fun hb19 => ?_) ?_
 ·have hl20 := hb19
  try simp only [zn] at hl20
  exact zb (v := .int .i64 (fi)) rfl ⟨rfl, rfl⟩
 refine stc (V := .bool (decide (fi < 0))) rfl rfl (fun hb21 => ?_) ?_
 ·have hl22 := hb21
  try simp only [zn] at hl22
  exact zN (k := .i64) (a := fi) (b := 0) (show _ = (.int .i64 (fi) : Value) from (if_pos hb21)) rfl ⟨rfl, rfl⟩
 refine st (zA (b := (decide (ty < 0)) || (decide (((d.types.length : Nat) : Int) ≤ ty))) (b' := decide (fi < 0)) rfl (fun hbp => (show _ = (.bool (decide (fi < 0)) : Value) from (if_pos hbp))) ?_)
 refine st (zb (v := .bool (((decide (ty < 0)) || (decide (((d.types.length : Nat) : Int) ≤ ty))) || (decide (fi < 0)))) rfl ?_)
 refine stc (V := .int .i64 (fi)) rfl rfl (fun hb23 => ?_) ?_
 ·have hl24 := hb23
  try simp only [zn] at hl24
  exact zb (v := .int .i64 (fi)) rfl ⟨rfl, rfl⟩
 refine stc (V := .pointer (some ⟨b2, 0, none⟩)) rfl rfl (fun hb25 => ?_) ?_
 ·have hl26 := hb25
  try simp only [zn] at hl26
  exact yt rfl ⟨rfl, rfl⟩
 refine stc (V := dd0) rfl rfl (fun hb27 => ?_) ?_
 ·have hl28 := hb27
  try simp only [zn] at hl28
  exact zg (v := dd0) Tryd.isAgg22 (show _ = (.pointer (some ⟨b2, 0, none⟩) : Value) from (if_pos hb27)) (zh (hS8.blk (i := 1) rfl) rfl) ⟨rfl, rfl⟩
 refine stc (V := .int .i64 (ty)) rfl rfl (fun hb29 => ?_) ?_
 ·have hl30 := hb29
  try simp only [zn] at hl30
  exact zb (v := .int .i64 (ty)) rfl ⟨rfl, rfl⟩
 refine stc (V := .pointer (some ⟨sb dd0, so dd0 + ty.toNat * 1, none⟩)) rfl rfl (fun hb31 => ?_) ?_
 ·have hl32 := hb31
  try simp only [zn] at hl32
  have hi33 : ty.toNat < d.types.length := (by first | omega | (simp only [lens]; omega))
  exact zG (k := 1) (i := ty) Tryd.underlying22 Tryd.sizeOf33 (show _ = (dd0 : Value) from (if_pos hb31)) hdd0.sl (show _ = (.int .i64 (ty) : Value) from (if_pos hb31)) ⟨by omega, by omega⟩ ⟨rfl, rfl⟩
 refine stc (V := .pointer (some ⟨sb dd0, so dd0 + ty.toNat * 1, none⟩)) rfl rfl (fun hb34 => ?_) ?_
 ·have hl35 := hb34
  try simp only [zn] at hl35
  exact yC (show _ = (.pointer (some ⟨sb dd0, so dd0 + ty.toNat * 1, none⟩) : Value) from (if_pos hb34)) ⟨rfl, rfl⟩
 refine stc (V := (zi W (sb dd0) (so dd0 + ty.toNat * 1 + 0))) rfl rfl (fun hb36 => ?_) ?_
 ·have hl37 := hb36
  try simp only [zn] at hl37
  have hi39 : ty.toNat < d.types.length := (by first | omega | (simp only [lens]; omega))
  obtain ⟨hce38, hde38_0, hoke38⟩ := hdd0.typ hi39
  rw [← zk default hi39] at hce38 hde38_0 hoke38
  have hsm40 : ((d.types.getD ty.toNat default).fields).length * 48 ≤ 140737488355328 := hde38_0.small
  have hcw41 := hS8.cells hce38 (hdd0.foot (ne_of_lt hi39))
  exact zg (v := (zi W (sb dd0) (so dd0 + ty.toNat * 1 + 0))) Tryd.isAgg31 (show _ = (.pointer (some ⟨sb dd0, so dd0 + ty.toNat * 1, none⟩) : Value) from (if_pos hb36)) (hcw41.get (j := 0) rfl) ⟨rfl, rfl⟩
 refine stc (V := .int .i64 ((((d.types.getD ty.toNat default).fields).length : Nat) : Int)) rfl rfl (fun hb42 => ?_) ?_
 ·have hl43 := hb42
  try simp only [zn] at hl43
  have hi45 : ty.toNat < d.types.length := (by first | omega | (simp only [lens]; omega))
  obtain ⟨hce44, hde44_0, hoke44⟩ := hdd0.typ hi45
  rw [← zk default hi45] at hce44 hde44_0 hoke44
  have hsm46 : ((d.types.getD ty.toNat default).fields).length * 48 ≤ 140737488355328 := hde44_0.small
  have hcw47 := hS8.cells hce44 (hdd0.foot (ne_of_lt hi45))
  exact zJ (n := ((d.types.getD ty.toNat default).fields).length) Tryd.underlying31 (show _ = ((zi W (sb dd0) (so dd0 + ty.toNat * 1 + 0)) : Value) from (if_pos hb42)) hde44_0.sl ⟨rfl, rfl⟩
 refine stc (V := .bool (decide (((((d.types.getD ty.toNat default).fields).length : Nat) : Int) ≤ fi))) rfl rfl (fun hb48 => ?_) ?_
 ·have hl49 := hb48
  try simp only [zn] at hl49
  exact xI (k := .i64) (a := fi) (b := ((((d.types.getD ty.toNat default).fields).length : Nat) : Int)) (show _ = (.int .i64 (fi) : Value) from (if_pos hb48)) (show _ = (.int .i64 ((((d.types.getD ty.toNat default).fields).length : Nat) : Int) : Value) from (if_pos hb48)) ⟨rfl, rfl⟩
 refine st (zA (b := ((decide (ty < 0)) || (decide (((d.types.length : Nat) : Int) ≤ ty))) || (decide (fi < 0))) (b' := decide (((((d.types.getD ty.toNat default).fields).length : Nat) : Int) ≤ fi)) rfl (fun hbp => (show _ = (.bool (decide (((((d.types.getD ty.toNat default).fields).length : Nat) : Int) ≤ fi)) : Value) from (if_pos hbp))) ?_)
 refine zf ?_
 cases hc50 : (((decide (ty < 0)) || (decide (((d.types.length : Nat) : Int) ≤ ty))) || (decide (fi < 0))) || (decide (((((d.types.getD ty.toNat default).fields).length : Nat) : Int) ≤ fi))
 ·skip
  try simp only [zn] at hc50
  refine zo rfl ?_
  refine zw ?_
  refine zd ?_
  refine za (by kernel_rfl) (fun _ => ?_)
  refine st (yt rfl ?_)
  refine st (zg (v := dd0) Tryd.isAgg22 rfl (zh (hS8.blk (i := 1) rfl) rfl) ?_)
  refine st (zb (v := .int .i64 (ty)) rfl ?_)
  have hi51 : ty.toNat < d.types.length := (by first | omega | (simp only [lens]; omega))
  refine st (zG (k := 1) (i := ty) Tryd.underlying22 Tryd.sizeOf33 rfl hdd0.sl rfl ⟨by omega, by omega⟩ ?_)
  refine st (yC rfl ?_)
  have hi53 : ty.toNat < d.types.length := (by first | omega | (simp only [lens]; omega))
  obtain ⟨hce52, hde52_0, hoke52⟩ := hdd0.typ hi53
  rw [← zk default hi53] at hce52 hde52_0 hoke52
  have hsm54 : ((d.types.getD ty.toNat default).fields).length * 48 ≤ 140737488355328 := hde52_0.small
  have hcw55 := hS8.cells hce52 (hdd0.foot (ne_of_lt hi53))
  refine st (zg (v := (zi W (sb dd0) (so dd0 + ty.toNat * 1 + 0))) Tryd.isAgg31 rfl (hcw55.get (j := 0) rfl) ?_)
  refine st (zb (v := .int .i64 (fi)) rfl ?_)
  have hi56 : fi.toNat < ((d.types.getD ty.toNat default).fields).length := (by first | omega | (simp only [lens]; omega))
  refine st (zG (k := 4) (i := fi) Tryd.underlying31 Tryd.sizeOf79 rfl hde52_0.sl rfl ⟨by omega, by omega⟩ ?_)
  have hi58 : fi.toNat < ((d.types.getD ty.toNat default).fields).length := (by first | omega | (simp only [lens]; omega))
  obtain ⟨hce57, hde57_0, hoke57⟩ := hde52_0.fld hi58
  rw [← zk default hi58] at hce57 hde57_0 hoke57
  have hsm59 : ((((d.types.getD ty.toNat default).fields).getD fi.toNat default).moves).length * 32 ≤ 140737488355328 := hde57_0.small
  have hcw60 := hS8.cells hce57 (hde52_0.foot (ne_of_lt hi58))
  refine st (zl (k := 4) Tryd.isAgg79 Tryd.sizeOf79 rfl rfl hcw60 ?_)
  refine st (zE Tryd.zeroValue79 ?_)
  intro w63 b62 hn61
  have hS64 := hS8.new hn61
  refine stn (zy (v := .agg ((((d.types.getD ty.toNat default).fields).getD fi.toNat default).cells (zi W (sb (zi W (sb dd0) (so dd0 + ty.toNat * 1 + 0))) (so (zi W (sb dd0) (so dd0 + ty.toNat * 1 + 0)) + fi.toNat * 4 + 3))).toArray) (c' := ((((d.types.getD ty.toNat default).fields).getD fi.toNat default).cells (zi W (sb (zi W (sb dd0) (so dd0 + ty.toNat * 1 + 0))) (so (zi W (sb dd0) (so dd0 + ty.toNat * 1 + 0)) + fi.toNat * 4 + 3))).toArray) Tryd.sizeOf79 rfl rfl (hS64.blk (i := 0) rfl) (yj ⟨rfl, rfl, rfl, hde57_0.sl.one, trivial⟩) (Nat.le_of_ble_eq_true rfl) rfl ?_)
  intro w65 hp66
  have hS67 := hS64.pt0 hp66
  refine zf ?_
  refine zd ?_
  refine za (by kernel_rfl) (fun _ => ?_)
  refine st (ze (v := (.slice none 0 0)) rfl ?_)
  refine zf ?_
  refine zd ?_
  refine zd ?_
  refine za (by kernel_rfl) (fun _ => ?_)
  refine st (ze (v := .int .i64 (0)) rfl ?_)
  refine zf ?_
  refine zx ?_
  have hS68 : Sep G W ((RowE (α := Mv) own 115 (.slice none 0 0) ([] : List Mv)) :: (Blk b62 ((((d.types.getD ty.toNat default).fields).getD fi.toNat default).cells (zi W (sb (zi W (sb dd0) (so dd0 + ty.toNat * 1 + 0))) (so (zi W (sb dd0) (so dd0 + ty.toNat * 1 + 0)) + fi.toNat * 4 + 3))).toArray 79) :: (Blk b6 #[.int .i64 (0), .int .i64 (0), .bool false, (.slice none 0 0)] 79) :: (Blk b2 (d.cells dd0 dd1).toArray 25) :: Rs) w65 := hS67.rowNil own 115
  refine yn (fun mq σ wq => ∃ (k : Nat) (vm : Value) (ρ : Env), mq = ((d.types.getD ty.toNat default).fields.getD fi.toNat default).moves.length - k ∧ σ = yp ρ [(3, .pointer (some ⟨b2, 0, none⟩)), (6, .pointer (some ⟨b6, 0, none⟩)), (8, .pointer (some ⟨b62, 0, none⟩)), (10, .int .i64 ((k : Nat) : Int)), (9, vm)] ∧ (k ≤ ((d.types.getD ty.toNat default).fields.getD fi.toNat default).moves.length) ∧ Sep G W ((RowE (α := Mv) own 115 vm (((d.types.getD ty.toNat default).fields.getD fi.toNat default).moves.take k)) :: (Blk b62 ((((d.types.getD ty.toNat default).fields).getD fi.toNat default).cells (zi W (sb (zi W (sb dd0) (so dd0 + ty.toNat * 1 + 0))) (so (zi W (sb dd0) (so dd0 + ty.toNat * 1 + 0)) + fi.toNat * 4 + 3))).toArray 79) :: (Blk b6 #[.int .i64 (0), .int .i64 (0), .bool false, (.slice none 0 0)] 79) :: (Blk b2 (d.cells dd0 dd1).toArray 25) :: Rs) wq) ⟨0, (.slice none 0 0), _, rfl, zp ⟨rfl, rfl, rfl, rfl, rfl, trivial⟩, Nat.zero_le _, hS68⟩ ?_
  rintro m70 σ71 w69 ⟨k, vm, ρl1, rfl, rfl, hkk, hS72⟩
  have hr73 := hS72.row (i := 0) rfl
  have hr73s : _ * 32 ≤ _ := hr73.2
  refine zd ?_
  refine zd ?_
  refine za (by kernel_rfl) (fun _ => ?_)
  refine st (zb (v := .int .i64 ((k : Nat) : Int)) rfl ?_)
  refine st (yE rfl ?_)
  refine st (zg (v := (zi W (sb (zi W (sb dd0) (so dd0 + ty.toNat * 1 + 0))) (so (zi W (sb dd0) (so dd0 + ty.toNat * 1 + 0)) + fi.toNat * 4 + 3))) Tryd.isAgg77 rfl (zh (hS72.blk (i := 1) rfl) rfl) ?_)
  refine st (zJ (n := ((((d.types.getD ty.toNat default).fields).getD fi.toNat default).moves).length) Tryd.underlying77 rfl hde57_0.sl ?_)
  refine st (zN (k := .i64) (a := ((k : Nat) : Int)) (b := ((((((d.types.getD ty.toNat default).fields).getD fi.toNat default).moves).length : Nat) : Int)) rfl rfl ?_)
  refine zf ?_
  cases hc74 : decide (((k : Nat) : Int) < ((((((d.types.getD ty.toNat default).fields).getD fi.toNat default).moves).length : Nat) : Int))
  ·skip
   have hc74 := of_decide_eq_false hc74
   refine zo rfl ?_
   refine ym ?_
   refine yd ?_
   refine zd ?_
   refine za (by kernel_rfl) (fun _ => ?_)
   refine st (zb (v := vm) rfl ?_)
   refine st (yE rfl ?_)
   refine stn (yK (v := vm) (c := [.int .i64 ((((d.types.getD ty.toNat default).fields).getD fi.toNat default).kind), .int .i64 ((((d.types.getD ty.toNat default).fields).getD fi.toNat default).policy), .bool ((((d.types.getD ty.toNat default).fields).getD fi.toNat default).floor), (zi W (sb (zi W (sb dd0) (so dd0 + ty.toNat * 1 + 0))) (so (zi W (sb dd0) (so dd0 + ty.toNat * 1 + 0)) + fi.toNat * 4 + 3))]) (c' := [.int .i64 ((((d.types.getD ty.toNat default).fields).getD fi.toNat default).kind), .int .i64 ((((d.types.getD ty.toNat default).fields).getD fi.toNat default).policy), .bool ((((d.types.getD ty.toNat default).fields).getD fi.toNat default).floor), vm]) Tryd.sizeOf77 rfl rfl (hS72.blk (i := 1) rfl) hr73.1.one rfl rfl ?_)
   intro w75 hp76
   have ok77 : Fld.Ok (⟨(((d.types.getD ty.toNat default).fields).getD fi.toNat default).kind, (((d.types.getD ty.toNat default).fields).getD fi.toNat default).policy, (((d.types.getD ty.toNat default).fields).getD fi.toNat default).floor, ((d.types.getD ty.toNat default).fields.getD fi.toNat default).moves.take k⟩ : Fld) := ⟨(show InR ((((d.types.getD ty.toNat default).fields).getD fi.toNat default).kind) from hoke57.kind), (show InR ((((d.types.getD ty.toNat default).fields).getD fi.toNat default).policy) from hoke57.policy)⟩
   have hS78 := hS72.pt1 hp76
   refine zf ?_
   refine zd ?_
   refine za (by kernel_rfl) (fun _ => ?_)
   refine st (zl (k := 4) Tryd.isAgg79 Tryd.sizeOf79 rfl rfl (CellsAt.all (hS78.blk (i := 1) rfl)) ?_)
   refine stn (zy (v := .agg ((⟨(((d.types.getD ty.toNat default).fields).getD fi.toNat default).kind, (((d.types.getD ty.toNat default).fields).getD fi.toNat default).policy, (((d.types.getD ty.toNat default).fields).getD fi.toNat default).floor, ((d.types.getD ty.toNat default).fields.getD fi.toNat default).moves.take k⟩ : Fld).cells vm).toArray) (c' := ((⟨(((d.types.getD ty.toNat default).fields).getD fi.toNat default).kind, (((d.types.getD ty.toNat default).fields).getD fi.toNat default).policy, (((d.types.getD ty.toNat default).fields).getD fi.toNat default).floor, ((d.types.getD ty.toNat default).fields.getD fi.toNat default).moves.take k⟩ : Fld).cells vm).toArray) Tryd.sizeOf79 rfl rfl (hS78.blk (i := 2) rfl) (yj ⟨rfl, rfl, rfl, hr73.1.one, trivial⟩) (Nat.le_of_ble_eq_true rfl) rfl ?_)
   intro w79 hp80
   have hS81 := hS78.pt2 hp80
   refine st (ze (v := .bool true) rfl ?_)
   refine zf ?_
   refine zu ?_
   refine YU (b := b6) Tryd.results72 Tryd.isAgg79 Tryd.sizeOf79 rfl rfl (CellsAt.all (hS81.blk (i := 2) rfl)) (show _ = (.bool true : Value) from rfl) ?_
   have hS82 : Sep G W Rs w79 := hS81.sel 4 [] (Nat.le_add_left _ _) rfl rfl
   refine ⟨(((d.types.getD ty.toNat default).fields).getD fi.toNat default).kind, (((d.types.getD ty.toNat default).fields).getD fi.toNat default).policy, (((d.types.getD ty.toNat default).fields).getD fi.toNat default).floor, vm, true, rfl, ?_, ?_, hS82⟩
   · exact hr73.1.one
   · intro _; omega
  ·skip
   have hc74 := of_decide_eq_true hc74
   refine zq rfl ?_
   refine zw ?_
   refine zd ?_
   refine zx ?_
   refine za (by kernel_rfl) (fun _ => ?_)
   refine st (zb (v := vm) rfl ?_)
   refine st (yE rfl ?_)
   refine st (zg (v := (zi W (sb (zi W (sb dd0) (so dd0 + ty.toNat * 1 + 0))) (so (zi W (sb dd0) (so dd0 + ty.toNat * 1 + 0)) + fi.toNat * 4 + 3))) Tryd.isAgg77 rfl (zh (hS72.blk (i := 1) rfl) rfl) ?_)
   refine st (zb (v := .int .i64 ((k : Nat) : Int)) rfl ?_)
   have hi83 : k < ((((d.types.getD ty.toNat default).fields).getD fi.toNat default).moves).length := (by first | omega | (simp only [lens]; omega))
   refine st (zm (k := 4) (i := k) Tryd.underlying77 Tryd.sizeOf115 rfl hde57_0.sl rfl hi83 ?_)
   have hi85 : k < ((((d.types.getD ty.toNat default).fields).getD fi.toNat default).moves).length := (by first | omega | (simp only [lens]; omega))
   obtain ⟨hce84, hoke84⟩ := hde57_0.mv hi85
   rw [← zk default hi85] at hce84 hoke84
   have hcw86 := hS72.cells hce84 (hde57_0.foot (ne_of_lt hi85))
   refine st (zl (k := 4) Tryd.isAgg115 Tryd.sizeOf115 rfl rfl hcw86 ?_)
   refine st (zB (k := 4) (parts' := [(0, .agg ((((((d.types.getD ty.toNat default).fields).getD fi.toNat default).moves).getD k default).cells).toArray)]) (c := ((((((d.types.getD ty.toNat default).fields).getD fi.toNat default).moves).getD k default).cells).toArray) Tryd.underlying77 Tryd.sizeOf115 Tryd.zeroValue115 (by decide) rfl (by kernel_rfl) ?_)
   intro w89 b88 hn87
   have hS90 := hS72.new hn87
   have hbk94 := hS90.blk (i := 0) rfl
   have hS95 : Sep G W ((RowE (α := Mv) own 115 vm (((d.types.getD ty.toNat default).fields.getD fi.toNat default).moves.take k)) :: (Blk b62 ((((d.types.getD ty.toNat default).fields).getD fi.toNat default).cells (zi W (sb (zi W (sb dd0) (so dd0 + ty.toNat * 1 + 0))) (so (zi W (sb dd0) (so dd0 + ty.toNat * 1 + 0)) + fi.toNat * 4 + 3))).toArray 79) :: (Blk b6 #[.int .i64 (0), .int .i64 (0), .bool false, (.slice none 0 0)] 79) :: (Blk b2 (d.cells dd0 dd1).toArray 25) :: Rs) w89 := hS90.sel 5 [1, 2, 3, 4] (Nat.le_add_left _ _) rfl rfl
   have hS96 : Sep G W ((RowE (α := Mv) own 115 vm (((d.types.getD ty.toNat default).fields.getD fi.toNat default).moves.take k)) :: Emp :: (Blk b62 ((((d.types.getD ty.toNat default).fields).getD fi.toNat default).cells (zi W (sb (zi W (sb dd0) (so dd0 + ty.toNat * 1 + 0))) (so (zi W (sb dd0) (so dd0 + ty.toNat * 1 + 0)) + fi.toNat * 4 + 3))).toArray 79) :: (Blk b6 #[.int .i64 (0), .int .i64 (0), .bool false, (.slice none 0 0)] 79) :: (Blk b2 (d.cells dd0 dd1).toArray 25) :: Rs) w89 := hS95.emp1
   refine st (yG (src := own) (bytes := 32) (x1 := (((((d.types.getD ty.toNat default).fields).getD fi.toNat default).moves).getD k default)) hS96 QR rfl rfl hbk94 (fun _ _ _ => (show _ from ⟨rfl, hoke84⟩)) (by first | omega | (simp only [List.length_append, List.length_cons, List.length_nil, List.length_take, List.length_drop]; omega)) rfl ?_)
   intro v92 w91 hS93
   have hr97 := hS93.row (i := 0) rfl
   have hr97s : _ * 32 ≤ _ := hr97.2
   refine st (ze (v := v92) rfl ?_)
   refine zf ?_
   refine za (by kernel_rfl) (fun _ => ?_)
   refine st (zb (v := .int .i64 ((k : Nat) : Int)) rfl ?_)
   have hr98 : InR ((k + 1 : Nat) : Int) := by first | omega | (simp only [lens]; omega)
   refine st (ye (r := ((k + 1 : Nat) : Int)) (k := .i64) (a := ((k : Nat) : Int)) (b := 1) rfl rfl (by rw [show (((k : Nat) : Int) + 1 : Int) = ((k + 1 : Nat) : Int) by first | omega | (simp only [lens]; omega)]; exact zQ hr98) ?_)
   refine st (ze (v := .int .i64 ((k + 1 : Nat) : Int)) rfl ?_)
   refine zf ?_
   have hL99 : (((d.types.getD ty.toNat default).fields.getD fi.toNat default).moves.take (k + 1)) = (((d.types.getD ty.toNat default).fields.getD fi.toNat default).moves.take k) ++ [(((((d.types.getD ty.toNat default).fields).getD fi.toNat default).moves).getD k default)] := (List.take_getD (by omega))
   rw [← hL99] at hS93
   exact ⟨_, by omega, k + 1, v92, _, rfl, zp ⟨rfl, rfl, rfl, rfl, rfl, trivial⟩, by omega, hS93⟩
 ·skip
  try simp only [zn] at hc50
  refine zq rfl ?_
  refine zd ?_
  refine za (by kernel_rfl) (fun _ => ?_)
  have ok100 : Fld.Ok (⟨0, 0, false, []⟩ : Fld) := ⟨(show InR (0) from (by decide)), (show InR (0) from (by decide))⟩
  refine st (zS (parts' := []) (v := .agg ((⟨0, 0, false, []⟩ : Fld).cells (.slice none 0 0)).toArray) rfl (by simp [Instr.build, Instr.fill, Ev.cells, go_sem, Mv.cells, Fld.cells, Typ.cells, Prj.cells, Dcl.cells, Cel.cells, AskR.cells, Ask.cells]) ?_)
  refine stn (zy (v := .agg ((⟨0, 0, false, []⟩ : Fld).cells (.slice none 0 0)).toArray) (c' := ((⟨0, 0, false, []⟩ : Fld).cells (.slice none 0 0)).toArray) Tryd.sizeOf79 rfl rfl (hS8.blk (i := 0) rfl) (yj ⟨rfl, rfl, rfl, rfl, trivial⟩) (Nat.le_of_ble_eq_true rfl) rfl ?_)
  intro w101 hp102
  have hS103 := hS8.pt0 hp102
  refine st (ze (v := .bool false) rfl ?_)
  refine zf ?_
  refine zu ?_
  refine YU (b := b6) Tryd.results72 Tryd.isAgg79 Tryd.sizeOf79 rfl rfl (CellsAt.all (hS103.blk (i := 0) rfl)) (show _ = (.bool false : Value) from rfl) ?_
  have hS104 : Sep G W Rs w101 := hS103.sel 2 [] (Nat.le_add_left _ _) rfl rfl
  refine ⟨0, 0, false, (.slice none 0 0), false, rfl, ?_, ?_, hS104⟩
  · rfl
  · intro h9; cases h9

end Go.Proofs.YtlblilbmpdejgaaDoor
