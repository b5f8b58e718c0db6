/- Texts of this claim, part 10. -/
import Derived.Test.YtgjgmojjeehieaaZ9
set_option linter.unusedSimpArgs false
set_option linter.unusedVariables false
set_option linter.unusedSectionVars false
section
/- Steps of the proofs of this seat: part T1. -/
set_option maxRecDepth 8000
set_option maxHeartbeats 4000000
namespace Go.Proofs.Ytgjgmojjeehieaa
open Go.Proofs Go.RowKit

def fl (a b : Bool) : Int := (if a then 1 else 0) + (if b then 2 else 0)
def yB (a b : List Int) (m : Nat) : Bool := (List.range m).any fun i => decide (yq a (i : Int) < yq b (i : Int))
theorem xn {a b : List Int} {m : Nat} : yB a b (m + 1) = (yB a b m || decide (yq a (m : Int) < yq b (m : Int))) := by
  unfold yB
  rw [List.range_succ, List.any_append]; simp
theorem fl_in {a b : Bool} : InR (fl a b) := by cases a <;> cases b <;> decide
theorem Qg {P : Program} {d : Option Tmp} {ty : TypeId} {pos : String} {af : Array Edge} {g : Option (Nat × Bool)} {σ : Env} {w : World} {K : Value → World → Prop} {x : Operand} {t t2 : TypeId} {a b : Bool} (hx : ev σ x = .int .i64 (fl a b)) (h : K (.int .i64 (fl true b)) w) : opV P ⟨d, .binOp .or t x (.const (.int .i64 1)) t2, ty, pos, af, g⟩ σ w K := by
  have hc : ev σ (.const (.int .i64 1)) = .int .i64 1 := rfl
  refine zV (v := .int .i64 (fl true b)) (w' := w) ?_ h
  cases a <;> cases b <;> (simp [execOp, hx, hc, fl, go_sem]; try rfl)
theorem Qp {P : Program} {d : Option Tmp} {ty : TypeId} {pos : String} {af : Array Edge} {g : Option (Nat × Bool)} {σ : Env} {w : World} {K : Value → World → Prop} {x : Operand} {t t2 : TypeId} {a b : Bool} (hx : ev σ x = .int .i64 (fl a b)) (h : K (.int .i64 (fl a true)) w) : opV P ⟨d, .binOp .or t x (.const (.int .i64 2)) t2, ty, pos, af, g⟩ σ w K := by
  have hc : ev σ (.const (.int .i64 2)) = .int .i64 2 := rfl
  refine zV (v := .int .i64 (fl a true)) (w' := w) ?_ h
  cases a <;> cases b <;> (simp [execOp, hx, hc, fl, go_sem]; try rfl)
theorem Qd {a b : List Int} {k : Nat} (h : yq a (k : Int) < yq b (k : Int)) : fl true (yB b a k) = fl (yB a b (k + 1)) (yB b a (k + 1)) := by
  rw [xn, xn, decide_eq_true h, decide_eq_false (show ¬ yq b (k : Int) < yq a (k : Int) by omega)]; simp
theorem Qw {a b : List Int} {k : Nat} (h : yq b (k : Int) < yq a (k : Int)) : fl (yB a b k) true = fl (yB a b (k + 1)) (yB b a (k + 1)) := by
  rw [xn, xn, decide_eq_true h, decide_eq_false (show ¬ yq a (k : Int) < yq b (k : Int) by omega)]; simp
theorem Qf {a b : List Int} {k : Nat} (h1 : ¬ yq a (k : Int) < yq b (k : Int)) (h2 : ¬ yq b (k : Int) < yq a (k : Int)) : fl (yB a b k) (yB b a k) = fl (yB a b (k + 1)) (yB b a (k + 1)) := by
  rw [xn, xn, decide_eq_false h1, decide_eq_false h2]; simp
def zK (a b : List Int) : Int := fl (yB a b (max a.length b.length)) (yB b a (max a.length b.length))
theorem YQ {G : Nat → Prop} {W w : World} {Rs : List HP} {va : Value} {a : List Int} (ha : RdS W G va a) {vb : Value} {b : List Int} (hb : RdS W G vb b) (hS0 : Sep G W Rs w) : Ret Try.prog 73 [va, vb] w (fun r w' => r = (.int .i64 ((zK a b)) : Value) ∧ (InR (zK a b)) ∧ Sep G W Rs w') := by
 have has : _ * 8 ≤ _ := ha.small
 have hbs : _ * 8 ≤ _ := hb.small
 refine zq (args := [va, vb]) Try.func73 rfl rfl ?_
 refine zd ?_
 refine za (by kernel_rfl) (fun _ => ?_)
 refine st (zf (v := .int .i64 (0)) rfl ?_)
 refine zg ?_
 refine zd ?_
 refine za (by kernel_rfl) (fun _ => ?_)
 refine st (zf (v := .int .i64 (0)) rfl ?_)
 refine zg ?_
 refine zd ?_
 refine zd ?_
 refine za (by kernel_rfl) (fun _ => ?_)
 refine st (zb (v := va) rfl ?_)
 refine st (zB (n := a.length) Try.underlying34 rfl ha.sl ?_)
 refine st (zb (v := vb) rfl ?_)
 refine st (zB (n := b.length) Try.underlying34 rfl hb.sl ?_)
 refine st (xE (k := .i64) (a := ((a.length : Nat) : Int)) (b := ((b.length : Nat) : Int)) rfl rfl ?_)
 rw [show max ((a.length : Nat) : Int) ((b.length : Nat) : Int) = ((max a.length b.length : Nat) : Int) by omega]
 refine st (zb (v := .int .i64 (0)) rfl ?_)
 refine zg ?_
 refine zx ?_
 refine yb (fun mq σ wq => ∃ (k : Nat) (ρ : Env), mq = max a.length b.length - k ∧ σ = ye ρ [(0, va), (1, vb), (5, .int .i64 (fl (yB a b k) (yB b a k))), (13, .int .i64 (((max a.length b.length) : Nat) : Int)), (14, .int .i64 ((k : Nat) : Int))] ∧ (k ≤ max a.length b.length) ∧ Sep G W Rs wq) ⟨0, _, rfl, zn ⟨rfl, rfl, rfl, rfl, rfl, trivial⟩, Nat.zero_le _, hS0⟩ ?_
 rintro m2 σ3 w1 ⟨k, ρl1, rfl, rfl, hk, hS4⟩
 refine zd ?_
 refine za (by kernel_rfl) (fun _ => ?_)
 refine st (zJ (k := .i64) (a := ((k : Nat) : Int)) (b := (((max a.length b.length) : Nat) : Int)) rfl rfl ?_)
 refine zg ?_
 refine zd ?_
 cases hc5 : decide (((k : Nat) : Int) < (((max a.length b.length) : Nat) : Int))
 ·skip
  have hc5 := of_decide_eq_false hc5
  refine zk rfl ?_
  refine ya ?_
  refine zQ ?_
  refine zd ?_
  refine za (by kernel_rfl) (fun _ => ?_)
  refine st (zb (v := .int .i64 (fl (yB a b k) (yB b a k))) rfl ?_)
  refine st (zf (v := .int .i64 (fl (yB a b k) (yB b a k))) rfl ?_)
  refine zg ?_
  refine zw ?_
  refine zM Try.results73 (show _ = (.int .i64 (fl (yB a b k) (yB b a k)) : Value) from rfl) ?_
  refine ⟨?_, ?_, hS4⟩
  · rw [show k = max a.length b.length by omega]; rfl
  · exact fl_in
 ·skip
  have hc5 := of_decide_eq_true hc5
  refine zm rfl ?_
  refine zp ?_
  refine zd ?_
  refine zx ?_
  refine zd ?_
  refine za (by kernel_rfl) (fun _ => ?_)
  refine st (zb (v := .int .i64 ((k : Nat) : Int)) rfl ?_)
  refine st (zf (v := .int .i64 ((k : Nat) : Int)) rfl ?_)
  refine zg ?_
  refine zd ?_
  refine za (by kernel_rfl) (fun _ => ?_)
  refine st (zb (v := va) rfl ?_)
  refine st (zb (v := .int .i64 ((k : Nat) : Int)) rfl ?_)
  refine st (zj (f := 59) (vals := [va, .int .i64 ((k : Nat) : Int)]) (cap := []) rfl rfl Try.call59 (Wl (v := a) (vv := va) (o := ((k : Nat) : Int)) ha (by omega) hS4) ?_)
  rintro _ w7 ⟨rfl, hg6, hS8⟩
  refine st (zb (v := vb) rfl ?_)
  refine st (zb (v := .int .i64 ((k : Nat) : Int)) rfl ?_)
  refine st (zj (f := 59) (vals := [vb, .int .i64 ((k : Nat) : Int)]) (cap := []) rfl rfl Try.call59 (Wl (v := b) (vv := vb) (o := ((k : Nat) : Int)) hb (by omega) hS8) ?_)
  rintro _ w10 ⟨rfl, hg9, hS11⟩
  refine st (zf (v := .int .i64 (yq a ((k : Nat) : Int))) rfl ?_)
  refine st (zf (v := .int .i64 (yq b ((k : Nat) : Int))) rfl ?_)
  refine zg ?_
  refine zx ?_
  refine zd ?_
  refine za (by kernel_rfl) (fun _ => ?_)
  refine st (zb (v := .int .i64 (yq a ((k : Nat) : Int))) rfl ?_)
  refine st (zb (v := .int .i64 (yq b ((k : Nat) : Int))) rfl ?_)
  refine st (zJ (k := .i64) (a := yq a ((k : Nat) : Int)) (b := yq b ((k : Nat) : Int)) rfl rfl ?_)
  refine st (zf (v := .bool (decide ((yq a ((k : Nat) : Int)) < (yq b ((k : Nat) : Int))))) rfl ?_)
  refine zg ?_
  cases hc12 : decide ((yq a ((k : Nat) : Int)) < (yq b ((k : Nat) : Int)))
  ·skip
   have hc12 := of_decide_eq_false hc12
   refine zk rfl ?_
   refine zd ?_
   refine za (by kernel_rfl) (fun _ => ?_)
   refine st (zb (v := .int .i64 (yq a ((k : Nat) : Int))) rfl ?_)
   refine st (zb (v := .int .i64 (yq b ((k : Nat) : Int))) rfl ?_)
   refine st (yy (k := .i64) (a := yq a ((k : Nat) : Int)) (b := yq b ((k : Nat) : Int)) rfl rfl ?_)
   refine st (zf (v := .bool (decide ((yq b ((k : Nat) : Int)) < (yq a ((k : Nat) : Int))))) rfl ?_)
   refine zg ?_
   cases hc13 : decide ((yq b ((k : Nat) : Int)) < (yq a ((k : Nat) : Int)))
   ·skip
    have hc13 := of_decide_eq_false hc13
    refine zk rfl ?_
    refine zp ?_
    refine za (by kernel_rfl) (fun _ => ?_)
    have hr14 : InR ((k + 1 : Nat) : Int) := by first | omega | (simp only [zu]; omega)
    refine st (zU (r := ((k + 1 : Nat) : Int)) (k := .i64) (a := ((k : Nat) : Int)) (b := 1) rfl rfl (by rw [show (((k : Nat) : Int) + 1 : Int) = ((k + 1 : Nat) : Int) by first | omega | (simp only [zu]; omega)]; exact zH hr14) ?_)
    refine st (zb (v := .int .i64 ((k + 1 : Nat) : Int)) rfl ?_)
    refine zg ?_
    exact ⟨_, by omega, k + 1, _, rfl, zn ⟨rfl, rfl, (show _ = (.int .i64 (fl (yB a b (k + 1)) (yB b a (k + 1))) : Value) from congrArg _ (Qf hc12 hc13)), rfl, rfl, trivial⟩, by omega, hS11⟩
   ·skip
    have hc13 := of_decide_eq_true hc13
    refine zm rfl ?_
    refine za (by kernel_rfl) (fun _ => ?_)
    refine st (zb (v := .int .i64 (fl (yB a b k) (yB b a k))) rfl ?_)
    refine st (Qp (a := (yB a b k)) (b := (yB b a k)) rfl ?_)
    refine st (zf (v := .int .i64 (fl (yB a b k) true)) rfl ?_)
    refine zg ?_
    refine za (by kernel_rfl) (fun _ => ?_)
    have hr15 : InR ((k + 1 : Nat) : Int) := by first | omega | (simp only [zu]; omega)
    refine st (zU (r := ((k + 1 : Nat) : Int)) (k := .i64) (a := ((k : Nat) : Int)) (b := 1) rfl rfl (by rw [show (((k : Nat) : Int) + 1 : Int) = ((k + 1 : Nat) : Int) by first | omega | (simp only [zu]; omega)]; exact zH hr15) ?_)
    refine st (zb (v := .int .i64 ((k + 1 : Nat) : Int)) rfl ?_)
    refine zg ?_
    exact ⟨_, by omega, k + 1, _, rfl, zn ⟨rfl, rfl, (show _ = (.int .i64 (fl (yB a b (k + 1)) (yB b a (k + 1))) : Value) from congrArg _ (Qw hc13)), rfl, rfl, trivial⟩, by omega, hS11⟩
  ·skip
   have hc12 := of_decide_eq_true hc12
   refine zm rfl ?_
   refine za (by kernel_rfl) (fun _ => ?_)
   refine st (zb (v := .int .i64 (fl (yB a b k) (yB b a k))) rfl ?_)
   refine st (Qg (a := (yB a b k)) (b := (yB b a k)) rfl ?_)
   refine st (zf (v := .int .i64 (fl true (yB b a k))) rfl ?_)
   refine zg ?_
   refine za (by kernel_rfl) (fun _ => ?_)
   have hr16 : InR ((k + 1 : Nat) : Int) := by first | omega | (simp only [zu]; omega)
   refine st (zU (r := ((k + 1 : Nat) : Int)) (k := .i64) (a := ((k : Nat) : Int)) (b := 1) rfl rfl (by rw [show (((k : Nat) : Int) + 1 : Int) = ((k + 1 : Nat) : Int) by first | omega | (simp only [zu]; omega)]; exact zH hr16) ?_)
   refine st (zb (v := .int .i64 ((k + 1 : Nat) : Int)) rfl ?_)
   refine zg ?_
   exact ⟨_, by omega, k + 1, _, rfl, zn ⟨rfl, rfl, (show _ = (.int .i64 (fl (yB a b (k + 1)) (yB b a (k + 1))) : Value) from congrArg _ (Qd hc12)), rfl, rfl, trivial⟩, by omega, hS11⟩

theorem xV {G : Nat → Prop} {W w : World} {Rs : List HP} {b : Nat} {n : Nat} {L : List Ev} (hb : (SetO b n L).p W G) {fr : Int} (hfr : InR fr) {tt : Int} (htt : InR tt) (hS0 : Sep G W Rs w) : Ret Try.prog 46 [.pointer (some ⟨b, 0, none⟩), .int .i64 (fr), .int .i64 (tt)] w (fun r w' => ∃ (v : Value), r = (.agg ((⟨1, fr, tt, zc n L, []⟩ : Msg).cells v (.slice none 0 0)).toArray : Value) ∧ ((⟨1, fr, tt, zc n L, []⟩ : Msg).Ok) ∧ Sep G W ((RowE (α := Int) own 3 v (zc n L)) :: Rs) w') := by
 refine zq (args := [.pointer (some ⟨b, 0, none⟩), .int .i64 (fr), .int .i64 (tt)]) Try.func46 rfl rfl ?_
 obtain ⟨vv1, m2, R3, hb4, hv5, hr6⟩ := SetO.sh hb
 have hsm7 : (zc n L).length * 8 ≤ 140737488355328 := hv5.small
 refine zd ?_
 refine za (by kernel_rfl) (fun _ => ?_)
 refine st (zX Try.zeroValue57 ?_)
 intro w10 b9 hn8
 have hS11 := hS0.new hn8
 refine zg ?_
 refine zd ?_
 refine za (by kernel_rfl) (fun _ => ?_)
 refine st (zb (v := .int .i64 (fr)) rfl ?_)
 refine st (zb (v := .int .i64 (tt)) rfl ?_)
 refine st (zb (v := .pointer (some ⟨b, 0, none⟩)) rfl ?_)
 refine st (zj (f := 26) (vals := [.pointer (some ⟨b, 0, none⟩)]) (cap := []) rfl rfl Try.call26 (xM  hb hS11) ?_)
 rintro v12 w13 ⟨_, rfl, hS14⟩
 have hr15 := hS14.row (i := 0) rfl
 have hr15s : _ * 8 ≤ _ := hr15.2
 have ok16 : Msg.Ok (⟨1, fr, tt, zc n L, []⟩ : Msg) := ⟨(show InR (1) from (by decide)), (show InR (fr) from hfr), (show InR (tt) from htt)⟩
 refine st (zW (parts' := [(0, .int .i64 (1)), (1, .int .i64 (fr)), (2, .int .i64 (tt)), (3, v12)]) (v := .agg ((⟨1, fr, tt, zc n L, []⟩ : Msg).cells v12 (.slice none 0 0)).toArray) rfl (by obtain ⟨_, _, hv17, _⟩ := hr15.1; rw [show v12 = Value.slice _ _ _ from hv17]; simp [Instr.build, Instr.fill, go_sem, Msg.cells]) ?_)
 refine stn (zT (v := .agg ((⟨1, fr, tt, zc n L, []⟩ : Msg).cells v12 (.slice none 0 0)).toArray) (c' := ((⟨1, fr, tt, zc n L, []⟩ : Msg).cells v12 (.slice none 0 0)).toArray) Try.sizeOf57 rfl rfl (hS14.blk (i := 1) rfl) (yz ⟨rfl, rfl, rfl, hr15.1.one, rfl, trivial⟩) (Nat.le_of_ble_eq_true rfl) rfl ?_)
 intro w18 hp19
 have hS20 := hS14.pt1 hp19
 refine zg ?_
 refine zw ?_
 refine XR (b := b9) Try.results46 Try.isAgg57 Try.sizeOf57 rfl rfl (CellsAt.all (hS20.blk (i := 1) rfl)) ?_
 have hS21 : Sep G W ((RowE (α := Int) own 3 v12 (zc n L)) :: Rs) w18 := hS20.sel 2 [0] (Nat.le_add_left _ _) rfl rfl
 refine ⟨v12, rfl, ?_, hS21⟩
 assumption

theorem ZY {G : Nat → Prop} {W w : World} {Rs : List HP} {b : Nat} {n : Nat} {L : List Ev} (hb : (SetO b n L).p W G) {fr : Int} (hfr : InR fr) {tt : Int} (htt : InR tt) (hS0 : Sep G W Rs w) : Ret Try.prog 47 [.pointer (some ⟨b, 0, none⟩), .int .i64 (fr), .int .i64 (tt)] w (fun r w' => ∃ (v : Value), r = (.agg ((⟨4, fr, tt, zc n L, []⟩ : Msg).cells v (.slice none 0 0)).toArray : Value) ∧ ((⟨4, fr, tt, zc n L, []⟩ : Msg).Ok) ∧ Sep G W ((RowE (α := Int) own 3 v (zc n L)) :: Rs) w') := by
 refine zq (args := [.pointer (some ⟨b, 0, none⟩), .int .i64 (fr), .int .i64 (tt)]) Try.func47 rfl rfl ?_
 obtain ⟨vv1, m2, R3, hb4, hv5, hr6⟩ := SetO.sh hb
 have hsm7 : (zc n L).length * 8 ≤ 140737488355328 := hv5.small
 refine zd ?_
 refine za (by kernel_rfl) (fun _ => ?_)
 refine st (zX Try.zeroValue57 ?_)
 intro w10 b9 hn8
 have hS11 := hS0.new hn8
 refine zg ?_
 refine zd ?_
 refine za (by kernel_rfl) (fun _ => ?_)
 refine st (zb (v := .int .i64 (fr)) rfl ?_)
 refine st (zb (v := .int .i64 (tt)) rfl ?_)
 refine st (zb (v := .pointer (some ⟨b, 0, none⟩)) rfl ?_)
 refine st (zj (f := 26) (vals := [.pointer (some ⟨b, 0, none⟩)]) (cap := []) rfl rfl Try.call26 (xM  hb hS11) ?_)
 rintro v12 w13 ⟨_, rfl, hS14⟩
 have hr15 := hS14.row (i := 0) rfl
 have hr15s : _ * 8 ≤ _ := hr15.2
 have ok16 : Msg.Ok (⟨4, fr, tt, zc n L, []⟩ : Msg) := ⟨(show InR (4) from (by decide)), (show InR (fr) from hfr), (show InR (tt) from htt)⟩
 refine st (zW (parts' := [(0, .int .i64 (4)), (1, .int .i64 (fr)), (2, .int .i64 (tt)), (3, v12)]) (v := .agg ((⟨4, fr, tt, zc n L, []⟩ : Msg).cells v12 (.slice none 0 0)).toArray) rfl (by obtain ⟨_, _, hv17, _⟩ := hr15.1; rw [show v12 = Value.slice _ _ _ from hv17]; simp [Instr.build, Instr.fill, go_sem, Msg.cells]) ?_)
 refine stn (zT (v := .agg ((⟨4, fr, tt, zc n L, []⟩ : Msg).cells v12 (.slice none 0 0)).toArray) (c' := ((⟨4, fr, tt, zc n L, []⟩ : Msg).cells v12 (.slice none 0 0)).toArray) Try.sizeOf57 rfl rfl (hS14.blk (i := 1) rfl) (yz ⟨rfl, rfl, rfl, hr15.1.one, rfl, trivial⟩) (Nat.le_of_ble_eq_true rfl) rfl ?_)
 intro w18 hp19
 have hS20 := hS14.pt1 hp19
 refine zg ?_
 refine zw ?_
 refine XR (b := b9) Try.results47 Try.isAgg57 Try.sizeOf57 rfl rfl (CellsAt.all (hS20.blk (i := 1) rfl)) ?_
 have hS21 : Sep G W ((RowE (α := Int) own 3 v12 (zc n L)) :: Rs) w18 := hS20.sel 2 [0] (Nat.le_add_left _ _) rfl rfl
 refine ⟨v12, rfl, ?_, hS21⟩
 assumption

end Go.Proofs.Ytgjgmojjeehieaa
end

section
/- Steps of the proofs of this seat: part T2. -/
set_option maxRecDepth 8000
set_option maxHeartbeats 4000000
namespace Go.Proofs.Ytgjgmojjeehieaa
open Go.Proofs Go.RowKit

def toM (f t : Int) (m : Msg) : Msg := { m with frm := f, dst := t }
def toK (f t : Int) (k : Nat) (l : List Msg) : List Msg := (l.take k).map (toM f t) ++ l.drop k
def toL (f t : Int) (l : List Msg) : List Msg := l.map (toM f t)
theorem Xh {f t : Int} {k : Nat} {l : List Msg} : (toK f t k l).length = l.length := by unfold toK; simp; omega
theorem UK {f t : Int} {k : Nat} {l : List Msg} (h : k = l.length) : toK f t k l = toL f t l := by subst h; unfold toK toL; simp
theorem Qc {f t : Int} {k : Nat} {l : List Msg} (h : k < l.length) : (toK f t k l).getD k default = l.getD k default := by
  rw [zo _ (by rw [Xh]; exact h), zo _ h]
  unfold toK
  rw [List.getElem_append_right (by simp; omega)]
  simp only [List.length_map, List.length_take, List.getElem_drop]
  congr 1; omega
theorem Uz {f t : Int} {k : Nat} {l : List Msg} (h : k < l.length) {x : Msg} (hx : x = toM f t (l.getD k default)) : (toK f t k l).set k x = toK f t (k + 1) l := by
  subst hx
  unfold toK
  rw [List.take_succ_eq_append_getElem h, List.map_append, List.append_assoc, List.set_append_right _ _ (by simp only [List.length_map, List.length_take]; omega), List.drop_eq_getElem_cons h]
  simp only [List.length_map, List.length_take, List.map_cons, List.map_nil, List.singleton_append]
  rw [show k - min k l.length = 0 by omega, List.set_cons_zero, zo _ h]
theorem Ux {f t : Int} {k : Nat} {l : List Msg} (h : k < l.length) :
    (((toK f t k l).set k { (toK f t k l).getD k default with frm := f }).set k { ((toK f t k l).set k { (toK f t k l).getD k default with frm := f }).getD k default with dst := t }) = toK f t (k + 1) l := by
  rw [List.set_set]
  refine Uz h ?_
  rw [zo _ (by rw [List.length_set, Xh]; exact h), List.getElem_set_self, Qc h]; rfl
def Zt (L : List Ev) (m : Msg) (c : Int) : List Ev := zA L m.vec (max 1 (min c 32))
def Ze (n : Nat) (L : List Ev) (m : Msg) : Bool := decide (m.kind = 1) && (decide (zK m.vec (zc n L) = 2) || decide (zK m.vec (zc n L) = 3))
def ZJ (n : Nat) (L : List Ev) (m : Msg) (c : Int) : List Msg := (if 0 < (Zt L m c).length then [⟨3, 0, 0, [], Zt L m c⟩] else []) ++ (if Ze n L m = true then [⟨2, 0, 0, zc n L, []⟩] else [])
def xi (n : Nat) (L : List Ev) (self : Int) (m : Msg) (c : Int) : List Msg :=
  if ((!decide (m.kind = 1)) && (!decide (m.kind = 2))) = true then [] else toL self m.frm (if (ZJ n L m c).length = 0 then [⟨4, self, m.frm, zc n L, []⟩] else ZJ n L m c)
theorem yI {d : Option Tmp} {ty : TypeId} {pos : String} {af : Array Edge} {g : Option (Nat × Bool)} {σ : Env} {w : World} {K : Value → World → Prop} {x : Operand} {b o : Nat} (hx : ev σ x = .pointer (some ⟨b, o, none⟩)) (h : K (.pointer (some ⟨b, o + 1, none⟩)) w) : opV Try.prog ⟨d, .fieldAddr 57 x 1, ty, pos, af, g⟩ σ w K := zL Try.underlying57 rfl rfl (fun w => ⟨0, Try.sizeOf3 w⟩) hx h
theorem ZW {d : Option Tmp} {ty : TypeId} {pos : String} {af : Array Edge} {g : Option (Nat × Bool)} {σ : Env} {w : World} {K : Value → World → Prop} {x : Operand} {b o : Nat} (hx : ev σ x = .pointer (some ⟨b, o, none⟩)) (h : K (.pointer (some ⟨b, o + 2, none⟩)) w) : opV Try.prog ⟨d, .fieldAddr 57 x 2, ty, pos, af, g⟩ σ w K := zL Try.underlying57 rfl rfl (fun w => ⟨0, Try.sizeOf3 w⟩) hx h
theorem UW {G : Nat → Prop} {W w : World} {Rs : List HP} {f : Int} (hf : InR f) {t : Int} (ht : InR t) {vl : Value} {l : List Msg} (hS0 : Sep G W ((RowE (α := Msg) own 57 vl l) :: Rs) w) : Ret Try.prog 74 [.int .i64 (f), .int .i64 (t), vl] w (fun r w' => ∃ (v : Value), r = (v : Value) ∧ Sep G W ((RowE (α := Msg) own 57 v (toL f t l)) :: Rs) w') := by
 refine zq (args := [.int .i64 (f), .int .i64 (t), vl]) Try.func74 rfl rfl ?_
 have hr1 := hS0.row (i := 0) rfl
 have hr1s : _ * 72 ≤ _ := hr1.2
 refine zd ?_
 refine za (by kernel_rfl) (fun _ => ?_)
 refine st (zf (v := (.slice none 0 0)) rfl ?_)
 refine zg ?_
 refine zd ?_
 refine zd ?_
 refine za (by kernel_rfl) (fun _ => ?_)
 refine st (zb (v := vl) rfl ?_)
 refine st (zB (n := l.length) Try.underlying58 rfl hr1.1 ?_)
 refine st (zb (v := .int .i64 (0)) rfl ?_)
 refine zg ?_
 refine zx ?_
 refine yb (fun mq σ wq => ∃ (k : Nat) (ρ : Env), mq = l.length - k ∧ σ = ye ρ [(0, .int .i64 (f)), (1, .int .i64 (t)), (2, vl), (9, .int .i64 ((l.length : Nat) : Int)), (10, .int .i64 ((k : Nat) : Int))] ∧ (k ≤ l.length) ∧ Sep G W ((RowE (α := Msg) own 57 vl (toK f t k l)) :: Rs) wq) ⟨0, _, rfl, zn ⟨rfl, rfl, rfl, rfl, rfl, trivial⟩, Nat.zero_le _, hS0⟩ ?_
 rintro m3 σ4 w2 ⟨k, ρl1, rfl, rfl, hk, hS5⟩
 have hr6 := hS5.row (i := 0) rfl
 have hr6s : _ * 72 ≤ _ := hr6.2
 have hln9 : (toK f t k l).length = l.length := Xh
 refine zd ?_
 refine za (by kernel_rfl) (fun _ => ?_)
 refine st (zJ (k := .i64) (a := ((k : Nat) : Int)) (b := ((l.length : Nat) : Int)) rfl rfl ?_)
 refine zg ?_
 refine zd ?_
 cases hc7 : decide (((k : Nat) : Int) < ((l.length : Nat) : Int))
 ·skip
  have hc7 := of_decide_eq_false hc7
  refine zk rfl ?_
  refine ya ?_
  refine zQ ?_
  refine zd ?_
  refine za (by kernel_rfl) (fun _ => ?_)
  refine st (zb (v := vl) rfl ?_)
  refine st (zf (v := vl) rfl ?_)
  refine zg ?_
  refine zw ?_
  refine zM Try.results74 (show _ = (vl : Value) from rfl) ?_
  rw [UK (by omega)] at hS5
  refine ⟨vl, rfl, hS5⟩
 ·skip
  have hc7 := of_decide_eq_true hc7
  refine zm rfl ?_
  refine zp ?_
  refine zd ?_
  refine zx ?_
  refine zd ?_
  refine za (by kernel_rfl) (fun _ => ?_)
  refine st (zb (v := .int .i64 ((k : Nat) : Int)) rfl ?_)
  refine st (zf (v := .int .i64 ((k : Nat) : Int)) rfl ?_)
  refine zg ?_
  refine za (by kernel_rfl) (fun _ => ?_)
  refine st (zb (v := vl) rfl ?_)
  refine st (zb (v := .int .i64 ((k : Nat) : Int)) rfl ?_)
  refine st (zb (v := vl) rfl ?_)
  refine st (zb (v := .int .i64 ((k : Nat) : Int)) rfl ?_)
  refine st (zb (v := .int .i64 (f)) rfl ?_)
  refine st (zb (v := .int .i64 (t)) rfl ?_)
  have hi8 : k < (toK f t k l).length := (by first | omega | (simp only [zu]; omega))
  refine st (zl (k := 5) (i := k) Try.underlying58 Try.sizeOf57 rfl hr6.1 rfl hi8 ?_)
  refine st (yI rfl ?_)
  have hS10 : Sep G W ((RowE (α := Msg) own 57 vl (toK f t k l)) :: Emp :: Rs) w2 := hS5.emp1
  refine stn (xl (α := Msg) (j := k) (o := 1) (u := .int .i64 (f)) (us := [.int .i64 (f)]) (x1 := ({ ((toK f t k l).getD k default) with frm := f } : Msg)) hS10 Try.sizeOf3 (by first | omega | (simp only [zu]; omega)) rfl rfl rfl (Nat.le_of_ble_eq_true rfl) (yz ⟨rfl, trivial⟩) (fun _ _ _ hel _ => (by rw [← zo default (by omega)] at hel; obtain ⟨d0, d1, rfl, h0, h1, hok⟩ := hel; exact ⟨_, _, rfl, h0, h1, ⟨hok.kind, (show InR (f) from hf), hok.dst⟩⟩)) ?_)
  intro w9 hS11
  have hr12 := hS11.row (i := 0) rfl
  have hr12s : _ * 72 ≤ _ := hr12.2
  have hi13 : k < ((toK f t k l).set k ({ ((toK f t k l).getD k default) with frm := f } : Msg)).length := (by first | omega | (simp only [zu]; omega))
  refine st (zl (k := 5) (i := k) Try.underlying58 Try.sizeOf57 rfl hr12.1 rfl hi13 ?_)
  refine st (ZW rfl ?_)
  have hS15 : Sep G W ((RowE (α := Msg) own 57 vl ((toK f t k l).set k ({ ((toK f t k l).getD k default) with frm := f } : Msg))) :: Emp :: Rs) w9 := hS11.emp1
  refine stn (xl (α := Msg) (j := k) (o := 2) (u := .int .i64 (t)) (us := [.int .i64 (t)]) (x1 := ({ (((toK f t k l).set k ({ ((toK f t k l).getD k default) with frm := f } : Msg)).getD k default) with dst := t } : Msg)) hS15 Try.sizeOf3 (by first | omega | (simp only [zu]; omega)) rfl rfl rfl (Nat.le_of_ble_eq_true rfl) (yz ⟨rfl, trivial⟩) (fun _ _ _ hel _ => (by rw [← zo default (by omega)] at hel; obtain ⟨d0, d1, rfl, h0, h1, hok⟩ := hel; exact ⟨_, _, rfl, h0, h1, ⟨hok.kind, hok.frm, (show InR (t) from ht)⟩⟩)) ?_)
  intro w14 hS16
  have hr17 := hS16.row (i := 0) rfl
  have hr17s : _ * 72 ≤ _ := hr17.2
  refine zg ?_
  refine za (by kernel_rfl) (fun _ => ?_)
  have hr18 : InR ((k + 1 : Nat) : Int) := by first | omega | (simp only [zu]; omega)
  refine st (zU (r := ((k + 1 : Nat) : Int)) (k := .i64) (a := ((k : Nat) : Int)) (b := 1) rfl rfl (by rw [show (((k : Nat) : Int) + 1 : Int) = ((k + 1 : Nat) : Int) by first | omega | (simp only [zu]; omega)]; exact zH hr18) ?_)
  refine st (zb (v := .int .i64 ((k + 1 : Nat) : Int)) rfl ?_)
  refine zg ?_
  rw [Ux (by omega)] at hS16
  exact ⟨_, by omega, k + 1, _, rfl, zn ⟨rfl, rfl, rfl, rfl, rfl, trivial⟩, by omega, hS16⟩

section
variable {n : Nat} {L : List Ev} {self : Int} {m : Msg} {c : Int}
theorem VD (hk : ((!decide (m.kind = 1)) && (!decide (m.kind = 2))) = true) : ([] : List Msg) = xi n L self m c := by unfold xi; rw [if_pos hk]
theorem WH (hc : ¬ (0 : Int) < (((zA L m.vec (max 1 (min c 32))).length : Nat) : Int)) : ¬ 0 < (Zt L m c).length := by unfold Zt; omega
theorem WN (hc : (0 : Int) < (((zA L m.vec (max 1 (min c 32))).length : Nat) : Int)) : 0 < (Zt L m c).length := by unfold Zt; omega
theorem YY (hk : ((!decide (m.kind = 1)) && (!decide (m.kind = 2))) = false) : xi n L self m c = toL self m.frm (if (ZJ n L m c).length = 0 then [⟨4, self, m.frm, zc n L, []⟩] else ZJ n L m c) := by
  unfold xi; rw [if_neg (by rw [hk]; decide)]
theorem Uw (hk : ((!decide (m.kind = 1)) && (!decide (m.kind = 2))) = false) (hc : ¬ (0 : Int) < (((zA L m.vec (max 1 (min c 32))).length : Nat) : Int)) (ha : Ze n L m = false) : toL self m.frm [⟨4, self, m.frm, zc n L, []⟩] = xi n L self m c := by
  have o : ZJ n L m c = [] := by unfold ZJ; rw [if_neg (WH hc), ha]; rfl
  rw [YY hk, o]; rfl
theorem Ud (hk : ((!decide (m.kind = 1)) && (!decide (m.kind = 2))) = false) (hc : ¬ (0 : Int) < (((zA L m.vec (max 1 (min c 32))).length : Nat) : Int)) (ha : Ze n L m = true) : toL self m.frm [⟨2, 0, 0, zc n L, []⟩] = xi n L self m c := by
  have o : ZJ n L m c = [⟨2, 0, 0, zc n L, []⟩] := by unfold ZJ; rw [if_neg (WH hc), ha]; rfl
  rw [YY hk, o]; rfl
theorem Vx (hk : ((!decide (m.kind = 1)) && (!decide (m.kind = 2))) = false) (hc : (0 : Int) < (((zA L m.vec (max 1 (min c 32))).length : Nat) : Int)) (ha : Ze n L m = false) : toL self m.frm [⟨3, 0, 0, [], zA L m.vec (max 1 (min c 32))⟩] = xi n L self m c := by
  have o : ZJ n L m c = [⟨3, 0, 0, [], zA L m.vec (max 1 (min c 32))⟩] := by unfold ZJ; rw [if_pos (WN hc), ha]; rfl
  rw [YY hk, o]; rfl
theorem VY (hk : ((!decide (m.kind = 1)) && (!decide (m.kind = 2))) = false) (hc : (0 : Int) < (((zA L m.vec (max 1 (min c 32))).length : Nat) : Int)) (ha : Ze n L m = true) : toL self m.frm ([⟨3, 0, 0, [], zA L m.vec (max 1 (min c 32))⟩] ++ [⟨2, 0, 0, zc n L, []⟩]) = xi n L self m c := by
  have o : ZJ n L m c = [⟨3, 0, 0, [], zA L m.vec (max 1 (min c 32))⟩] ++ [⟨2, 0, 0, zc n L, []⟩] := by unfold ZJ; rw [if_pos (WN hc), ha]; rfl
  rw [YY hk, o]; rfl
end
theorem yF {d : Option Tmp} {ty : TypeId} {pos : String} {af : Array Edge} {g : Option (Nat × Bool)} {σ : Env} {w : World} {K : Value → World → Prop} {x : Operand} {b o : Nat} (hx : ev σ x = .pointer (some ⟨b, o, none⟩)) (h : K (.pointer (some ⟨b, o + 0, none⟩)) w) : opV Try.prog ⟨d, .fieldAddr 57 x 0, ty, pos, af, g⟩ σ w K := zL Try.underlying57 rfl rfl (fun w => ⟨0, Try.sizeOf3 w⟩) hx h
theorem yh {d : Option Tmp} {ty : TypeId} {pos : String} {af : Array Edge} {g : Option (Nat × Bool)} {σ : Env} {w : World} {K : Value → World → Prop} {x : Operand} {b o : Nat} (hx : ev σ x = .pointer (some ⟨b, o, none⟩)) (h : K (.pointer (some ⟨b, o + 3, none⟩)) w) : opV Try.prog ⟨d, .fieldAddr 57 x 3, ty, pos, af, g⟩ σ w K := zL Try.underlying57 rfl rfl (fun w => ⟨0, Try.sizeOf34 w⟩) hx h
theorem ZM : Elem Try.prog 58 57 5 72 := ⟨Try.underlying58, _, _, rfl, rfl, rfl, rfl, rfl⟩
theorem xN {G : Nat → Prop} {W w : World} {Rs : List HP} {b : Nat} {n : Nat} {L : List Ev} (hb : (SetO b n L).p W G) {self : Int} (hself : InR self) {m : Msg} {dm0 : Value} (hdm0 : RdS W G dm0 m.vec) {dm1 : Value} (hdm1 : RdS W G dm1 m.evs) (om : m.Ok) {chunk : Int} (hchunk : InR chunk) (hS0 : Sep G W Rs w) (hid : (L.map idE).Nodup) (hsr : Srt L) (hL : L.length ≤ 1000000) : Ret Try.prog 41 [.pointer (some ⟨b, 0, none⟩), .int .i64 (self), .agg (m.cells dm0 dm1).toArray, .int .i64 (chunk)] w (fun r w' => ∃ (v : Value), r = (v : Value) ∧ Sep G W ((RowE (α := Msg) own 57 v (xi n L self m chunk)) :: Rs) w') := by
 have hdm0s : _ * 8 ≤ _ := hdm0.small
 have hdm1s : _ * 96 ≤ _ := hdm1.small
 refine zq (args := [.pointer (some ⟨b, 0, none⟩), .int .i64 (self), .agg (m.cells dm0 dm1).toArray, .int .i64 (chunk)]) Try.func41 rfl rfl ?_
 obtain ⟨vv1, m2, R3, hb4, hv5, hr6⟩ := SetO.sh hb
 have hsm7 : (zc n L).length * 8 ≤ 140737488355328 := hv5.small
 refine zd ?_
 refine za (by kernel_rfl) (fun _ => ?_)
 refine st (yp (v := .agg (m.cells dm0 dm1).toArray) rfl ?_)
 intro w10 b9 hn8
 have hS11 := hS0.new hn8
 refine st (zf (v := (.slice none 0 0)) rfl ?_)
 refine zg ?_
 refine zd ?_
 refine zd ?_
 refine zF (by kernel_rfl) ?_
 refine st (yF rfl ?_)
 refine st (zh (v := .int .i64 (m.kind)) Try.isAgg3 rfl (zi (hS11.blk (i := 0) rfl) rfl) ?_)
 refine st (yu (k := .i64) (a := m.kind) (b := 1) rfl rfl ?_)
 refine st (zb (v := .bool (!decide (m.kind = 1))) rfl ?_)
 refine stc (V := .pointer (some ⟨b9, 0, none⟩)) rfl rfl (fun hb12 => ?_) ?_
 ·have hl13 := hb12
  have hl13 := yc hl13
  exact yF rfl ⟨rfl, rfl⟩
 refine stc (V := .int .i64 (m.kind)) rfl rfl (fun hb14 => ?_) ?_
 ·have hl15 := hb14
  have hl15 := yc hl15
  exact zh (v := .int .i64 (m.kind)) Try.isAgg3 (show _ = (.pointer (some ⟨b9, 0, none⟩) : Value) from (if_pos hb14)) (zi (hS11.blk (i := 0) rfl) rfl) ⟨rfl, rfl⟩
 refine stc (V := .bool (!decide (m.kind = 2))) rfl rfl (fun hb16 => ?_) ?_
 ·have hl17 := hb16
  have hl17 := yc hl17
  exact yu (k := .i64) (a := m.kind) (b := 2) (show _ = (.int .i64 (m.kind) : Value) from (if_pos hb16)) rfl ⟨rfl, rfl⟩
 refine st (zI (b := !decide (m.kind = 1)) (b' := !decide (m.kind = 2)) rfl (fun hbp => (show _ = (.bool (!decide (m.kind = 2)) : Value) from (if_pos hbp))) ?_)
 refine zg ?_
 cases hc18 : (!decide (m.kind = 1)) && (!decide (m.kind = 2))
 ·skip
  have hc18r := hc18
  try simp only [zr] at hc18
  refine zk rfl ?_
  refine zp ?_
  refine zd ?_
  refine za (by kernel_rfl) (fun _ => ?_)
  refine st (zf (v := (.slice none 0 0)) rfl ?_)
  refine zg ?_
  refine zd ?_
  refine zd ?_
  refine za (by kernel_rfl) (fun _ => ?_)
  refine st (zb (v := .pointer (some ⟨b, 0, none⟩)) rfl ?_)
  refine st (yh rfl ?_)
  refine st (zh (v := dm0) Try.isAgg34 rfl (zi (hS11.blk (i := 0) rfl) rfl) ?_)
  refine st (zb (v := .int .i64 (chunk)) rfl ?_)
  refine st (Zc (k := .i64) (a := chunk) (b := 32) rfl rfl ?_)
  refine st (xE (k := .i64) (a := 1) (b := min chunk 32) rfl rfl ?_)
  refine st (zj (f := 25) (vals := [.pointer (some ⟨b, 0, none⟩), dm0, .int .i64 (max 1 (min chunk 32))]) (cap := []) rfl rfl Try.call25 (YI (l := m.vec) (vl := dm0) (most := max 1 (min chunk 32)) hb hdm0 (by have h1 : InR 1 := (by decide); have h2 : InR (min chunk 32) := (by have h1 : InR chunk := hchunk; have h2 : InR 32 := (by decide); omega); omega) hS11 (hid) (hsr) (hL)) ?_)
  rintro v19 w20 ⟨_, rfl, hS21⟩
  have hr22 := hS21.row (i := 0) rfl
  have hr22s : _ * 96 ≤ _ := hr22.2
  refine st (zf (v := v19) rfl ?_)
  refine zg ?_
  refine zd ?_
  refine za (by kernel_rfl) (fun _ => ?_)
  refine st (zb (v := v19) rfl ?_)
  refine st (zB (n := (zA L m.vec (max 1 (min chunk 32))).length) Try.underlying22 rfl hr22.1 ?_)
  refine st (yy (k := .i64) (a := (((zA L m.vec (max 1 (min chunk 32))).length : Nat) : Int)) (b := 0) rfl rfl ?_)
  refine zg ?_
  cases hc23 : decide (0 < (((zA L m.vec (max 1 (min chunk 32))).length : Nat) : Int))
  ·skip
   have hc23r := hc23
   have hc23 := of_decide_eq_false hc23
   refine zk rfl ?_
   refine zp ?_
   refine zd ?_
   refine za (by kernel_rfl) (fun _ => ?_)
   refine st (zb (v := .pointer (some ⟨b, 0, none⟩)) rfl ?_)
   refine st (zj (f := 26) (vals := [.pointer (some ⟨b, 0, none⟩)]) (cap := []) rfl rfl Try.call26 (xM  hb hS21) ?_)
   rintro v24 w25 ⟨_, rfl, hS26⟩
   have hr27 := hS26.row (i := 0) rfl
   have hr27s : _ * 8 ≤ _ := hr27.2
   refine st (zf (v := v24) rfl ?_)
   refine zg ?_
   refine zd ?_
   refine zd ?_
   refine za (by kernel_rfl) (fun _ => ?_)
   refine st (yh rfl ?_)
   refine st (zh (v := dm0) Try.isAgg34 rfl (zi (hS26.blk (i := 2) rfl) rfl) ?_)
   refine st (zb (v := v24) rfl ?_)
   obtain ⟨G28, hA30, hB31, hS32, hk33⟩ := hS26.lend
   have hrd34 := RowE.rd hA30
   have hrd34s : _ * 8 ≤ _ := hrd34.small
   refine st (zj (f := 73) (vals := [dm0, v24]) (cap := []) rfl rfl Try.call73 (YQ (a := m.vec) (va := dm0) (b := zc n L) (vb := v24) (RdS.base hdm0 hB31) hrd34 hS32) ?_)
   rintro _ w36 ⟨rfl, hin35, hS37⟩
   have hS38 := hk33 _ _ hS37
   refine st (zf (v := .int .i64 ((zK m.vec (zc n L)))) rfl ?_)
   refine zg ?_
   refine zd ?_
   refine zF (by kernel_rfl) ?_
   refine st (yF rfl ?_)
   refine st (zh (v := .int .i64 (m.kind)) Try.isAgg3 rfl (zi (hS38.blk (i := 2) rfl) rfl) ?_)
   refine st (zO (k := .i64) (a := m.kind) (b := 1) rfl rfl ?_)
   refine st (zb (v := .bool (decide (m.kind = 1))) rfl ?_)
   refine stc (V := .int .i64 ((zK m.vec (zc n L)))) rfl rfl (fun hb39 => ?_) ?_
   ·have hl40 := hb39
    have hl40 := of_decide_eq_true hl40
    exact zb (v := .int .i64 ((zK m.vec (zc n L)))) rfl ⟨rfl, rfl⟩
   refine stc (V := .bool (decide ((zK m.vec (zc n L)) = 2))) rfl rfl (fun hb41 => ?_) ?_
   ·have hl42 := hb41
    have hl42 := of_decide_eq_true hl42
    exact zO (k := .i64) (a := (zK m.vec (zc n L))) (b := 2) (show _ = (.int .i64 ((zK m.vec (zc n L))) : Value) from (if_pos hb41)) rfl ⟨rfl, rfl⟩
   refine stc (V := .bool (decide ((zK m.vec (zc n L)) = 2))) rfl rfl (fun hb43 => ?_) ?_
   ·have hl44 := hb43
    have hl44 := of_decide_eq_true hl44
    exact zb (v := .bool (decide ((zK m.vec (zc n L)) = 2))) (show _ = (.bool (decide ((zK m.vec (zc n L)) = 2)) : Value) from (if_pos hb43)) ⟨rfl, rfl⟩
   refine XK (V := .int .i64 ((zK m.vec (zc n L)))) rfl rfl (fun hb45 => ?_) ?_
   ·have hl46 := hb45.1
    have hl46 := of_decide_eq_true hl46
    have hl47 := hb45.2
    have hl47 := of_decide_eq_false hl47
    exact zb (v := .int .i64 ((zK m.vec (zc n L)))) rfl ⟨rfl, rfl⟩
   refine XK (V := .bool (decide ((zK m.vec (zc n L)) = 3))) rfl rfl (fun hb48 => ?_) ?_
   ·have hl49 := hb48.1
    have hl49 := of_decide_eq_true hl49
    have hl50 := hb48.2
    have hl50 := of_decide_eq_false hl50
    exact zO (k := .i64) (a := (zK m.vec (zc n L))) (b := 3) (show _ = (.int .i64 ((zK m.vec (zc n L))) : Value) from (if_pos ⟨hb48.1, hb48.2⟩)) rfl ⟨rfl, rfl⟩
   refine stc (V := .bool ((decide ((zK m.vec (zc n L)) = 2)) || (decide ((zK m.vec (zc n L)) = 3)))) rfl rfl (fun hb51 => ?_) ?_
   ·have hl52 := hb51
    have hl52 := of_decide_eq_true hl52
    exact zD (b := decide ((zK m.vec (zc n L)) = 2)) (b' := decide ((zK m.vec (zc n L)) = 3)) (show _ = (.bool (decide ((zK m.vec (zc n L)) = 2)) : Value) from (if_pos hb51)) (fun hbp => (show _ = (.bool (decide ((zK m.vec (zc n L)) = 3)) : Value) from (if_pos ⟨hb51, hbp⟩))) ⟨rfl, rfl⟩
   refine st (zI (b := decide (m.kind = 1)) (b' := (decide ((zK m.vec (zc n L)) = 2)) || (decide ((zK m.vec (zc n L)) = 3))) rfl (fun hbp => (show _ = (.bool ((decide ((zK m.vec (zc n L)) = 2)) || (decide ((zK m.vec (zc n L)) = 3))) : Value) from (if_pos hbp))) ?_)
   refine zg ?_
   cases hc53 : (decide (m.kind = 1)) && ((decide ((zK m.vec (zc n L)) = 2)) || (decide ((zK m.vec (zc n L)) = 3)))
   ·skip
    have hc53r := hc53
    try simp only [zr] at hc53
    refine zk rfl ?_
    refine zp ?_
    refine zd ?_
    refine zd ?_
    refine za (by kernel_rfl) (fun _ => ?_)
    refine st (zb (v := (.slice none 0 0)) rfl ?_)
    refine st (zB (n := 0) Try.underlying58 rfl (⟨none, 0, rfl, Nat.le_refl _, fun h => absurd h (Nat.lt_irrefl 0)⟩ : IsSl _ 0) ?_)
    refine st (zO (k := .i64) (a := ((0 : Nat) : Int)) (b := 0) rfl rfl ?_)
    have hkn54 : (decide (((0 : Nat) : Int) = 0)) = true := by simp
    rw [hkn54]
    refine zg ?_
    refine zm rfl ?_
    refine za (by kernel_rfl) (fun _ => ?_)
    refine st (zb (v := (.slice none 0 0)) rfl ?_)
    refine st (zb (v := .pointer (some ⟨b, 0, none⟩)) rfl ?_)
    refine st (zb (v := .int .i64 (self)) rfl ?_)
    refine st (yI rfl ?_)
    refine st (zh (v := .int .i64 (m.frm)) Try.isAgg3 rfl (zi (hS38.blk (i := 2) rfl) rfl) ?_)
    refine st (zj (f := 47) (vals := [.pointer (some ⟨b, 0, none⟩), .int .i64 (self), .int .i64 (m.frm)]) (cap := []) rfl rfl Try.call47 (ZY (fr := self) (tt := m.frm) hb hself om.frm hS38) ?_)
    rintro _ w57 ⟨v55, rfl, hmo56, hS58⟩
    have hr59 := hS58.row (i := 0) rfl
    have hr59s : _ * 8 ≤ _ := hr59.2
    refine st (zz (k := 5) (parts' := [(0, .agg ((⟨4, self, m.frm, zc n L, []⟩ : Msg).cells v55 (.slice none 0 0)).toArray)]) (c := ((⟨4, self, m.frm, zc n L, []⟩ : Msg).cells v55 (.slice none 0 0)).toArray) Try.underlying58 Try.sizeOf57 Try.zeroValue57 (by decide) rfl (by kernel_rfl) ?_)
    intro w62 b61 hn60
    have hS63 := hS58.new hn60
    have hS67 : Sep G W ((RowE (α := Msg) own 57 (.slice none 0 0) ([] : List Msg)) :: (Blk b61 ((⟨4, self, m.frm, zc n L, []⟩ : Msg).cells v55 (.slice none 0 0)).toArray 57) :: (RowE (α := Int) own 3 v55 (zc n L)) :: (RowE (α := Int) own 3 v24 (zc n L)) :: (RowE (α := Ev) own 36 v19 (zA L m.vec (max 1 (min chunk 32)))) :: (Blk b9 (m.cells dm0 dm1).toArray 57) :: Rs) w62 := hS63.rowNil own 57
    have hr68 := hS67.row (i := 0) rfl
    have hr68s : _ * 72 ≤ _ := hr68.2
    have hbk69 := hS67.blk (i := 1) rfl
    have hS70 : Sep G W ((RowE (α := Msg) own 57 (.slice none 0 0) ([] : List Msg)) :: (RowE (α := Int) own 3 v55 (zc n L)) :: (RowE (α := Int) own 3 v24 (zc n L)) :: (RowE (α := Ev) own 36 v19 (zA L m.vec (max 1 (min chunk 32)))) :: (Blk b9 (m.cells dm0 dm1).toArray 57) :: Rs) w62 := hS67.sel 6 [0, 2, 3, 4, 5] (Nat.le_add_left _ _) rfl rfl
    refine st (zN (src := own) (bytes := 72) (x1 := (⟨4, self, m.frm, zc n L, []⟩ : Msg)) hS70 ZM rfl rfl hbk69 (fun _ _ hN => ⟨_, _, rfl, RowE.soft hN, (RdS.nil _ _), hmo56⟩) (by first | omega | (simp only [List.length_append, List.length_cons, List.length_nil, List.length_take, List.length_drop]; omega)) rfl ?_)
    intro v65 w64 hS66
    have hS66 : Sep G W ((RowE (α := Msg) own 57 v65 [(⟨4, self, m.frm, zc n L, []⟩ : Msg)]) :: (RowE (α := Int) own 3 v24 (zc n L)) :: (RowE (α := Ev) own 36 v19 (zA L m.vec (max 1 (min chunk 32)))) :: (Blk b9 (m.cells dm0 dm1).toArray 57) :: Rs) w64 := hS66
    have hr71 := hS66.row (i := 0) rfl
    have hr71s : _ * 72 ≤ _ := hr71.2
    refine st (zf (v := v65) rfl ?_)
    refine zg ?_
    refine zd ?_
    refine za (by kernel_rfl) (fun _ => ?_)
    refine st (zb (v := .int .i64 (self)) rfl ?_)
    refine st (yI rfl ?_)
    refine st (zh (v := .int .i64 (m.frm)) Try.isAgg3 rfl (zi (hS66.blk (i := 3) rfl) rfl) ?_)
    refine st (zb (v := v65) rfl ?_)
    refine st (zj (f := 74) (vals := [.int .i64 (self), .int .i64 (m.frm), v65]) (cap := []) rfl rfl Try.call74 (UW (f := self) (t := m.frm) hself om.frm hS66) ?_)
    rintro v72 w73 ⟨_, rfl, hS74⟩
    have hr75 := hS74.row (i := 0) rfl
    have hr75s : _ * 72 ≤ _ := hr75.2
    refine st (zf (v := v72) rfl ?_)
    refine zg ?_
    refine zw ?_
    refine zM Try.results41 (show _ = (v72 : Value) from rfl) ?_
    have hS76 : Sep G W ((RowE (α := Msg) own 57 v72 (toL self m.frm [(⟨4, self, m.frm, zc n L, []⟩ : Msg)])) :: Rs) w73 := hS74.sel 4 [0] (Nat.le_add_left _ _) rfl rfl
    rw [Uw (n := n) (L := L) (self := self) (c := chunk) hc18r hc23 (show Ze n L m = false from hc53r)] at hS76
    refine ⟨v72, rfl, hS76⟩
   ·skip
    have hc53r := hc53
    try simp only [zr] at hc53
    refine zm rfl ?_
    refine za (by kernel_rfl) (fun _ => ?_)
    refine st (zb (v := (.slice none 0 0)) rfl ?_)
    refine st (zb (v := v24) rfl ?_)
    have ok77 : Msg.Ok (⟨2, 0, 0, zc n L, []⟩ : Msg) := ⟨(show InR (2) from (by decide)), (show InR (0) from (by decide)), (show InR (0) from (by decide))⟩
    refine st (zW (parts' := [(0, .int .i64 (2)), (3, v24)]) (v := .agg ((⟨2, 0, 0, zc n L, []⟩ : Msg).cells v24 (.slice none 0 0)).toArray) rfl (by obtain ⟨_, _, hv78, _⟩ := hr27.1; rw [show v24 = Value.slice _ _ _ from hv78]; simp [Instr.build, Instr.fill, go_sem, Msg.cells]) ?_)
    refine st (zz (k := 5) (parts' := [(0, .agg ((⟨2, 0, 0, zc n L, []⟩ : Msg).cells v24 (.slice none 0 0)).toArray)]) (c := ((⟨2, 0, 0, zc n L, []⟩ : Msg).cells v24 (.slice none 0 0)).toArray) Try.underlying58 Try.sizeOf57 Try.zeroValue57 (by decide) rfl (by kernel_rfl) ?_)
    intro w81 b80 hn79
    have hS82 := hS38.new hn79
    have hS86 : Sep G W ((RowE (α := Msg) own 57 (.slice none 0 0) ([] : List Msg)) :: (Blk b80 ((⟨2, 0, 0, zc n L, []⟩ : Msg).cells v24 (.slice none 0 0)).toArray 57) :: (RowE (α := Int) own 3 v24 (zc n L)) :: (RowE (α := Ev) own 36 v19 (zA L m.vec (max 1 (min chunk 32)))) :: (Blk b9 (m.cells dm0 dm1).toArray 57) :: Rs) w81 := hS82.rowNil own 57
    have hr87 := hS86.row (i := 0) rfl
    have hr87s : _ * 72 ≤ _ := hr87.2
    have hbk88 := hS86.blk (i := 1) rfl
    have hS89 : Sep G W ((RowE (α := Msg) own 57 (.slice none 0 0) ([] : List Msg)) :: (RowE (α := Int) own 3 v24 (zc n L)) :: (RowE (α := Ev) own 36 v19 (zA L m.vec (max 1 (min chunk 32)))) :: (Blk b9 (m.cells dm0 dm1).toArray 57) :: Rs) w81 := hS86.sel 5 [0, 2, 3, 4] (Nat.le_add_left _ _) rfl rfl
    refine st (zN (src := own) (bytes := 72) (x1 := (⟨2, 0, 0, zc n L, []⟩ : Msg)) hS89 ZM rfl rfl hbk88 (fun _ _ hN => ⟨_, _, rfl, RowE.soft hN, (RdS.nil _ _), ok77⟩) (by first | omega | (simp only [List.length_append, List.length_cons, List.length_nil, List.length_take, List.length_drop]; omega)) rfl ?_)
    intro v84 w83 hS85
    have hS85 : Sep G W ((RowE (α := Msg) own 57 v84 [(⟨2, 0, 0, zc n L, []⟩ : Msg)]) :: (RowE (α := Ev) own 36 v19 (zA L m.vec (max 1 (min chunk 32)))) :: (Blk b9 (m.cells dm0 dm1).toArray 57) :: Rs) w83 := hS85
    have hr90 := hS85.row (i := 0) rfl
    have hr90s : _ * 72 ≤ _ := hr90.2
    refine st (zf (v := v84) rfl ?_)
    refine zg ?_
    refine zd ?_
    refine zd ?_
    refine za (by kernel_rfl) (fun _ => ?_)
    refine st (zb (v := v84) rfl ?_)
    refine st (zB (n := [(⟨2, 0, 0, zc n L, []⟩ : Msg)].length) Try.underlying58 rfl hr90.1 ?_)
    refine st (zO (k := .i64) (a := (([(⟨2, 0, 0, zc n L, []⟩ : Msg)].length : Nat) : Int)) (b := 0) rfl rfl ?_)
    have hkn91 : (decide ((([(⟨2, 0, 0, zc n L, []⟩ : Msg)].length : Nat) : Int) = 0)) = false := by simp
    rw [hkn91]
    refine zg ?_
    refine zk rfl ?_
    refine zp ?_
    refine zd ?_
    refine za (by kernel_rfl) (fun _ => ?_)
    refine st (zb (v := .int .i64 (self)) rfl ?_)
    refine st (yI rfl ?_)
    refine st (zh (v := .int .i64 (m.frm)) Try.isAgg3 rfl (zi (hS85.blk (i := 2) rfl) rfl) ?_)
    refine st (zb (v := v84) rfl ?_)
    refine st (zj (f := 74) (vals := [.int .i64 (self), .int .i64 (m.frm), v84]) (cap := []) rfl rfl Try.call74 (UW (f := self) (t := m.frm) hself om.frm hS85) ?_)
    rintro v92 w93 ⟨_, rfl, hS94⟩
    have hr95 := hS94.row (i := 0) rfl
    have hr95s : _ * 72 ≤ _ := hr95.2
    refine st (zf (v := v92) rfl ?_)
    refine zg ?_
    refine zw ?_
    refine zM Try.results41 (show _ = (v92 : Value) from rfl) ?_
    have hS96 : Sep G W ((RowE (α := Msg) own 57 v92 (toL self m.frm [(⟨2, 0, 0, zc n L, []⟩ : Msg)])) :: Rs) w93 := hS94.sel 3 [0] (Nat.le_add_left _ _) rfl rfl
    rw [Ud (n := n) (L := L) (self := self) (c := chunk) hc18r hc23 (show Ze n L m = true from hc53r)] at hS96
    refine ⟨v92, rfl, hS96⟩
  ·skip
   have hc23r := hc23
   have hc23 := of_decide_eq_true hc23
   refine zm rfl ?_
   refine za (by kernel_rfl) (fun _ => ?_)
   refine st (zb (v := (.slice none 0 0)) rfl ?_)
   refine st (zb (v := v19) rfl ?_)
   have ok97 : Msg.Ok (⟨3, 0, 0, [], zA L m.vec (max 1 (min chunk 32))⟩ : Msg) := ⟨(show InR (3) from (by decide)), (show InR (0) from (by decide)), (show InR (0) from (by decide))⟩
   refine st (zW (parts' := [(0, .int .i64 (3)), (4, v19)]) (v := .agg ((⟨3, 0, 0, [], zA L m.vec (max 1 (min chunk 32))⟩ : Msg).cells (.slice none 0 0) v19).toArray) rfl (by obtain ⟨_, _, hv98, _⟩ := hr22.1; rw [show v19 = Value.slice _ _ _ from hv98]; simp [Instr.build, Instr.fill, go_sem, Msg.cells]) ?_)
   refine st (zz (k := 5) (parts' := [(0, .agg ((⟨3, 0, 0, [], zA L m.vec (max 1 (min chunk 32))⟩ : Msg).cells (.slice none 0 0) v19).toArray)]) (c := ((⟨3, 0, 0, [], zA L m.vec (max 1 (min chunk 32))⟩ : Msg).cells (.slice none 0 0) v19).toArray) Try.underlying58 Try.sizeOf57 Try.zeroValue57 (by decide) rfl (by kernel_rfl) ?_)
   intro w101 b100 hn99
   have hS102 := hS21.new hn99
   have hS106 : Sep G W ((RowE (α := Msg) own 57 (.slice none 0 0) ([] : List Msg)) :: (Blk b100 ((⟨3, 0, 0, [], zA L m.vec (max 1 (min chunk 32))⟩ : Msg).cells (.slice none 0 0) v19).toArray 57) :: (RowE (α := Ev) own 36 v19 (zA L m.vec (max 1 (min chunk 32)))) :: (Blk b9 (m.cells dm0 dm1).toArray 57) :: Rs) w101 := hS102.rowNil own 57
   have hr107 := hS106.row (i := 0) rfl
   have hr107s : _ * 72 ≤ _ := hr107.2
   have hbk108 := hS106.blk (i := 1) rfl
   have hS109 : Sep G W ((RowE (α := Msg) own 57 (.slice none 0 0) ([] : List Msg)) :: (RowE (α := Ev) own 36 v19 (zA L m.vec (max 1 (min chunk 32)))) :: (Blk b9 (m.cells dm0 dm1).toArray 57) :: Rs) w101 := hS106.sel 4 [0, 2, 3] (Nat.le_add_left _ _) rfl rfl
   refine st (zN (src := own) (bytes := 72) (x1 := (⟨3, 0, 0, [], zA L m.vec (max 1 (min chunk 32))⟩ : Msg)) hS109 ZM rfl rfl hbk108 (fun _ _ hN => ⟨_, _, rfl, (RdS.nil _ _), RowE.soft hN, ok97⟩) (by first | omega | (simp only [List.length_append, List.length_cons, List.length_nil, List.length_take, List.length_drop]; omega)) rfl ?_)
   intro v104 w103 hS105
   have hS105 : Sep G W ((RowE (α := Msg) own 57 v104 [(⟨3, 0, 0, [], zA L m.vec (max 1 (min chunk 32))⟩ : Msg)]) :: (Blk b9 (m.cells dm0 dm1).toArray 57) :: Rs) w103 := hS105
   have hr110 := hS105.row (i := 0) rfl
   have hr110s : _ * 72 ≤ _ := hr110.2
   refine st (zf (v := v104) rfl ?_)
   refine zg ?_
   refine zd ?_
   refine za (by kernel_rfl) (fun _ => ?_)
   refine st (zb (v := .pointer (some ⟨b, 0, none⟩)) rfl ?_)
   refine st (zj (f := 26) (vals := [.pointer (some ⟨b, 0, none⟩)]) (cap := []) rfl rfl Try.call26 (xM  hb hS105) ?_)
   rintro v111 w112 ⟨_, rfl, hS113⟩
   have hr114 := hS113.row (i := 0) rfl
   have hr114s : _ * 8 ≤ _ := hr114.2
   refine st (zf (v := v111) rfl ?_)
   refine zg ?_
   refine zd ?_
   refine zd ?_
   refine za (by kernel_rfl) (fun _ => ?_)
   refine st (yh rfl ?_)
   refine st (zh (v := dm0) Try.isAgg34 rfl (zi (hS113.blk (i := 2) rfl) rfl) ?_)
   refine st (zb (v := v111) rfl ?_)
   obtain ⟨G115, hA117, hB118, hS119, hk120⟩ := hS113.lend
   have hrd121 := RowE.rd hA117
   have hrd121s : _ * 8 ≤ _ := hrd121.small
   refine st (zj (f := 73) (vals := [dm0, v111]) (cap := []) rfl rfl Try.call73 (YQ (a := m.vec) (va := dm0) (b := zc n L) (vb := v111) (RdS.base hdm0 hB118) hrd121 hS119) ?_)
   rintro _ w123 ⟨rfl, hin122, hS124⟩
   have hS125 := hk120 _ _ hS124
   refine st (zf (v := .int .i64 ((zK m.vec (zc n L)))) rfl ?_)
   refine zg ?_
   refine zd ?_
   refine zF (by kernel_rfl) ?_
   refine st (yF rfl ?_)
   refine st (zh (v := .int .i64 (m.kind)) Try.isAgg3 rfl (zi (hS125.blk (i := 2) rfl) rfl) ?_)
   refine st (zO (k := .i64) (a := m.kind) (b := 1) rfl rfl ?_)
   refine st (zb (v := .bool (decide (m.kind = 1))) rfl ?_)
   refine stc (V := .int .i64 ((zK m.vec (zc n L)))) rfl rfl (fun hb126 => ?_) ?_
   ·have hl127 := hb126
    have hl127 := of_decide_eq_true hl127
    exact zb (v := .int .i64 ((zK m.vec (zc n L)))) rfl ⟨rfl, rfl⟩
   refine stc (V := .bool (decide ((zK m.vec (zc n L)) = 2))) rfl rfl (fun hb128 => ?_) ?_
   ·have hl129 := hb128
    have hl129 := of_decide_eq_true hl129
    exact zO (k := .i64) (a := (zK m.vec (zc n L))) (b := 2) (show _ = (.int .i64 ((zK m.vec (zc n L))) : Value) from (if_pos hb128)) rfl ⟨rfl, rfl⟩
   refine stc (V := .bool (decide ((zK m.vec (zc n L)) = 2))) rfl rfl (fun hb130 => ?_) ?_
   ·have hl131 := hb130
    have hl131 := of_decide_eq_true hl131
    exact zb (v := .bool (decide ((zK m.vec (zc n L)) = 2))) (show _ = (.bool (decide ((zK m.vec (zc n L)) = 2)) : Value) from (if_pos hb130)) ⟨rfl, rfl⟩
   refine XK (V := .int .i64 ((zK m.vec (zc n L)))) rfl rfl (fun hb132 => ?_) ?_
   ·have hl133 := hb132.1
    have hl133 := of_decide_eq_true hl133
    have hl134 := hb132.2
    have hl134 := of_decide_eq_false hl134
    exact zb (v := .int .i64 ((zK m.vec (zc n L)))) rfl ⟨rfl, rfl⟩
   refine XK (V := .bool (decide ((zK m.vec (zc n L)) = 3))) rfl rfl (fun hb135 => ?_) ?_
   ·have hl136 := hb135.1
    have hl136 := of_decide_eq_true hl136
    have hl137 := hb135.2
    have hl137 := of_decide_eq_false hl137
    exact zO (k := .i64) (a := (zK m.vec (zc n L))) (b := 3) (show _ = (.int .i64 ((zK m.vec (zc n L))) : Value) from (if_pos ⟨hb135.1, hb135.2⟩)) rfl ⟨rfl, rfl⟩
   refine stc (V := .bool ((decide ((zK m.vec (zc n L)) = 2)) || (decide ((zK m.vec (zc n L)) = 3)))) rfl rfl (fun hb138 => ?_) ?_
   ·have hl139 := hb138
    have hl139 := of_decide_eq_true hl139
    exact zD (b := decide ((zK m.vec (zc n L)) = 2)) (b' := decide ((zK m.vec (zc n L)) = 3)) (show _ = (.bool (decide ((zK m.vec (zc n L)) = 2)) : Value) from (if_pos hb138)) (fun hbp => (show _ = (.bool (decide ((zK m.vec (zc n L)) = 3)) : Value) from (if_pos ⟨hb138, hbp⟩))) ⟨rfl, rfl⟩
   refine st (zI (b := decide (m.kind = 1)) (b' := (decide ((zK m.vec (zc n L)) = 2)) || (decide ((zK m.vec (zc n L)) = 3))) rfl (fun hbp => (show _ = (.bool ((decide ((zK m.vec (zc n L)) = 2)) || (decide ((zK m.vec (zc n L)) = 3))) : Value) from (if_pos hbp))) ?_)
   refine zg ?_
   cases hc140 : (decide (m.kind = 1)) && ((decide ((zK m.vec (zc n L)) = 2)) || (decide ((zK m.vec (zc n L)) = 3)))
   ·skip
    have hc140r := hc140
    try simp only [zr] at hc140
    refine zk rfl ?_
    refine zp ?_
    refine zd ?_
    refine zd ?_
    refine za (by kernel_rfl) (fun _ => ?_)
    refine st (zb (v := v104) rfl ?_)
    refine st (zB (n := [(⟨3, 0, 0, [], zA L m.vec (max 1 (min chunk 32))⟩ : Msg)].length) Try.underlying58 rfl hr110.1 ?_)
    refine st (zO (k := .i64) (a := (([(⟨3, 0, 0, [], zA L m.vec (max 1 (min chunk 32))⟩ : Msg)].length : Nat) : Int)) (b := 0) rfl rfl ?_)
    have hkn141 : (decide ((([(⟨3, 0, 0, [], zA L m.vec (max 1 (min chunk 32))⟩ : Msg)].length : Nat) : Int) = 0)) = false := by simp
    rw [hkn141]
    refine zg ?_
    refine zk rfl ?_
    refine zp ?_
    refine zd ?_
    refine za (by kernel_rfl) (fun _ => ?_)
    refine st (zb (v := .int .i64 (self)) rfl ?_)
    refine st (yI rfl ?_)
    refine st (zh (v := .int .i64 (m.frm)) Try.isAgg3 rfl (zi (hS125.blk (i := 2) rfl) rfl) ?_)
    refine st (zb (v := v104) rfl ?_)
    have hS142 := hS125.mv1
    refine st (zj (f := 74) (vals := [.int .i64 (self), .int .i64 (m.frm), v104]) (cap := []) rfl rfl Try.call74 (UW (f := self) (t := m.frm) hself om.frm hS142) ?_)
    rintro v143 w144 ⟨_, rfl, hS145⟩
    have hr146 := hS145.row (i := 0) rfl
    have hr146s : _ * 72 ≤ _ := hr146.2
    refine st (zf (v := v143) rfl ?_)
    refine zg ?_
    refine zw ?_
    refine zM Try.results41 (show _ = (v143 : Value) from rfl) ?_
    have hS147 : Sep G W ((RowE (α := Msg) own 57 v143 (toL self m.frm [(⟨3, 0, 0, [], zA L m.vec (max 1 (min chunk 32))⟩ : Msg)])) :: Rs) w144 := hS145.sel 3 [0] (Nat.le_add_left _ _) rfl rfl
    rw [Vx (n := n) (L := L) (self := self) (c := chunk) hc18r hc23 (show Ze n L m = false from hc140r)] at hS147
    refine ⟨v143, rfl, hS147⟩
   ·skip
    have hc140r := hc140
    try simp only [zr] at hc140
    refine zm rfl ?_
    refine za (by kernel_rfl) (fun _ => ?_)
    refine st (zb (v := v104) rfl ?_)
    refine st (zb (v := v111) rfl ?_)
    have ok148 : Msg.Ok (⟨2, 0, 0, zc n L, []⟩ : Msg) := ⟨(show InR (2) from (by decide)), (show InR (0) from (by decide)), (show InR (0) from (by decide))⟩
    refine st (zW (parts' := [(0, .int .i64 (2)), (3, v111)]) (v := .agg ((⟨2, 0, 0, zc n L, []⟩ : Msg).cells v111 (.slice none 0 0)).toArray) rfl (by obtain ⟨_, _, hv149, _⟩ := hr114.1; rw [show v111 = Value.slice _ _ _ from hv149]; simp [Instr.build, Instr.fill, go_sem, Msg.cells]) ?_)
    refine st (zz (k := 5) (parts' := [(0, .agg ((⟨2, 0, 0, zc n L, []⟩ : Msg).cells v111 (.slice none 0 0)).toArray)]) (c := ((⟨2, 0, 0, zc n L, []⟩ : Msg).cells v111 (.slice none 0 0)).toArray) Try.underlying58 Try.sizeOf57 Try.zeroValue57 (by decide) rfl (by kernel_rfl) ?_)
    intro w152 b151 hn150
    have hS153 := hS125.new hn150
    have hbk157 := hS153.blk (i := 0) rfl
    have hS158 : Sep G W ((RowE (α := Msg) own 57 v104 [(⟨3, 0, 0, [], zA L m.vec (max 1 (min chunk 32))⟩ : Msg)]) :: (RowE (α := Int) own 3 v111 (zc n L)) :: (Blk b9 (m.cells dm0 dm1).toArray 57) :: Rs) w152 := hS153.sel 4 [2, 1, 3] (Nat.le_add_left _ _) rfl rfl
    refine st (zN (src := own) (bytes := 72) (x1 := (⟨2, 0, 0, zc n L, []⟩ : Msg)) hS158 ZM rfl rfl hbk157 (fun _ _ hN => ⟨_, _, rfl, RowE.soft hN, (RdS.nil _ _), ok148⟩) (by first | (simp only [List.length_cons, List.length_nil]; decide) | omega) rfl ?_)
    intro v155 w154 hS156
    have hr159 := hS156.row (i := 0) rfl
    have hr159s : _ * 72 ≤ _ := hr159.2
    refine st (zf (v := v155) rfl ?_)
    refine zg ?_
    refine zd ?_
    refine zd ?_
    refine za (by kernel_rfl) (fun _ => ?_)
    refine st (zb (v := v155) rfl ?_)
    refine st (zB (n := ([(⟨3, 0, 0, [], zA L m.vec (max 1 (min chunk 32))⟩ : Msg)] ++ [(⟨2, 0, 0, zc n L, []⟩ : Msg)]).length) Try.underlying58 rfl hr159.1 ?_)
    refine st (zO (k := .i64) (a := ((([(⟨3, 0, 0, [], zA L m.vec (max 1 (min chunk 32))⟩ : Msg)] ++ [(⟨2, 0, 0, zc n L, []⟩ : Msg)]).length : Nat) : Int)) (b := 0) rfl rfl ?_)
    have hkn160 : (decide (((([(⟨3, 0, 0, [], zA L m.vec (max 1 (min chunk 32))⟩ : Msg)] ++ [(⟨2, 0, 0, zc n L, []⟩ : Msg)]).length : Nat) : Int) = 0)) = false := by simp
    rw [hkn160]
    refine zg ?_
    refine zk rfl ?_
    refine zp ?_
    refine zd ?_
    refine za (by kernel_rfl) (fun _ => ?_)
    refine st (zb (v := .int .i64 (self)) rfl ?_)
    refine st (yI rfl ?_)
    refine st (zh (v := .int .i64 (m.frm)) Try.isAgg3 rfl (zi (hS156.blk (i := 1) rfl) rfl) ?_)
    refine st (zb (v := v155) rfl ?_)
    refine st (zj (f := 74) (vals := [.int .i64 (self), .int .i64 (m.frm), v155]) (cap := []) rfl rfl Try.call74 (UW (f := self) (t := m.frm) hself om.frm hS156) ?_)
    rintro v161 w162 ⟨_, rfl, hS163⟩
    have hr164 := hS163.row (i := 0) rfl
    have hr164s : _ * 72 ≤ _ := hr164.2
    refine st (zf (v := v161) rfl ?_)
    refine zg ?_
    refine zw ?_
    refine zM Try.results41 (show _ = (v161 : Value) from rfl) ?_
    have hS165 : Sep G W ((RowE (α := Msg) own 57 v161 (toL self m.frm ([(⟨3, 0, 0, [], zA L m.vec (max 1 (min chunk 32))⟩ : Msg)] ++ [(⟨2, 0, 0, zc n L, []⟩ : Msg)]))) :: Rs) w162 := hS163.sel 2 [0] (Nat.le_add_left _ _) rfl rfl
    rw [VY (n := n) (L := L) (self := self) (c := chunk) hc18r hc23 (show Ze n L m = true from hc140r)] at hS165
    refine ⟨v161, rfl, hS165⟩
 ·skip
  have hc18r := hc18
  try simp only [zr] at hc18
  refine zm rfl ?_
  refine zd ?_
  refine za (by kernel_rfl) (fun _ => ?_)
  refine st (zf (v := (.slice none 0 0)) rfl ?_)
  refine zg ?_
  refine zw ?_
  refine zM Try.results41 (show _ = ((.slice none 0 0) : Value) from rfl) ?_
  have hS166 : Sep G W ((RowE (α := Msg) own 57 (.slice none 0 0) ([] : List Msg)) :: (Blk b9 (m.cells dm0 dm1).toArray 57) :: Rs) w10 := hS11.rowNil own 57
  have hS167 : Sep G W ((RowE (α := Msg) own 57 (.slice none 0 0) ([] : List Msg)) :: Rs) w10 := hS166.sel 2 [0] (Nat.le_add_left _ _) rfl rfl
  rw [VD (n := n) (L := L) (self := self) (c := chunk) hc18r] at hS167
  refine ⟨(.slice none 0 0), rfl, hS167⟩

end Go.Proofs.Ytgjgmojjeehieaa
end

section
/- Steps of the proofs of this seat: part B5. -/
set_option maxRecDepth 8000
set_option maxHeartbeats 4000000
namespace Go.Proofs.Ytgjgmojjeehieaa
open Go.Proofs Go.RowKit

section
variable {n : Nat} {L : List Ev} {e : Ev}
end
end Go.Proofs.Ytgjgmojjeehieaa
end

section
/- Rows, of whose elements some have memory of their own, and others lie in what is lent. -/
namespace Go.Proofs.Ytgjgmojjeehieaa
open Go.RowKit

theorem xh {P : Program} {o : Oper} {σ : Env} {w : World} {K : Value → World → Prop} {v v' : Value} (h : v = v') (hop : ∀ K' : Value → World → Prop, K' v w → opV P o σ w K') (hK : K v' w) : opV P o σ w K := by subst h; exact hop K hK
def alt {α : Type} [Rep α] (F : Nat → Prop) (W : World) : Src α :=
  ⟨fun cs x => ⟨fun w f => ((own (α := α)).el cs x).p w f ∨ Rep.rd W F cs x, fun h hf => h.imp (fun h => ((own (α := α)).el cs x).loc h hf) id⟩, fun {w f cs x} h => h.elim (fun h => (own (α := α)).len (w := w) (f := f) h) Rep.len, fun {w f cs x} h => h.elim (fun h => (own (α := α)).one (w := w) (f := f) h) Rep.one⟩
section
variable {α : Type} [Rep α] {G : Nat → Prop} {W w : World} {As : List HP} {T : TypeId} {v : Value} {l : List α}
theorem Sep.lendA (h : Sep G W (RowE (own (α := α)) T v l :: As) w) : ∃ F G' : Nat → Prop, RdS w F v l ∧ Base F w G' w ∧ Base G W G' w ∧ Sep G' w As w ∧
    (∀ (T' : TypeId) (v' : Value) (l' : List α) (Cs : List HP) (w' : World), Sep G' w (RowE (alt F w) T' v' l' :: Cs) w' → Sep G W (RowE (own (α := α)) T' v' l' :: Cs) w') := by
  obtain ⟨fs, h1, h2⟩ := h.parts
  obtain ⟨hA, hl⟩ := h1 0 _ rfl
  refine ⟨fun b => fs 0 b ∧ Soft w b, fun b => G b ∨ fs 0 b, RowE.soft hA, fun b hb _ => ⟨rfl, .inr hb.1⟩, fun b hb hlt => ⟨(h.kept.keep b hb).2, .inl hb⟩, ⟨Kept.refl (fun b hb => ?_), fun i => fs (i + 1), fun i C hC => ?_, fun i j hi hj hne => ?_⟩, fun T' v' l' Cs w' hC => ?_⟩
  · rcases hb with hb | hb
    · have := (h.kept.keep b hb).1; have := h.kept.size; omega
    · exact (hl b hb).2
  · obtain ⟨h3, h4⟩ := h1 (i + 1) C (by simpa using hC)
    have hi := (List.getElem?_eq_some_iff.1 hC).1
    exact ⟨h3, fun b hb => ⟨fun hg => hg.elim (h4 b hb).1 (fun h0 => h2 0 (i + 1) (by simp) (by simp; omega) (by omega) b h0 hb), (h4 b hb).2⟩⟩
  · exact h2 _ _ (by simp; omega) (by simp; omega) (by omega)
  · obtain ⟨gs, g1, g2⟩ := hC.parts
    have hkA : ∀ b, fs 0 b → w'.heap[b]? = w.heap[b]? := fun b hb => (hC.kept.keep b (.inr hb)).2
    have old : ∀ j, j < Cs.length + 1 → ∀ b, gs j b → ¬ fs 0 b := fun j hj b hb h0 => ((g1 j _ (List.getElem?_eq_getElem (by simpa using hj))).2 b hb).1 (.inr h0)
    refine ⟨⟨hC.kept.os.trans h.kept.os, hC.kept.tape.trans h.kept.tape, hC.kept.output.trans h.kept.output, Nat.le_trans h.kept.size hC.kept.size, Nat.le_trans h.kept.drawn hC.kept.drawn, fun b hb => ⟨(h.kept.keep b hb).1, ((hC.kept.keep b (.inl hb)).2).trans (h.kept.keep b hb).2⟩⟩,
      fun i b => match i with | 0 => gs 0 b ∨ fs 0 b | i + 1 => gs (i + 1) b, fun i D hD => ?_, fun i j hi hj hne b hb => ?_⟩
    · cases i with
      | zero =>
        simp only [List.getElem?_cons_zero, Option.some.injEq] at hD
        subst hD
        obtain ⟨⟨css, hE, hown, hrow, hsm⟩, h4⟩ := g1 0 _ rfl
        refine ⟨⟨css, hE.mono (fun cs x hx => ?_), hown, fun b hb => .inl (hrow b hb), hsm⟩, fun b hb => ?_⟩
        · rcases hx with hx | hx
          · exact ((own (α := α)).el cs x).weak hx (fun b hb _ => ⟨.inl hb.1, hb.2⟩)
          · exact Rep.mono hx (fun b hb hlt => ⟨hkA b hb.1, ⟨.inr hb.1, fun e => old 0 (Nat.succ_pos _) b (hrow b e) hb.1⟩, hb.2.keep (hkA b hb.1)⟩)
        · rcases hb with hb | hb
          · exact ⟨fun hg => (h4 b hb).1 (.inl hg), (h4 b hb).2⟩
          · exact ⟨(hl b hb).1, Nat.lt_of_lt_of_le (hl b hb).2 hC.kept.size⟩
      | succ i =>
        obtain ⟨h3, h4⟩ := g1 (i + 1) D hD
        exact ⟨h3, fun b hb => ⟨fun hg => (h4 b hb).1 (.inl hg), (h4 b hb).2⟩⟩
    · simp only [List.length_cons] at hi hj
      cases i with
      | zero =>
        cases j with
        | zero => exact (hne rfl).elim
        | succ j =>
          intro hb2
          rcases hb with hb | hb
          · exact g2 0 (j + 1) (by simp) (by simpa using hj) (by omega) b hb hb2
          · exact old (j + 1) hj b hb2 hb
      | succ i =>
        cases j with
        | zero =>
          rintro (hb2 | hb2)
          · exact g2 (i + 1) 0 (by simpa using hi) (by simp) (by omega) b hb hb2
          · exact old (i + 1) hi b hb hb2
        | succ j => exact g2 (i + 1) (j + 1) (by simpa using hi) (by simpa using hj) hne b hb
theorem Sep.rowOf2 {b : Nat} {c : Array Value} {N1 N2 : HP} {cs1 cs2 : List Value} {x1 x2 : α} (h : Sep G W (Blk b c T :: N1 :: N2 :: As) w) (hc : cs1 ++ (cs2 ++ []) = c.toList)
    (h1 : ∀ w f, N1.p w f → ((own (α := α)).el cs1 x1).p w f) (h2 : ∀ w f, N2.p w f → ((own (α := α)).el cs2 x2).p w f) (hs : 2 * Rep.bytes α ≤ 140737488355328) :
    Sep G W (RowE (own (α := α)) T (.slice (some ⟨b, 0, none⟩) 2 2) [x1, x2] :: As) w := by
  have hst := h.closeStar (Bs := [Blk b c T, N1, N2])
  refine hst.impl (i := 0) rfl (fun f hA => ?_)
  obtain ⟨fs, q1, q2⟩ := hA
  obtain ⟨⟨hb, hf0⟩, hl0⟩ := q1 0 _ rfl
  obtain ⟨hN1, hl1⟩ := q1 1 _ rfl
  obtain ⟨hN2, hl2⟩ := q1 2 _ rfl
  have d1 : ∀ b', fs 1 b' → b ≠ b' := fun b' hb' e => q2 0 1 (by simp) (by simp) (by decide) b hf0 (e ▸ hb')
  have d2 : ∀ b', fs 2 b' → b ≠ b' := fun b' hb' e => q2 0 2 (by simp) (by simp) (by decide) b hf0 (e ▸ hb')
  have k1 := (own (α := α)).len (h1 _ _ hN1)
  have k2 := (own (α := α)).len (h2 _ _ hN2)
  refine ⟨[cs1, cs2], ⟨((own (α := α)).el cs1 x1).weak (h1 _ _ hN1) (fun b' hb' _ => ⟨(hl1 b' hb').1, fun e => d1 b' hb' (by simpa [Value.ownBlock] using e)⟩), ((own (α := α)).el cs2 x2).weak (h2 _ _ hN2) (fun b' hb' _ => ⟨(hl2 b' hb').1, fun e => d2 b' hb' (by simpa [Value.ownBlock] using e)⟩), trivial⟩, ?_, fun b' hb' => ?_, hs⟩
  · have hl : ([cs1, cs2] : List (List Value)).flatten.length = 2 * Rep.k α := by simp [k1, k2]; omega
    refine ⟨hl, .inr ⟨b, 2, c, rfl, Nat.zero_le _, hb, Nat.le_refl _, by decide, ?_, ?_⟩⟩
    · show c.size = _
      rw [← Array.length_toList, ← hc]; exact hl
    · show c.toList.take _ = _
      rw [← hc]
      exact List.take_of_length_le (by simp [k1, k2]; omega)
  · simp only [Value.ownBlock, Option.some.injEq] at hb'; subst hb'; exact (hl0 b hf0).1
end
theorem RdS.evD {w : World} {F : Nat → Prop} {v : Value} {l : List Ev} {i : Nat} (h : RdS w F v l) (hi : i < l.length) : Rep.rd w F ((l.getD i default).cells (zR w (sb v) (so v + i * 10 + 3))) (l.getD i default) := by
  obtain ⟨_, h1, h2⟩ := h.ev hi
  rw [zo default hi]
  exact ⟨_, rfl, h1, h2⟩
end Go.Proofs.Ytgjgmojjeehieaa
end

section
/- Steps of the proofs of this seat: part R1. -/
set_option maxRecDepth 8000
set_option maxHeartbeats 4000000
namespace Go.Proofs.Ytgjgmojjeehieaa
open Go.Proofs Go.RowKit

def RefS (b n : Nat) (L : List Ev) : HP := Ex1 fun vl => Star [Blk b #[.int .i64 ((n : Nat) : Int), vl] 79, RowE (α := Ev) own 36 vl L]
section
variable {G : Nat → Prop} {W w : World} {As : List HP} {b n : Nat} {L : List Ev}
theorem RefS.open (h : Sep G W (RefS b n L :: As) w) : ∃ vl, Sep G W (Blk b #[.int .i64 ((n : Nat) : Int), vl] 79 :: RowE (α := Ev) own 36 vl L :: As) w := by
  obtain ⟨vl, h⟩ := h.openEx
  exact ⟨vl, h.openStar⟩
theorem RefS.close {vl : Value} (h : Sep G W (Blk b #[.int .i64 ((n : Nat) : Int), vl] 79 :: RowE (α := Ev) own 36 vl L :: As) w) : Sep G W (RefS b n L :: As) w := Sep.closeEx (A := fun vl => Star [Blk b #[.int .i64 ((n : Nat) : Int), vl] 79, RowE (α := Ev) own 36 vl L]) vl (Sep.closeStar (Bs := [Blk b #[.int .i64 ((n : Nat) : Int), vl] 79, RowE (α := Ev) own 36 vl L]) h)
theorem RefS.sh (h : (RefS b n L).p W G) : ∃ vl, (Blk b #[.int .i64 ((n : Nat) : Int), vl] 79).p W G ∧ RdS W G vl L := by
  obtain ⟨vl, h⟩ := h
  exact ⟨vl, Star.at_ h (i := 0) rfl, RowE.rd (T := 36) (Star.at_ h (i := 1) rfl)⟩
end
theorem Qi {G : Nat → Prop} {W w : World} {Rs : List HP} {n : Nat} (hn : n ≤ 1000) (hS0 : Sep G W Rs w) : Ret Try.prog 34 [.int .i64 ((n : Nat) : Int)] w (fun r w' => ∃ (b : Nat), r = (.pointer (some ⟨b, 0, none⟩) : Value) ∧ Sep G W ((RefS b n ([] : List Ev)) :: Rs) w') := by
 refine zq (args := [.int .i64 ((n : Nat) : Int)]) Try.func34 rfl rfl ?_
 refine zd ?_
 refine za (by kernel_rfl) (fun _ => ?_)
 refine st (zf (v := .pointer none) rfl ?_)
 refine zg ?_
 refine zd ?_
 refine za (by kernel_rfl) (fun _ => ?_)
 refine st (zb (v := .int .i64 ((n : Nat) : Int)) rfl ?_)
 refine st (zW (parts' := [(0, .int .i64 ((n : Nat) : Int))]) (v := .agg #[.int .i64 ((n : Nat) : Int), (.slice none 0 0)]) rfl (by simp [Instr.build, Instr.fill, go_sem]) ?_)
 refine st (yp (v := .agg #[.int .i64 ((n : Nat) : Int), (.slice none 0 0)]) rfl ?_)
 intro w3 b2 hn1
 have hS4 := hS0.new hn1
 refine st (zf (v := .pointer (some ⟨b2, 0, none⟩)) rfl ?_)
 refine zg ?_
 refine zw ?_
 refine zM Try.results34 (show _ = (.pointer (some ⟨b2, 0, none⟩) : Value) from rfl) ?_
 have hS5 : Sep G W ((RowE (α := Ev) own 36 (.slice none 0 0) ([] : List Ev)) :: (Blk b2 #[.int .i64 ((n : Nat) : Int), (.slice none 0 0)] 79) :: Rs) w3 := hS4.rowNil own 36
 have hS6 := hS5.mv1
 have hS7 : Sep G W ((RefS b2 n ([] : List Ev)) :: Rs) w3 := RefS.close (n := n) (L := ([] : List Ev)) hS6
 refine ⟨b2, rfl, hS7⟩

theorem yQ {d : Option Tmp} {ty : TypeId} {pos : String} {af : Array Edge} {g : Option (Nat × Bool)} {σ : Env} {w : World} {K : Value → World → Prop} {x : Operand} {b o : Nat} (hx : ev σ x = .pointer (some ⟨b, o, none⟩)) (h : K (.pointer (some ⟨b, o + 1, none⟩)) w) : opV Try.prog ⟨d, .fieldAddr 79 x 1, ty, pos, af, g⟩ σ w K := zL Try.underlying79 rfl rfl (fun w => ⟨0, Try.sizeOf22 w⟩) hx h
section
variable {L : List Ev} {o q : Int} {k : Nat}
theorem UQ (hm : ∀ i, i < k → ¬ ((L.getD i default).origin = o ∧ (L.getD i default).seq = q)) (hk : k < L.length) (h : (L.getD k default).origin = o ∧ (L.getD k default).seq = q) : zy L (o, q) = some (L.getD k default) := by
  unfold zy
  rw [List.find?_eq_some_iff_getElem, zo _ hk]
  rw [zo _ hk] at h
  refine ⟨by simpa using h, k, hk, rfl, fun i hi => ?_⟩
  have := hm i hi
  rw [zo _ (by omega)] at this
  rw [decide_eq_false this]; rfl
theorem VA (hm : ∀ i, i < L.length → ¬ ((L.getD i default).origin = o ∧ (L.getD i default).seq = q)) : zy L (o, q) = none := by
  unfold zy
  rw [List.find?_eq_none]
  intro x hx
  obtain ⟨i, hi, rfl⟩ := List.getElem_of_mem hx
  have := hm i hi
  rw [zo _ hi] at this
  rw [decide_eq_false this]; decide
end
theorem VZ {G : Nat → Prop} {W w : World} {Rs : List HP} {b : Nat} {n : Nat} {L : List Ev} (hb : (RefS b n L).p W G) {o q : Int} (ho : InR o) (hq : InR q) (hS0 : Sep G W Rs w) : Ret Try.prog 64 [.pointer (some ⟨b, 0, none⟩), .agg #[.int .i64 (o), .int .i64 (q)]] w (fun r w' => ∃ (v : Value), r = (.tuple #[.agg (((zy L (o, q)).getD default).cells v).toArray, .bool (zy L (o, q)).isSome] : Value) ∧ (((zy L (o, q)).getD default).Ok) ∧ Sep G W ((RowE (α := Int) own 3 v (((zy L (o, q)).getD default).deps)) :: Rs) w') := by
 refine zq (args := [.pointer (some ⟨b, 0, none⟩), .agg #[.int .i64 (o), .int .i64 (q)]]) Try.func64 rfl rfl ?_
 obtain ⟨vl1, hb2, hl3⟩ := RefS.sh hb
 have hsm4 : L.length * 96 ≤ 140737488355328 := hl3.small
 refine zd ?_
 refine za (by kernel_rfl) (fun _ => ?_)
 refine st (yp (v := .agg #[.int .i64 (o), .int .i64 (q)]) rfl ?_)
 intro w7 b6 hn5
 have hS8 := hS0.new hn5
 refine st (zX Try.zeroValue36 ?_)
 intro w11 b10 hn9
 have hS12 := hS8.new hn9
 refine st (zf (v := .bool false) rfl ?_)
 refine zg ?_
 refine zd ?_
 refine zd ?_
 refine za (by kernel_rfl) (fun _ => ?_)
 refine st (zf (v := .int .i64 (0)) rfl ?_)
 refine zg ?_
 refine zx ?_
 refine yb (fun mq σ wq => ∃ (k : Nat) (ρ : Env), mq = L.length - k ∧ σ = ye ρ [(3, .pointer (some ⟨b6, 0, none⟩)), (4, .pointer (some ⟨b10, 0, none⟩)), (0, .pointer (some ⟨b, 0, none⟩)), (6, .int .i64 ((k : Nat) : Int))] ∧ (k ≤ L.length) ∧ (∀ i, i < k → ¬ ((L.getD i default).origin = o ∧ (L.getD i default).seq = q)) ∧ Sep G W ((Blk b10 #[.int .i64 (0), .int .i64 (0), .int .i64 (0), (.slice none 0 0), .int .i64 (0), .int .i64 (0), .int .i64 (0), .int .i64 (0), .int .i64 (0), .int .i64 (0)] 36) :: (Blk b6 #[.int .i64 (o), .int .i64 (q)] 33) :: Rs) wq) ⟨0, _, rfl, zn ⟨rfl, rfl, rfl, rfl, trivial⟩, Nat.zero_le _, (fun i h => absurd h (Nat.not_lt_zero i)), hS12⟩ ?_
 rintro m14 σ15 w13 ⟨k, ρl1, rfl, rfl, hkk, hm, hS16⟩
 refine zd ?_
 refine zd ?_
 refine za (by kernel_rfl) (fun _ => ?_)
 refine st (zb (v := .int .i64 ((k : Nat) : Int)) rfl ?_)
 refine st (zb (v := .pointer (some ⟨b, 0, none⟩)) rfl ?_)
 refine st (zC (b := b) (o := 0) rfl ?_)
 refine st (yQ rfl ?_)
 refine st (zh (v := vl1) Try.isAgg22 rfl (zi (hS16.gblk hb2) rfl) ?_)
 refine st (zB (n := L.length) Try.underlying22 rfl hl3.sl ?_)
 refine st (zJ (k := .i64) (a := ((k : Nat) : Int)) (b := ((L.length : Nat) : Int)) rfl rfl ?_)
 refine zg ?_
 cases hc17 : decide (((k : Nat) : Int) < ((L.length : Nat) : Int))
 ·skip
  have hc17 := of_decide_eq_false hc17
  refine zk rfl ?_
  refine ya ?_
  refine zQ ?_
  refine zd ?_
  refine za (by kernel_rfl) (fun _ => ?_)
  have ok18 : Ev.Ok (⟨0, 0, 0, [], 0, 0, 0, 0, 0, 0⟩ : Ev) := ⟨(show InR (0) from (by decide)), (show InR (0) from (by decide)), (show InR (0) from (by decide)), (show InR (0) from (by decide)), (show InR (0) from (by decide)), (show InR (0) from (by decide)), (show InR (0) from (by decide)), (show InR (0) from (by decide)), (show InR (0) from (by decide))⟩
  refine st (zW (parts' := []) (v := .agg ((⟨0, 0, 0, [], 0, 0, 0, 0, 0, 0⟩ : Ev).cells (.slice none 0 0)).toArray) rfl (by simp [Instr.build, Instr.fill, Ev.cells, go_sem, Ev.cells, Msg.cells]) ?_)
  refine stn (zT (v := .agg ((⟨0, 0, 0, [], 0, 0, 0, 0, 0, 0⟩ : Ev).cells (.slice none 0 0)).toArray) (c' := ((⟨0, 0, 0, [], 0, 0, 0, 0, 0, 0⟩ : Ev).cells (.slice none 0 0)).toArray) Try.sizeOf36 rfl rfl (hS16.blk (i := 0) rfl) (yz ⟨rfl, rfl, rfl, rfl, rfl, rfl, rfl, rfl, rfl, rfl, trivial⟩) (Nat.le_of_ble_eq_true rfl) rfl ?_)
  intro w19 hp20
  have hS21 := hS16.pt0 hp20
  refine st (zf (v := .bool false) rfl ?_)
  refine zg ?_
  refine zw ?_
  refine Qb (b := b10) Try.results64 Try.isAgg36 Try.sizeOf36 rfl rfl (CellsAt.all (hS21.blk (i := 0) rfl)) (show _ = (.bool false : Value) from rfl) ?_
  have hS22 : Sep G W ((RowE (α := Int) own 3 (.slice none 0 0) ([] : List Int)) :: (Blk b10 ((⟨0, 0, 0, [], 0, 0, 0, 0, 0, 0⟩ : Ev).cells (.slice none 0 0)).toArray 36) :: (Blk b6 #[.int .i64 (o), .int .i64 (q)] 33) :: Rs) w19 := hS21.rowNil own 3
  have hS23 : Sep G W ((RowE (α := Int) own 3 (.slice none 0 0) ([] : List Int)) :: Rs) w19 := hS22.sel 3 [0] (Nat.le_add_left _ _) rfl rfl
  rw [VA (fun i hi => hm i (by omega))]
  refine ⟨(.slice none 0 0), ?_, ?_, hS23⟩
  · rfl
  · exact ok18
 ·skip
  have hc17 := of_decide_eq_true hc17
  refine zm rfl ?_
  refine zp ?_
  refine zd ?_
  refine zx ?_
  refine zd ?_
  refine zS (WF [fun vals wq => Sep G W ((Blk b10 #[.int .i64 (0), .int .i64 (0), .int .i64 (0), (.slice none 0 0), .int .i64 (0), .int .i64 (0), .int .i64 (0), .int .i64 (0), .int .i64 (0), .int .i64 (0)] 36) :: (Blk b6 #[.int .i64 (o), .int .i64 (q)] 33) :: Rs) wq]) (AF [Vl 0 (.pointer (some ⟨b, 0, none⟩)), Vl 1 (.pointer (some ⟨b, 0, none⟩)), Vl 2 (.pointer (some ⟨b, 1, none⟩)), Vl 3 (vl1), Vl 4 (.int .i64 ((k : Nat) : Int)), Vl 5 (.pointer (some ⟨sb vl1, so vl1 + k * 10, none⟩)), Vl 6 (.pointer (some ⟨sb vl1, so vl1 + k * 10, none⟩)), Vl 7 (.agg #[.int .i64 ((L.getD k default).origin), .int .i64 ((L.getD k default).seq)]), Vl 8 (.agg #[.int .i64 (o), .int .i64 (q)]), Vl 9 (.bool (decide ((L.getD k default).origin = o ∧ (L.getD k default).seq = q)))]) [[], [0], [0, 1], [0, 1, 2], [], [0, 1, 2, 3, 4], [0, 1, 2, 3, 4, 5], [0, 1, 2, 3, 4, 5, 6], [], [0, 1, 2, 3, 4, 5, 6, 7, 8]] [] [(0, 0), (0, 0), (0, 0), (0, 0), (0, 0), (0, 0), (0, 0), (0, 0), (0, 0), (0, 0)] (by kernel_rfl) (by kernel_rfl) (by kernel_rfl) rfl (by kernel_rfl) (by kernel_rfl) (fun _ h1 h2 h3 h4 _ => hS16.same h1 h2 h3 h4) ?_ (yk ⟨dA, dA, dA, dA, dA, dA, dA, dA, dA, dA, trivial⟩) ⟨?_, ?_, ?_, ?_, ?_, ?_, ?_, ?_, ?_, ?_, trivial⟩ ?_
  ·intro k vals vals' w hv h
   match k, h with
   | 0, h => exact h
   | _ + 1, _ => trivial
  ·intro k103 vals w104 h107 h108 hW106 hA105
   refine obl rfl ?_
   exact zb (v := .pointer (some ⟨b, 0, none⟩)) rfl (fun vals' hv _ => ⟨rfl, hv⟩)
  ·intro k109 vals w110 h113 h114 hW112 hA111
   have e115 := hA111 0 (by decide)
   refine obl rfl ?_
   exact zC (b := b) (o := 0) e115 (fun vals' hv _ => ⟨rfl, hv⟩)
  ·intro k116 vals w117 h120 h121 hW119 hA118
   have e122 := hA118 1 (by decide)
   refine obl rfl ?_
   exact yQ e122 (fun vals' hv _ => ⟨rfl, hv⟩)
  ·intro k123 vals w124 h127 h128 hW126 hA125
   obtain rfl : k123 = 0 := Nat.le_antisymm h128 h127
   have hS129 : Sep _ _ _ _ := hW126
   have e130 := hA125 2 (by decide)
   refine obl rfl ?_
   exact zh (v := vl1) Try.isAgg22 e130 (zi (hS129.gblk hb2) rfl) (fun vals' hv _ => ⟨rfl, hv⟩)
  ·intro k131 vals w132 h135 h136 hW134 hA133
   refine obl rfl ?_
   exact zb (v := .int .i64 ((k : Nat) : Int)) rfl (fun vals' hv _ => ⟨rfl, hv⟩)
  ·intro k137 vals w138 h141 h142 hW140 hA139
   obtain rfl : k137 = 0 := Nat.le_antisymm h142 h141
   have hS143 : Sep _ _ _ _ := hW140
   have e144 := hA139 3 (by decide)
   have e145 := hA139 4 (by decide)
   refine obl rfl ?_
   have hi146 : k < L.length := (by first | omega | (simp only [zu]; omega))
   exact zl (k := 10) (i := k) Try.underlying22 Try.sizeOf36 e144 hl3.sl e145 hi146 (fun vals' hv _ => ⟨rfl, hv⟩)
  ·intro k147 vals w148 h151 h152 hW150 hA149
   have e153 := hA149 5 (by decide)
   refine obl rfl ?_
   exact yd e153 (fun vals' hv _ => ⟨rfl, hv⟩)
  ·intro k154 vals w155 h158 h159 hW157 hA156
   obtain rfl : k154 = 0 := Nat.le_antisymm h159 h158
   have hS160 : Sep _ _ _ _ := hW157
   have e161 := hA156 6 (by decide)
   refine obl rfl ?_
   have hi163 : k < L.length := (by first | omega | (simp only [zu]; omega))
   obtain ⟨hce162, hde162_0, hoke162⟩ := hl3.ev hi163
   rw [← zo default hi163] at hce162 hde162_0 hoke162
   have hsm164 : ((L.getD k default).deps).length * 8 ≤ 140737488355328 := hde162_0.small
   have hcw165 := hS160.cells hce162 (hl3.foot (ne_of_lt hi163))
   exact zv (k := 2) (cs := [.int .i64 ((L.getD k default).origin), .int .i64 ((L.getD k default).seq)]) Try.isAgg33 Try.sizeOf33 rfl e161 (CellsAt.sub hcw165 0 (cs2 := [.int .i64 ((L.getD k default).origin), .int .i64 ((L.getD k default).seq)]) rfl) (fun vals' hv _ => ⟨rfl, hv⟩)
  ·intro k166 vals w167 h170 h171 hW169 hA168
   obtain rfl : k166 = 0 := Nat.le_antisymm h171 h170
   have hS172 : Sep _ _ _ _ := hW169
   refine obl rfl ?_
   exact zv (k := 2) Try.isAgg33 Try.sizeOf33 rfl rfl (CellsAt.all (hS172.blk (i := 1) rfl)) (fun vals' hv _ => ⟨rfl, hv⟩)
  ·intro k173 vals w174 h177 h178 hW176 hA175
   obtain rfl : k173 = 0 := Nat.le_antisymm h178 h177
   have hS179 : Sep _ _ _ _ := hW176
   have e180 := hA175 7 (by decide)
   have e181 := hA175 8 (by decide)
   refine obl rfl ?_
   exact WA (e := decide ((L.getD k default).origin = o ∧ (L.getD k default).seq = q)) (xs := #[.int .i64 ((L.getD k default).origin), .int .i64 ((L.getD k default).seq)]) (ys := #[.int .i64 (o), .int .i64 (q)]) Qa e180 e181 (fun vals' hv _ => ⟨rfl, hv⟩)
  intro vals w182 hW183 hA184
  have hS185 : Sep _ _ _ _ := hW183
  have e186 := hA184 9 (by decide)
  refine yj (kv := [(3, .pointer (some ⟨b6, 0, none⟩)), (4, .pointer (some ⟨b10, 0, none⟩)), (0, .pointer (some ⟨b, 0, none⟩)), (6, .int .i64 ((k : Nat) : Int)), (7, .int .i64 ((k : Nat) : Int)), (8, .pointer (some ⟨b, 0, none⟩)), (9, .pointer (some ⟨b, 0, none⟩)), (10, .pointer (some ⟨b, 1, none⟩)), (11, vl1), (12, .int .i64 ((L.length : Nat) : Int)), (13, .bool true), (25, .bool (decide ((L.getD k default).origin = o ∧ (L.getD k default).seq = q)))]) ⟨rfl, rfl, rfl, rfl, rfl, rfl, rfl, rfl, rfl, rfl, rfl, (by exact e186), trivial⟩ (fun ρw182 => ?_)
  refine zg ?_
  cases hc187 : decide ((L.getD k default).origin = o ∧ (L.getD k default).seq = q)
  ·skip
   have hc187 := of_decide_eq_false hc187
   refine zk rfl ?_
   refine zp ?_
   refine za (by kernel_rfl) (fun _ => ?_)
   refine st (zb (v := .int .i64 ((k : Nat) : Int)) rfl ?_)
   have hr188 : InR ((k + 1 : Nat) : Int) := by first | omega | (simp only [zu]; omega)
   refine st (zU (r := ((k + 1 : Nat) : Int)) (k := .i64) (a := ((k : Nat) : Int)) (b := 1) rfl rfl (by rw [show (((k : Nat) : Int) + 1 : Int) = ((k + 1 : Nat) : Int) by first | omega | (simp only [zu]; omega)]; exact zH hr188) ?_)
   refine st (zf (v := .int .i64 ((k + 1 : Nat) : Int)) rfl ?_)
   refine zg ?_
   exact ⟨_, by omega, k + 1, _, rfl, zn ⟨rfl, rfl, rfl, rfl, trivial⟩, by omega, (yU hm (by simpa using hc187)), hS185⟩
  ·skip
   have hc187 := of_decide_eq_true hc187
   refine zm rfl ?_
   refine zd ?_
   refine za (by kernel_rfl) (fun _ => ?_)
   refine st (zb (v := .pointer (some ⟨b, 0, none⟩)) rfl ?_)
   refine st (zC (b := b) (o := 0) rfl ?_)
   refine st (yQ rfl ?_)
   refine st (zh (v := vl1) Try.isAgg22 rfl (zi (hS185.gblk hb2) rfl) ?_)
   refine st (zb (v := .int .i64 ((k : Nat) : Int)) rfl ?_)
   have hi189 : k < L.length := (by first | omega | (simp only [zu]; omega))
   refine st (zl (k := 10) (i := k) Try.underlying22 Try.sizeOf36 rfl hl3.sl rfl hi189 ?_)
   have hi191 : k < L.length := (by first | omega | (simp only [zu]; omega))
   obtain ⟨hce190, hde190_0, hoke190⟩ := hl3.ev hi191
   rw [← zo default hi191] at hce190 hde190_0 hoke190
   have hsm192 : ((L.getD k default).deps).length * 8 ≤ 140737488355328 := hde190_0.small
   have hcw193 := hS185.cells hce190 (hl3.foot (ne_of_lt hi191))
   refine st (zv (k := 10) Try.isAgg36 Try.sizeOf36 rfl rfl hcw193 ?_)
   refine st (zj (f := 35) (vals := [.agg ((L.getD k default).cells (zR W (sb vl1) (so vl1 + k * 10 + 3))).toArray]) (cap := []) rfl rfl Try.call35 (yN (e := (L.getD k default)) hde190_0 hoke190 hS185) ?_)
   rintro _ w195 ⟨v194, rfl, hS196⟩
   have hr197 := hS196.row (i := 0) rfl
   have hr197s : _ * 8 ≤ _ := hr197.2
   refine stn (zT (v := .agg ((L.getD k default).cells v194).toArray) (c' := ((L.getD k default).cells v194).toArray) Try.sizeOf36 rfl rfl (hS196.blk (i := 1) rfl) (yz ⟨rfl, rfl, rfl, hr197.1.one, rfl, rfl, rfl, rfl, rfl, rfl, trivial⟩) (Nat.le_of_ble_eq_true rfl) rfl ?_)
   intro w198 hp199
   have hS200 := hS196.pt1 hp199
   refine st (zf (v := .bool true) rfl ?_)
   refine zg ?_
   refine zw ?_
   refine Qb (b := b10) Try.results64 Try.isAgg36 Try.sizeOf36 rfl rfl (CellsAt.all (hS200.blk (i := 1) rfl)) (show _ = (.bool true : Value) from rfl) ?_
   have hS201 : Sep G W ((RowE (α := Int) own 3 v194 ((L.getD k default).deps)) :: Rs) w198 := hS200.sel 3 [0] (Nat.le_add_left _ _) rfl rfl
   rw [UQ hm (by omega) (by simpa using hc187)]
   refine ⟨v194, ?_, ?_, hS201⟩
   · rfl
   · exact hoke190

end Go.Proofs.Ytgjgmojjeehieaa
end

section
/- Steps of the proofs of this seat: part R2. -/
set_option maxRecDepth 8000
set_option maxHeartbeats 4000000
namespace Go.Proofs.Ytgjgmojjeehieaa
open Go.Proofs Go.RowKit

theorem YR {d : Option Tmp} {ty : TypeId} {pos : String} {af : Array Edge} {g : Option (Nat × Bool)} {σ : Env} {w : World} {K : Value → World → Prop} {x : Operand} {b o : Nat} (hx : ev σ x = .pointer (some ⟨b, o, none⟩)) (h : K (.pointer (some ⟨b, o + 0, none⟩)) w) : opV Try.prog ⟨d, .fieldAddr 79 x 0, ty, pos, af, g⟩ σ w K := zL Try.underlying79 rfl rfl (fun w => ⟨0, Try.sizeOf3 w⟩) hx h
theorem xy {G : Nat → Prop} {W w : World} {Rs : List HP} {b : Nat} {n : Nat} {L : List Ev} (hb : (RefS b n L).p W G) (hS0 : Sep G W Rs w) (hG : Good n L) (hn : n ≤ 1000) : Ret Try.prog 51 [.pointer (some ⟨b, 0, none⟩)] w (fun r w' => ∃ (v : Value), r = (v : Value) ∧ Sep G W ((RowE (α := Int) own 3 v (zc n L)) :: Rs) w') := by
 refine zq (args := [.pointer (some ⟨b, 0, none⟩)]) Try.func51 rfl rfl ?_
 obtain ⟨vl1, hb2, hl3⟩ := RefS.sh hb
 have hsm4 : L.length * 96 ≤ 140737488355328 := hl3.small
 refine zd ?_
 refine za (by kernel_rfl) (fun _ => ?_)
 refine st (zf (v := (.slice none 0 0)) rfl ?_)
 refine zg ?_
 refine zd ?_
 refine za (by kernel_rfl) (fun _ => ?_)
 refine st (zb (v := .pointer (some ⟨b, 0, none⟩)) rfl ?_)
 refine st (zC (b := b) (o := 0) rfl ?_)
 refine st (YR rfl ?_)
 refine st (zh (v := .int .i64 ((n : Nat) : Int)) Try.isAgg3 rfl (zi (hS0.gblk hb2) rfl) ?_)
 refine st (Zi (α := Int) (T := 3) (bytes := 8) (n := n) (x1 := (0 : Int)) Try.underlying34 ⟨_, _, rfl, rfl, rfl, rfl, rfl, fun _ _ => ⟨rfl, by decide⟩⟩ rfl rfl rfl (by show n * 8 ≤ 140737488355328; omega) ?_)
 intro w10 b5 hx6 he7 hl8 ho9
 have hS11 : Sep G W ((RowE (α := Int) own 3 (.slice (some ⟨b5, 0, none⟩) n n) (List.replicate n (0 : Int))) :: Rs) w10 := hS0.made hx6 ho9
 have hr12 := hS11.row (i := 0) rfl
 have hr12s : _ * 8 ≤ _ := hr12.2
 refine st (zf (v := (.slice (some ⟨b5, 0, none⟩) n n)) rfl ?_)
 refine zg ?_
 refine zd ?_
 refine zd ?_
 rw [XH] at hS11
 have hS13 : Sep G W ((RowE (α := Int) own 3 (.slice (some ⟨b5, 0, none⟩) n n) (zc n [])) :: Rs) w10 := hS11
 refine za (by kernel_rfl) (fun _ => ?_)
 refine st (zf (v := .int .i64 (0)) rfl ?_)
 refine zg ?_
 refine zx ?_
 refine yb (fun mq σ wq => ∃ (k : Nat) (vo : Value) (ρ : Env), mq = L.length - k ∧ σ = ye ρ [(0, .pointer (some ⟨b, 0, none⟩)), (4, .int .i64 ((k : Nat) : Int)), (3, vo)] ∧ (k ≤ L.length) ∧ Sep G W ((RowE (α := Int) own 3 vo (zc n (L.take k))) :: Rs) wq) ⟨0, (.slice (some ⟨b5, 0, none⟩) n n), _, rfl, zn ⟨rfl, rfl, rfl, trivial⟩, Nat.zero_le _, hS13⟩ ?_
 rintro m15 σ16 w14 ⟨k, vo, ρl1, rfl, rfl, hkk, hS17⟩
 have hr18 := hS17.row (i := 0) rfl
 have hr18s : _ * 8 ≤ _ := hr18.2
 refine zd ?_
 refine zd ?_
 refine za (by kernel_rfl) (fun _ => ?_)
 refine st (zb (v := .int .i64 ((k : Nat) : Int)) rfl ?_)
 refine st (zb (v := .pointer (some ⟨b, 0, none⟩)) rfl ?_)
 refine st (zC (b := b) (o := 0) rfl ?_)
 refine st (yQ rfl ?_)
 refine st (zh (v := vl1) Try.isAgg22 rfl (zi (hS17.gblk hb2) rfl) ?_)
 refine st (zB (n := L.length) Try.underlying22 rfl hl3.sl ?_)
 refine st (zJ (k := .i64) (a := ((k : Nat) : Int)) (b := ((L.length : Nat) : Int)) rfl rfl ?_)
 refine zg ?_
 cases hc19 : decide (((k : Nat) : Int) < ((L.length : Nat) : Int))
 ·skip
  have hc19r := hc19
  have hc19 := of_decide_eq_false hc19
  refine zk rfl ?_
  refine ya ?_
  refine zQ ?_
  refine zd ?_
  refine za (by kernel_rfl) (fun _ => ?_)
  refine st (zb (v := vo) rfl ?_)
  refine st (zf (v := vo) rfl ?_)
  refine zg ?_
  refine zw ?_
  refine zM Try.results51 (show _ = (vo : Value) from rfl) ?_
  have hk9 : k = L.length := by omega
  rw [hk9, List.take_length] at hS17
  refine ⟨vo, rfl, hS17⟩
 ·skip
  have hc19r := hc19
  have hc19 := of_decide_eq_true hc19
  refine zm rfl ?_
  refine zp ?_
  refine zd ?_
  refine zx ?_
  obtain ⟨⟨ho9, ho9'⟩, hd9⟩ := hG.chk_at (i := k) (by omega)
  have hvl9 : (zc n (L.take k)).length = n := Zp
  have hcl9 := Xc (L := L.take k) (o := (L.getD k default).origin.toNat)
  rw [List.length_take] at hcl9
  have hva9 : (zc n (L.take k)).getD (L.getD k default).origin.toNat 0 = _ := ZP (by omega)
  refine zS (WF [fun vals wq => Sep G W ((RowE (α := Int) own 3 vo (zc n (L.take k))) :: Rs) wq, fun vals wq => Sep G W ((RowE (α := Int) own 3 vo ((zc n (L.take k)).set (((L.getD k default).origin).toNat) (((zc n (L.take k)).getD (((L.getD k default).origin).toNat) 0) + 1))) :: Rs) wq]) (AF [Vl 0 (vo), Vl 1 (.pointer (some ⟨b, 0, none⟩)), Vl 2 (.pointer (some ⟨b, 0, none⟩)), Vl 3 (.pointer (some ⟨b, 1, none⟩)), Vl 4 (vl1), Vl 5 (.int .i64 ((k : Nat) : Int)), Vl 6 (.pointer (some ⟨sb vl1, so vl1 + k * 10, none⟩)), Vl 7 (.pointer (some ⟨sb vl1, so vl1 + k * 10, none⟩)), Vl 8 (.pointer (some ⟨sb vl1, so vl1 + k * 10, none⟩)), Vl 9 (.int .i64 ((L.getD k default).origin)), Vl 10 (vo), Vl 11 (.pointer (some ⟨b, 0, none⟩)), Vl 12 (.pointer (some ⟨b, 0, none⟩)), Vl 13 (.pointer (some ⟨b, 1, none⟩)), Vl 14 (vl1), Vl 15 (.int .i64 ((k : Nat) : Int)), Vl 16 (.pointer (some ⟨sb vl1, so vl1 + k * 10, none⟩)), Vl 17 (.pointer (some ⟨sb vl1, so vl1 + k * 10, none⟩)), Vl 18 (.pointer (some ⟨sb vl1, so vl1 + k * 10, none⟩)), Vl 19 (.int .i64 ((L.getD k default).origin)), Vl 20 (.pointer (some ⟨sb vo, so vo + (((L.getD k default).origin).toNat) * 1, none⟩)), Vl 21 (.int .i64 (((zc n (L.take k)).getD (((L.getD k default).origin).toNat) 0))), Vl 22 (.int .i64 (((zc n (L.take k)).getD (((L.getD k default).origin).toNat) 0) + 1)), Vl 23 (.pointer (some ⟨sb vo, so vo + (((L.getD k default).origin).toNat) * 1, none⟩)), fun _ => True]) [[], [], [1], [1, 2], [1, 2, 3], [], [1, 2, 3, 4, 5], [1, 2, 3, 4, 5, 6], [1, 2, 3, 4, 5, 6, 7], [1, 2, 3, 4, 5, 6, 7, 8], [], [], [11], [11, 12], [11, 12, 13], [], [11, 12, 13, 14, 15], [11, 12, 13, 14, 15, 16], [11, 12, 13, 14, 15, 16, 17], [11, 12, 13, 14, 15, 16, 17, 18], [10, 11, 12, 13, 14, 15, 16, 17, 18, 19], [10, 11, 12, 13, 14, 15, 16, 17, 18, 19, 20], [10, 11, 12, 13, 14, 15, 16, 17, 18, 19, 20, 21], [0, 1, 2, 3, 4, 5, 6, 7, 8, 9, 10, 11, 12, 13, 14, 15, 16, 17, 18, 19, 20, 21, 22], [0, 1, 2, 3, 4, 5, 6, 7, 8, 9, 10, 11, 12, 13, 14, 15, 16, 17, 18, 19, 20, 21, 22, 23]] [24] [(0, 0), (0, 0), (0, 0), (0, 0), (0, 0), (0, 0), (0, 0), (0, 0), (0, 0), (0, 0), (0, 0), (0, 0), (0, 0), (0, 0), (0, 0), (0, 0), (0, 0), (0, 0), (0, 0), (0, 0), (0, 0), (0, 0), (0, 0), (0, 0), (0, 0)] (by kernel_rfl) (by kernel_rfl) (by kernel_rfl) rfl (by kernel_rfl) (by kernel_rfl) (fun _ h1 h2 h3 h4 _ => hS17.same h1 h2 h3 h4) ?_ (yk ⟨dA, dA, dA, dA, dA, dA, dA, dA, dA, dA, dA, dA, dA, dA, dA, dA, dA, dA, dA, dA, dA, dA, dA, dA, dT, trivial⟩) ⟨?_, ?_, ?_, ?_, ?_, ?_, ?_, ?_, ?_, ?_, ?_, ?_, ?_, ?_, ?_, ?_, ?_, ?_, ?_, ?_, ?_, ?_, ?_, ?_, ?_, trivial⟩ ?_
  ·intro k vals vals' w hv h
   have e : ∀ j ∈ ([24] : List Nat), vals' j = vals j := hv
   match k, h with
   | 0, h => exact h
   | 1, h => exact h
   | _ + 2, _ => trivial
  ·intro k224 vals w225 h228 h229 hW227 hA226
   refine obl rfl ?_
   exact zb (v := vo) rfl (fun vals' hv _ => ⟨rfl, hv⟩)
  ·intro k230 vals w231 h234 h235 hW233 hA232
   refine obl rfl ?_
   exact zb (v := .pointer (some ⟨b, 0, none⟩)) rfl (fun vals' hv _ => ⟨rfl, hv⟩)
  ·intro k236 vals w237 h240 h241 hW239 hA238
   have e242 := hA238 1 (by decide)
   refine obl rfl ?_
   exact zC (b := b) (o := 0) e242 (fun vals' hv _ => ⟨rfl, hv⟩)
  ·intro k243 vals w244 h247 h248 hW246 hA245
   have e249 := hA245 2 (by decide)
   refine obl rfl ?_
   exact yQ e249 (fun vals' hv _ => ⟨rfl, hv⟩)
  ·intro k250 vals w251 h254 h255 hW253 hA252
   obtain rfl : k250 = 0 := Nat.le_antisymm h255 h254
   have hS256 : Sep _ _ _ _ := hW253
   have e257 := hA252 3 (by decide)
   refine obl rfl ?_
   exact zh (v := vl1) Try.isAgg22 e257 (zi (hS256.gblk hb2) rfl) (fun vals' hv _ => ⟨rfl, hv⟩)
  ·intro k258 vals w259 h262 h263 hW261 hA260
   refine obl rfl ?_
   exact zb (v := .int .i64 ((k : Nat) : Int)) rfl (fun vals' hv _ => ⟨rfl, hv⟩)
  ·intro k264 vals w265 h268 h269 hW267 hA266
   obtain rfl : k264 = 0 := Nat.le_antisymm h269 h268
   have hS270 : Sep _ _ _ _ := hW267
   have e271 := hA266 4 (by decide)
   have e272 := hA266 5 (by decide)
   refine obl rfl ?_
   have hi273 : k < L.length := (by first | omega | (simp only [zu]; omega))
   exact zl (k := 10) (i := k) Try.underlying22 Try.sizeOf36 e271 hl3.sl e272 hi273 (fun vals' hv _ => ⟨rfl, hv⟩)
  ·intro k274 vals w275 h278 h279 hW277 hA276
   have e280 := hA276 6 (by decide)
   refine obl rfl ?_
   exact yd e280 (fun vals' hv _ => ⟨rfl, hv⟩)
  ·intro k281 vals w282 h285 h286 hW284 hA283
   have e287 := hA283 7 (by decide)
   refine obl rfl ?_
   exact yE e287 (fun vals' hv _ => ⟨rfl, hv⟩)
  ·intro k288 vals w289 h292 h293 hW291 hA290
   obtain rfl : k288 = 0 := Nat.le_antisymm h293 h292
   have hS294 : Sep _ _ _ _ := hW291
   have e295 := hA290 8 (by decide)
   refine obl rfl ?_
   have hi297 : k < L.length := (by first | omega | (simp only [zu]; omega))
   obtain ⟨hce296, hde296_0, hoke296⟩ := hl3.ev hi297
   rw [← zo default hi297] at hce296 hde296_0 hoke296
   have hsm298 : ((L.getD k default).deps).length * 8 ≤ 140737488355328 := hde296_0.small
   have hcw299 := hS294.cells hce296 (hl3.foot (ne_of_lt hi297))
   exact zh (v := .int .i64 ((L.getD k default).origin)) Try.isAgg3 e295 (hcw299.get (j := 0) rfl) (fun vals' hv _ => ⟨rfl, hv⟩)
  ·intro k300 vals w301 h304 h305 hW303 hA302
   refine obl rfl ?_
   exact zb (v := vo) rfl (fun vals' hv _ => ⟨rfl, hv⟩)
  ·intro k306 vals w307 h310 h311 hW309 hA308
   refine obl rfl ?_
   exact zb (v := .pointer (some ⟨b, 0, none⟩)) rfl (fun vals' hv _ => ⟨rfl, hv⟩)
  ·intro k312 vals w313 h316 h317 hW315 hA314
   have e318 := hA314 11 (by decide)
   refine obl rfl ?_
   exact zC (b := b) (o := 0) e318 (fun vals' hv _ => ⟨rfl, hv⟩)
  ·intro k319 vals w320 h323 h324 hW322 hA321
   have e325 := hA321 12 (by decide)
   refine obl rfl ?_
   exact yQ e325 (fun vals' hv _ => ⟨rfl, hv⟩)
  ·intro k326 vals w327 h330 h331 hW329 hA328
   obtain rfl : k326 = 0 := Nat.le_antisymm h331 h330
   have hS332 : Sep _ _ _ _ := hW329
   have e333 := hA328 13 (by decide)
   refine obl rfl ?_
   exact zh (v := vl1) Try.isAgg22 e333 (zi (hS332.gblk hb2) rfl) (fun vals' hv _ => ⟨rfl, hv⟩)
  ·intro k334 vals w335 h338 h339 hW337 hA336
   refine obl rfl ?_
   exact zb (v := .int .i64 ((k : Nat) : Int)) rfl (fun vals' hv _ => ⟨rfl, hv⟩)
  ·intro k340 vals w341 h344 h345 hW343 hA342
   obtain rfl : k340 = 0 := Nat.le_antisymm h345 h344
   have hS346 : Sep _ _ _ _ := hW343
   have e347 := hA342 14 (by decide)
   have e348 := hA342 15 (by decide)
   refine obl rfl ?_
   have hi349 : k < L.length := (by first | omega | (simp only [zu]; omega))
   exact zl (k := 10) (i := k) Try.underlying22 Try.sizeOf36 e347 hl3.sl e348 hi349 (fun vals' hv _ => ⟨rfl, hv⟩)
  ·intro k350 vals w351 h354 h355 hW353 hA352
   have e356 := hA352 16 (by decide)
   refine obl rfl ?_
   exact yd e356 (fun vals' hv _ => ⟨rfl, hv⟩)
  ·intro k357 vals w358 h361 h362 hW360 hA359
   have e363 := hA359 17 (by decide)
   refine obl rfl ?_
   exact yE e363 (fun vals' hv _ => ⟨rfl, hv⟩)
  ·intro k364 vals w365 h368 h369 hW367 hA366
   obtain rfl : k364 = 0 := Nat.le_antisymm h369 h368
   have hS370 : Sep _ _ _ _ := hW367
   have e371 := hA366 18 (by decide)
   refine obl rfl ?_
   have hi373 : k < L.length := (by first | omega | (simp only [zu]; omega))
   obtain ⟨hce372, hde372_0, hoke372⟩ := hl3.ev hi373
   rw [← zo default hi373] at hce372 hde372_0 hoke372
   have hsm374 : ((L.getD k default).deps).length * 8 ≤ 140737488355328 := hde372_0.small
   have hcw375 := hS370.cells hce372 (hl3.foot (ne_of_lt hi373))
   exact zh (v := .int .i64 ((L.getD k default).origin)) Try.isAgg3 e371 (hcw375.get (j := 0) rfl) (fun vals' hv _ => ⟨rfl, hv⟩)
  ·intro k376 vals w377 h380 h381 hW379 hA378
   obtain rfl : k376 = 0 := Nat.le_antisymm h381 h380
   have hS382 : Sep _ _ _ _ := hW379
   have e383 := hA378 10 (by decide)
   have e384 := hA378 19 (by decide)
   refine obl rfl ?_
   have hi385 : ((L.getD k default).origin).toNat < (zc n (L.take k)).length := (by first | omega | (simp only [zu]; omega))
   exact yn (k := 1) (i := (L.getD k default).origin) Try.underlying34 Try.sizeOf3 e383 hr18.1 e384 ⟨by omega, by omega⟩ (fun vals' hv _ => ⟨rfl, hv⟩)
  ·intro k386 vals w387 h390 h391 hW389 hA388
   obtain rfl : k386 = 0 := Nat.le_antisymm h391 h390
   have hS392 : Sep _ _ _ _ := hW389
   have e393 := hA388 20 (by decide)
   refine obl rfl ?_
   have hi395 : ((L.getD k default).origin).toNat < (zc n (L.take k)).length := (by first | omega | (simp only [zu]; omega))
   obtain ⟨_, _, hce394, rfl, hxe394⟩ := hS392.rowAt (i := 0) (j := ((L.getD k default).origin).toNat) rfl hi395
   rw [← zo 0 hi395] at hce394 hxe394
   exact zh (v := .int .i64 (((zc n (L.take k)).getD (((L.getD k default).origin).toNat) 0))) Try.isAgg3 e393 (hce394.get (j := 0) rfl) (fun vals' hv _ => ⟨rfl, hv⟩)
  ·intro k396 vals w397 h400 h401 hW399 hA398
   obtain rfl : k396 = 0 := Nat.le_antisymm h401 h400
   have hS402 : Sep _ _ _ _ := hW399
   have e403 := hA398 21 (by decide)
   refine obl rfl ?_
   have hr404 : InR (((zc n (L.take k)).getD (((L.getD k default).origin).toNat) 0) + 1) := by omega
   exact zU (r := ((zc n (L.take k)).getD (((L.getD k default).origin).toNat) 0) + 1) (k := .i64) (a := ((zc n (L.take k)).getD (((L.getD k default).origin).toNat) 0)) (b := 1) e403 rfl (zH hr404) (fun vals' hv _ => ⟨rfl, hv⟩)
  ·intro k405 vals w406 h409 h410 hW408 hA407
   obtain rfl : k405 = 0 := Nat.le_antisymm h410 h409
   have hS411 : Sep _ _ _ _ := hW408
   have e412 := hA407 0 (by decide)
   have e413 := hA407 9 (by decide)
   refine obl rfl ?_
   have hi414 : ((L.getD k default).origin).toNat < (zc n (L.take k)).length := (by first | omega | (simp only [zu]; omega))
   exact yn (k := 1) (i := (L.getD k default).origin) Try.underlying34 Try.sizeOf3 e412 hr18.1 e413 ⟨by omega, by omega⟩ (fun vals' hv _ => ⟨rfl, hv⟩)
  ·intro k211 vals w212 h215 h216 hW214 hA213
   obtain rfl : k211 = 0 := Nat.le_antisymm h216 h215
   have hS217 : Sep _ _ _ _ := hW214
   have e218 := hA213 22 (by decide)
   have e219 := hA213 23 (by decide)
   refine obl rfl ?_
   have hS221 : Sep G W ((RowE (α := Int) own 3 vo (zc n (L.take k))) :: Emp :: Rs) w212 := hS217.emp1
   refine (xl (α := Int) (j := ((L.getD k default).origin).toNat) (o := 0) (u := .int .i64 (((zc n (L.take k)).getD (((L.getD k default).origin).toNat) 0) + 1)) (us := [.int .i64 (((zc n (L.take k)).getD (((L.getD k default).origin).toNat) 0) + 1)]) (x1 := ((zc n (L.take k)).getD (((L.getD k default).origin).toNat) 0) + 1) hS221 Try.sizeOf3 (by first | omega | (simp only [zu]; omega)) e219 e218 rfl (Nat.le_of_ble_eq_true rfl) (yz ⟨rfl, trivial⟩) (fun _ _ cs0 hel _ => (by have hl0 := Src.len _ hel; have e0 : cs0.take 0 ++ (([.int .i64 (((zc n (L.take k)).getD (((L.getD k default).origin).toNat) 0) + 1)] : List Value)) ++ cs0.drop (0 + (([.int .i64 (((zc n (L.take k)).getD (((L.getD k default).origin).toNat) 0) + 1)] : List Value)).length) = (([.int .i64 (((zc n (L.take k)).getD (((L.getD k default).origin).toNat) 0) + 1)] : List Value)) := (by rw [List.drop_eq_nil_of_le (by rw [hl0]; exact Nat.le_of_ble_eq_true rfl)]; simp); rw [e0]; exact (show _ from ⟨rfl, (by omega)⟩))) ?_)
   intro w220 hS222
   have hr223 := hS222.row (i := 0) rfl
   have hr223s : _ * 8 ≤ _ := hr223.2
   intro vals' hv hv'
   refine ⟨?_, trivial⟩
   show Sep G W ((RowE (α := Int) own 3 vo ((zc n (L.take k)).set (((L.getD k default).origin).toNat) (((zc n (L.take k)).getD (((L.getD k default).origin).toNat) 0) + 1))) :: Rs) w220
   exact hS222
  intro vals w415 hW416 hA417
  have hS418 : Sep _ _ _ _ := hW416
  refine yj (kv := [(0, .pointer (some ⟨b, 0, none⟩)), (4, .int .i64 ((k : Nat) : Int)), (3, vo), (10, .int .i64 ((k : Nat) : Int)), (11, .pointer (some ⟨b, 0, none⟩)), (12, .pointer (some ⟨b, 0, none⟩)), (13, .pointer (some ⟨b, 1, none⟩)), (14, vl1), (15, .int .i64 ((L.length : Nat) : Int)), (16, .bool true)]) ⟨rfl, rfl, rfl, rfl, rfl, rfl, rfl, rfl, rfl, rfl, trivial⟩ (fun ρw415 => ?_)
  refine zg ?_
  refine za (by kernel_rfl) (fun _ => ?_)
  refine st (zb (v := .int .i64 ((k : Nat) : Int)) rfl ?_)
  have hr419 : InR ((k + 1 : Nat) : Int) := by first | omega | (simp only [zu]; omega)
  refine st (zU (r := ((k + 1 : Nat) : Int)) (k := .i64) (a := ((k : Nat) : Int)) (b := 1) rfl rfl (by rw [show (((k : Nat) : Int) + 1 : Int) = ((k + 1 : Nat) : Int) by first | omega | (simp only [zu]; omega)]; exact zH hr419) ?_)
  refine st (zf (v := .int .i64 ((k + 1 : Nat) : Int)) rfl ?_)
  refine zg ?_
  have hL420 : (zc n (L.take (k + 1))) = (zc n (L.take k)).set (((L.getD k default).origin).toNat) (((zc n (L.take k)).getD (((L.getD k default).origin).toNat) 0) + 1) := (VV hG (by omega)).symm
  rw [← hL420] at hS418
  exact ⟨_, by omega, k + 1, vo, _, rfl, zn ⟨rfl, rfl, rfl, trivial⟩, by omega, hS418⟩

theorem Uy {G : Nat → Prop} {W w : World} {Rs : List HP} {b : Nat} {n : Nat} {L : List Ev} (hb : (RefS b n L).p W G) {e : Ev} {de0 : Value} (hde0 : RdS W G de0 e.deps) (oe : e.Ok) {o : Nat} (ho : o < n) (hS0 : Sep G W Rs w) (hel : e.deps.length = n) (hlen : ∀ y ∈ L, y.deps.length = n) : Ret Try.prog 65 [.pointer (some ⟨b, 0, none⟩), .agg (e.cells de0).toArray, .int .i64 ((o : Nat) : Int)] w (fun r w' => r = (.bool ((yM L e o)) : Value) ∧ Sep G W Rs w') := by
 have hde0s : _ * 8 ≤ _ := hde0.small
 refine zq (args := [.pointer (some ⟨b, 0, none⟩), .agg (e.cells de0).toArray, .int .i64 ((o : Nat) : Int)]) Try.func65 rfl rfl ?_
 obtain ⟨vl1, hb2, hl3⟩ := RefS.sh hb
 have hsm4 : L.length * 96 ≤ 140737488355328 := hl3.small
 refine zd ?_
 refine za (by kernel_rfl) (fun _ => ?_)
 refine st (yp (v := .agg (e.cells de0).toArray) rfl ?_)
 intro w7 b6 hn5
 have hS8 := hS0.new hn5
 refine st (zf (v := .bool false) rfl ?_)
 refine zg ?_
 refine zd ?_
 refine zd ?_
 refine za (by kernel_rfl) (fun _ => ?_)
 refine st (yA rfl ?_)
 refine st (zh (v := de0) Try.isAgg34 rfl (zi (hS8.blk (i := 0) rfl) rfl) ?_)
 refine st (zb (v := .int .i64 ((o : Nat) : Int)) rfl ?_)
 have hi9 : o < e.deps.length := (by first | omega | (simp only [zu]; omega))
 refine st (zl (k := 1) (i := o) Try.underlying34 Try.sizeOf3 rfl hde0.sl rfl hi9 ?_)
 have hi11 : o < e.deps.length := (by first | omega | (simp only [zu]; omega))
 obtain ⟨hce10, hxe10⟩ := hde0.int hi11
 rw [← zo 0 hi11] at hce10 hxe10
 have hcw12 := hS8.cells hce10 (hde0.foot (ne_of_lt hi11))
 refine st (zh (v := .int .i64 ((e.deps.getD o 0))) Try.isAgg3 rfl (hcw12.get (j := 0) rfl) ?_)
 refine st (zO (k := .i64) (a := (e.deps.getD o 0)) (b := 0) rfl rfl ?_)
 refine zg ?_
 cases hc13 : decide ((e.deps.getD o 0) = 0)
 ·skip
  have hc13r := hc13
  have hc13 := of_decide_eq_false hc13
  refine zk rfl ?_
  refine zp ?_
  refine zd ?_
  refine za (by kernel_rfl) (fun _ => ?_)
  refine st (zb (v := .pointer (some ⟨b, 0, none⟩)) rfl ?_)
  refine st (zb (v := .int .i64 ((o : Nat) : Int)) rfl ?_)
  refine st (yA rfl ?_)
  refine st (zh (v := de0) Try.isAgg34 rfl (zi (hS8.blk (i := 0) rfl) rfl) ?_)
  refine st (zb (v := .int .i64 ((o : Nat) : Int)) rfl ?_)
  have hi14 : o < e.deps.length := (by first | omega | (simp only [zu]; omega))
  refine st (zl (k := 1) (i := o) Try.underlying34 Try.sizeOf3 rfl hde0.sl rfl hi14 ?_)
  have hcw16 := hS8.cells hce10 (hde0.foot (ne_of_lt hi11))
  refine st (zh (v := .int .i64 ((e.deps.getD o 0))) Try.isAgg3 rfl (hcw16.get (j := 0) rfl) ?_)
  refine st (zW (parts' := [(0, .int .i64 ((o : Nat) : Int)), (1, .int .i64 ((e.deps.getD o 0)))]) (v := .agg #[.int .i64 ((o : Nat) : Int), .int .i64 ((e.deps.getD o 0))]) rfl (by simp [Instr.build, Instr.fill, Ev.cells, go_sem, Ev.cells, Msg.cells]) ?_)
  refine st (zj (f := 64) (vals := [.pointer (some ⟨b, 0, none⟩), .agg #[.int .i64 ((o : Nat) : Int), .int .i64 ((e.deps.getD o 0))]]) (cap := []) rfl rfl Try.call64 (VZ  hb (by omega) hxe10 hS8) ?_)
  rintro _ w19 ⟨v17, rfl, hgo18, hS20⟩
  have hr21 := hS20.row (i := 0) rfl
  have hr21s : _ * 8 ≤ _ := hr21.2
  refine st (zb (v := .tuple #[.agg (((zy L (((o : Nat) : Int), (e.deps.getD o 0))).getD default).cells v17).toArray, .bool (zy L (((o : Nat) : Int), (e.deps.getD o 0))).isSome]) rfl ?_)
  refine st (yx (vs := [.agg (((zy L (((o : Nat) : Int), (e.deps.getD o 0))).getD default).cells v17).toArray, .bool ((zy L (((o : Nat) : Int), (e.deps.getD o 0))).isSome)]) (i := 0) (v := .agg (((zy L (((o : Nat) : Int), (e.deps.getD o 0))).getD default).cells v17).toArray) rfl rfl ?_)
  refine st (yx (vs := [.agg (((zy L (((o : Nat) : Int), (e.deps.getD o 0))).getD default).cells v17).toArray, .bool ((zy L (((o : Nat) : Int), (e.deps.getD o 0))).isSome)]) (i := 1) (v := .bool ((zy L (((o : Nat) : Int), (e.deps.getD o 0))).isSome)) rfl rfl ?_)
  refine st (zX Try.zeroValue36 ?_)
  intro w24 b23 hn22
  have hS25 := hS20.new hn22
  refine stn (zT (v := .agg (((zy L (((o : Nat) : Int), (e.deps.getD o 0))).getD default).cells v17).toArray) (c' := (((zy L (((o : Nat) : Int), (e.deps.getD o 0))).getD default).cells v17).toArray) Try.sizeOf36 rfl rfl (hS25.blk (i := 0) rfl) (yz ⟨rfl, rfl, rfl, hr21.1.one, rfl, rfl, rfl, rfl, rfl, rfl, trivial⟩) (Nat.le_of_ble_eq_true rfl) rfl ?_)
  intro w26 hp27
  have hS28 := hS25.pt0 hp27
  refine st (zf (v := .bool ((zy L (((o : Nat) : Int), (e.deps.getD o 0))).isSome)) rfl ?_)
  refine zg ?_
  refine zd ?_
  refine zd ?_
  refine zF (by kernel_rfl) ?_
  refine st (zb (v := .bool ((zy L (((o : Nat) : Int), (e.deps.getD o 0))).isSome)) rfl ?_)
  refine st (yH (a := (zy L (((o : Nat) : Int), (e.deps.getD o 0))).isSome) rfl ?_)
  refine st (zb (v := .bool (!((zy L (((o : Nat) : Int), (e.deps.getD o 0))).isSome))) rfl ?_)
  refine stc (V := .pointer (some ⟨b23, 2, none⟩)) rfl rfl (fun hb29 => ?_) ?_
  ·have hl30 := hb29
   try simp only [zr] at hl30
   exact yP rfl ⟨rfl, rfl⟩
  refine stc (V := .int .i64 (((zy L (((o : Nat) : Int), (e.deps.getD o 0))).getD default).lam)) rfl rfl (fun hb31 => ?_) ?_
  ·have hl32 := hb31
   try simp only [zr] at hl32
   exact zh (v := .int .i64 (((zy L (((o : Nat) : Int), (e.deps.getD o 0))).getD default).lam)) Try.isAgg3 (show _ = (.pointer (some ⟨b23, 2, none⟩) : Value) from (if_pos hb31)) (zi (hS28.blk (i := 0) rfl) rfl) ⟨rfl, rfl⟩
  refine stc (V := .pointer (some ⟨b6, 2, none⟩)) rfl rfl (fun hb33 => ?_) ?_
  ·have hl34 := hb33
   try simp only [zr] at hl34
   exact yP rfl ⟨rfl, rfl⟩
  refine stc (V := .int .i64 (e.lam)) rfl rfl (fun hb35 => ?_) ?_
  ·have hl36 := hb35
   try simp only [zr] at hl36
   exact zh (v := .int .i64 (e.lam)) Try.isAgg3 (show _ = (.pointer (some ⟨b6, 2, none⟩) : Value) from (if_pos hb35)) (zi (hS28.blk (i := 2) rfl) rfl) ⟨rfl, rfl⟩
  refine stc (V := .bool (decide (e.lam ≤ (((zy L (((o : Nat) : Int), (e.deps.getD o 0))).getD default).lam)))) rfl rfl (fun hb37 => ?_) ?_
  ·have hl38 := hb37
   try simp only [zr] at hl38
   exact xz (k := .i64) (a := ((zy L (((o : Nat) : Int), (e.deps.getD o 0))).getD default).lam) (b := e.lam) (show _ = (.int .i64 (((zy L (((o : Nat) : Int), (e.deps.getD o 0))).getD default).lam) : Value) from (if_pos hb37)) (show _ = (.int .i64 (e.lam) : Value) from (if_pos hb37)) ⟨rfl, rfl⟩
  refine st (zD (b := !((zy L (((o : Nat) : Int), (e.deps.getD o 0))).isSome)) (b' := decide (e.lam ≤ (((zy L (((o : Nat) : Int), (e.deps.getD o 0))).getD default).lam))) rfl (fun hbp => (show _ = (.bool (decide (e.lam ≤ (((zy L (((o : Nat) : Int), (e.deps.getD o 0))).getD default).lam))) : Value) from (if_pos hbp))) ?_)
  refine zg ?_
  cases hc39 : (!((zy L (((o : Nat) : Int), (e.deps.getD o 0))).isSome)) || (decide (e.lam ≤ (((zy L (((o : Nat) : Int), (e.deps.getD o 0))).getD default).lam)))
  ·skip
   have hc39r := hc39
   try simp only [zr] at hc39
   have hq9 := hc39r
   simp only [Bool.or_eq_false_iff, Bool.not_eq_false', decide_eq_false_iff_not, Bool.not_eq_eq_eq_not, Bool.not_false] at hq9
   have hxl9 : ((zy L (((o : Nat) : Int), (e.deps.getD o 0))).getD default).deps.length = n := Xx hlen rfl hq9.1
   refine zk rfl ?_
   refine zp ?_
   refine zd ?_
   refine zd ?_
   refine za (by kernel_rfl) (fun _ => ?_)
   refine st (zf (v := .int .i64 (0)) rfl ?_)
   refine zg ?_
   refine zx ?_
   refine yb (fun mq σ wq => ∃ (k : Nat) (ρ : Env), mq = n - k ∧ σ = ye ρ [(0, .pointer (some ⟨b, 0, none⟩)), (4, .pointer (some ⟨b6, 0, none⟩)), (7, .pointer (some ⟨b23, 0, none⟩)), (9, .int .i64 ((k : Nat) : Int))] ∧ (k ≤ n) ∧ (∀ i, i < k → ((zy L (((o : Nat) : Int), (e.deps.getD o 0))).getD default).deps.getD i 0 ≤ e.deps.getD i 0) ∧ Sep G W ((Blk b23 (((zy L (((o : Nat) : Int), (e.deps.getD o 0))).getD default).cells v17).toArray 36) :: (RowE (α := Int) own 3 v17 (((zy L (((o : Nat) : Int), (e.deps.getD o 0))).getD default).deps)) :: (Blk b6 (e.cells de0).toArray 36) :: Rs) wq) ⟨0, _, rfl, zn ⟨rfl, rfl, rfl, rfl, trivial⟩, Nat.zero_le _, (fun i h => absurd h (Nat.not_lt_zero i)), hS28⟩ ?_
   rintro m41 σ42 w40 ⟨k, ρl1, rfl, rfl, hkk, hm, hS43⟩
   refine zd ?_
   refine zd ?_
   refine za (by kernel_rfl) (fun _ => ?_)
   refine st (zb (v := .int .i64 ((k : Nat) : Int)) rfl ?_)
   refine st (zb (v := .pointer (some ⟨b, 0, none⟩)) rfl ?_)
   refine st (zC (b := b) (o := 0) rfl ?_)
   refine st (YR rfl ?_)
   refine st (zh (v := .int .i64 ((n : Nat) : Int)) Try.isAgg3 rfl (zi (hS43.gblk hb2) rfl) ?_)
   refine st (zJ (k := .i64) (a := ((k : Nat) : Int)) (b := ((n : Nat) : Int)) rfl rfl ?_)
   refine zg ?_
   cases hc44 : decide (((k : Nat) : Int) < ((n : Nat) : Int))
   ·skip
    have hc44r := hc44
    have hc44 := of_decide_eq_false hc44
    refine zk rfl ?_
    refine ya ?_
    refine zQ ?_
    refine zd ?_
    refine za (by kernel_rfl) (fun _ => ?_)
    refine st (zf (v := .bool true) rfl ?_)
    refine zg ?_
    refine zw ?_
    refine zM Try.results65 (show _ = (.bool true : Value) from rfl) ?_
    have hS45 : Sep G W Rs w40 := hS43.sel 3 [] (Nat.le_add_left _ _) rfl rfl
    refine ⟨?_, hS45⟩
    rw [ZB hc13 rfl hq9.1, decide_eq_true (show ((zy L (((o : Nat) : Int), (e.deps.getD o 0))).getD default).lam < e.lam by omega), Bool.true_and]
    rw [List.all_eq_true.2 (fun i hi => decide_eq_true (hm i (by have := List.mem_range.1 hi; omega)))]
   ·skip
    have hc44r := hc44
    have hc44 := of_decide_eq_true hc44
    refine zm rfl ?_
    refine zp ?_
    refine zd ?_
    refine zx ?_
    refine zd ?_
    refine zS (WF [fun vals wq => Sep G W ((Blk b23 (((zy L (((o : Nat) : Int), (e.deps.getD o 0))).getD default).cells v17).toArray 36) :: (RowE (α := Int) own 3 v17 (((zy L (((o : Nat) : Int), (e.deps.getD o 0))).getD default).deps)) :: (Blk b6 (e.cells de0).toArray 36) :: Rs) wq]) (AF [Vl 0 (.pointer (some ⟨b23, 3, none⟩)), Vl 1 (v17), Vl 2 (.int .i64 ((k : Nat) : Int)), Vl 3 (.pointer (some ⟨sb v17, so v17 + k * 1, none⟩)), Vl 4 (.int .i64 (((((zy L (((o : Nat) : Int), (e.deps.getD o 0))).getD default).deps).getD k 0))), Vl 5 (.pointer (some ⟨b6, 3, none⟩)), Vl 6 (de0), Vl 7 (.int .i64 ((k : Nat) : Int)), Vl 8 (.pointer (some ⟨sb de0, so de0 + k * 1, none⟩)), Vl 9 (.int .i64 ((e.deps.getD k 0))), Vl 10 (.bool (decide ((e.deps.getD k 0) < ((((zy L (((o : Nat) : Int), (e.deps.getD o 0))).getD default).deps).getD k 0))))]) [[], [0], [], [0, 1, 2], [0, 1, 2, 3], [], [5], [], [5, 6, 7], [5, 6, 7, 8], [0, 1, 2, 3, 4, 5, 6, 7, 8, 9]] [] [(0, 0), (0, 0), (0, 0), (0, 0), (0, 0), (0, 0), (0, 0), (0, 0), (0, 0), (0, 0), (0, 0)] (by kernel_rfl) (by kernel_rfl) (by kernel_rfl) rfl (by kernel_rfl) (by kernel_rfl) (fun _ h1 h2 h3 h4 _ => hS43.same h1 h2 h3 h4) ?_ (yk ⟨dA, dA, dA, dA, dA, dA, dA, dA, dA, dA, dA, trivial⟩) ⟨?_, ?_, ?_, ?_, ?_, ?_, ?_, ?_, ?_, ?_, ?_, trivial⟩ ?_
    ·intro k vals vals' w hv h
     match k, h with
     | 0, h => exact h
     | _ + 1, _ => trivial
    ·intro k136 vals w137 h140 h141 hW139 hA138
     refine obl rfl ?_
     exact yA rfl (fun vals' hv _ => ⟨rfl, hv⟩)
    ·intro k142 vals w143 h146 h147 hW145 hA144
     obtain rfl : k142 = 0 := Nat.le_antisymm h147 h146
     have hS148 : Sep _ _ _ _ := hW145
     have e149 := hA144 0 (by decide)
     refine obl rfl ?_
     exact zh (v := v17) Try.isAgg34 e149 (zi (hS148.blk (i := 0) rfl) rfl) (fun vals' hv _ => ⟨rfl, hv⟩)
    ·intro k150 vals w151 h154 h155 hW153 hA152
     refine obl rfl ?_
     exact zb (v := .int .i64 ((k : Nat) : Int)) rfl (fun vals' hv _ => ⟨rfl, hv⟩)
    ·intro k156 vals w157 h160 h161 hW159 hA158
     obtain rfl : k156 = 0 := Nat.le_antisymm h161 h160
     have hS162 : Sep _ _ _ _ := hW159
     have e163 := hA158 1 (by decide)
     have e164 := hA158 2 (by decide)
     refine obl rfl ?_
     have hi165 : k < (((zy L (((o : Nat) : Int), (e.deps.getD o 0))).getD default).deps).length := (by first | omega | (simp only [zu]; omega))
     exact zl (k := 1) (i := k) Try.underlying34 Try.sizeOf3 e163 hr21.1 e164 hi165 (fun vals' hv _ => ⟨rfl, hv⟩)
    ·intro k166 vals w167 h170 h171 hW169 hA168
     obtain rfl : k166 = 0 := Nat.le_antisymm h171 h170
     have hS172 : Sep _ _ _ _ := hW169
     have e173 := hA168 3 (by decide)
     refine obl rfl ?_
     have hi175 : k < (((zy L (((o : Nat) : Int), (e.deps.getD o 0))).getD default).deps).length := (by first | omega | (simp only [zu]; omega))
     obtain ⟨_, _, hce174, rfl, hxe174⟩ := hS172.rowAt (i := 1) (j := k) rfl hi175
     rw [← zo 0 hi175] at hce174 hxe174
     exact zh (v := .int .i64 (((((zy L (((o : Nat) : Int), (e.deps.getD o 0))).getD default).deps).getD k 0))) Try.isAgg3 e173 (hce174.get (j := 0) rfl) (fun vals' hv _ => ⟨rfl, hv⟩)
    ·intro k176 vals w177 h180 h181 hW179 hA178
     refine obl rfl ?_
     exact yA rfl (fun vals' hv _ => ⟨rfl, hv⟩)
    ·intro k182 vals w183 h186 h187 hW185 hA184
     obtain rfl : k182 = 0 := Nat.le_antisymm h187 h186
     have hS188 : Sep _ _ _ _ := hW185
     have e189 := hA184 5 (by decide)
     refine obl rfl ?_
     exact zh (v := de0) Try.isAgg34 e189 (zi (hS188.blk (i := 2) rfl) rfl) (fun vals' hv _ => ⟨rfl, hv⟩)
    ·intro k190 vals w191 h194 h195 hW193 hA192
     refine obl rfl ?_
     exact zb (v := .int .i64 ((k : Nat) : Int)) rfl (fun vals' hv _ => ⟨rfl, hv⟩)
    ·intro k196 vals w197 h200 h201 hW199 hA198
     obtain rfl : k196 = 0 := Nat.le_antisymm h201 h200
     have hS202 : Sep _ _ _ _ := hW199
     have e203 := hA198 6 (by decide)
     have e204 := hA198 7 (by decide)
     refine obl rfl ?_
     have hi205 : k < e.deps.length := (by first | omega | (simp only [zu]; omega))
     exact zl (k := 1) (i := k) Try.underlying34 Try.sizeOf3 e203 hde0.sl e204 hi205 (fun vals' hv _ => ⟨rfl, hv⟩)
    ·intro k206 vals w207 h210 h211 hW209 hA208
     obtain rfl : k206 = 0 := Nat.le_antisymm h211 h210
     have hS212 : Sep _ _ _ _ := hW209
     have e213 := hA208 8 (by decide)
     refine obl rfl ?_
     have hi215 : k < e.deps.length := (by first | omega | (simp only [zu]; omega))
     obtain ⟨hce214, hxe214⟩ := hde0.int hi215
     rw [← zo 0 hi215] at hce214 hxe214
     have hcw216 := hS212.cells hce214 (hde0.foot (ne_of_lt hi215))
     exact zh (v := .int .i64 ((e.deps.getD k 0))) Try.isAgg3 e213 (hcw216.get (j := 0) rfl) (fun vals' hv _ => ⟨rfl, hv⟩)
    ·intro k217 vals w218 h221 h222 hW220 hA219
     obtain rfl : k217 = 0 := Nat.le_antisymm h222 h221
     have hS223 : Sep _ _ _ _ := hW220
     have e224 := hA219 4 (by decide)
     have e225 := hA219 9 (by decide)
     refine obl rfl ?_
     exact yy (k := .i64) (a := ((((zy L (((o : Nat) : Int), (e.deps.getD o 0))).getD default).deps).getD k 0)) (b := (e.deps.getD k 0)) e224 e225 (fun vals' hv _ => ⟨rfl, hv⟩)
    intro vals w226 hW227 hA228
    have hS229 : Sep _ _ _ _ := hW227
    have e230 := hA228 10 (by decide)
    refine yj (kv := [(0, .pointer (some ⟨b, 0, none⟩)), (4, .pointer (some ⟨b6, 0, none⟩)), (7, .pointer (some ⟨b23, 0, none⟩)), (9, .int .i64 ((k : Nat) : Int)), (37, .int .i64 ((k : Nat) : Int)), (38, .pointer (some ⟨b, 0, none⟩)), (39, .pointer (some ⟨b, 0, none⟩)), (40, .pointer (some ⟨b, 0, none⟩)), (41, .int .i64 ((n : Nat) : Int)), (42, .bool true), (55, .bool (decide ((e.deps.getD k 0) < ((((zy L (((o : Nat) : Int), (e.deps.getD o 0))).getD default).deps).getD k 0))))]) ⟨rfl, rfl, rfl, rfl, rfl, rfl, rfl, rfl, rfl, rfl, (by exact e230), trivial⟩ (fun ρw226 => ?_)
    refine zg ?_
    cases hc231 : decide ((e.deps.getD k 0) < ((((zy L (((o : Nat) : Int), (e.deps.getD o 0))).getD default).deps).getD k 0))
    ·skip
     have hc231r := hc231
     have hc231 := of_decide_eq_false hc231
     refine zk rfl ?_
     refine zp ?_
     refine za (by kernel_rfl) (fun _ => ?_)
     refine st (zb (v := .int .i64 ((k : Nat) : Int)) rfl ?_)
     have hr232 : InR ((k + 1 : Nat) : Int) := by first | omega | (simp only [zu]; omega)
     refine st (zU (r := ((k + 1 : Nat) : Int)) (k := .i64) (a := ((k : Nat) : Int)) (b := 1) rfl rfl (by rw [show (((k : Nat) : Int) + 1 : Int) = ((k + 1 : Nat) : Int) by first | omega | (simp only [zu]; omega)]; exact zH hr232) ?_)
     refine st (zf (v := .int .i64 ((k + 1 : Nat) : Int)) rfl ?_)
     refine zg ?_
     exact ⟨_, by omega, k + 1, _, rfl, zn ⟨rfl, rfl, rfl, rfl, trivial⟩, by omega, (yU hm (by omega)), hS229⟩
    ·skip
     have hc231r := hc231
     have hc231 := of_decide_eq_true hc231
     refine zm rfl ?_
     refine zd ?_
     refine za (by kernel_rfl) (fun _ => ?_)
     refine st (zf (v := .bool false) rfl ?_)
     refine zg ?_
     refine zw ?_
     refine zM Try.results65 (show _ = (.bool false : Value) from rfl) ?_
     have hS233 : Sep G W Rs w226 := hS229.sel 3 [] (Nat.le_add_left _ _) rfl rfl
     refine ⟨?_, hS233⟩
     rw [ZB hc13 rfl hq9.1, decide_eq_true (show ((zy L (((o : Nat) : Int), (e.deps.getD o 0))).getD default).lam < e.lam by omega), Bool.true_and]
     congr 1
     symm
     rw [List.all_eq_false]
     exact ⟨k, List.mem_range.2 (by omega), by simp only [decide_eq_true_eq]; omega⟩
  ·skip
   have hc39r := hc39
   try simp only [zr] at hc39
   refine zm rfl ?_
   refine zd ?_
   refine za (by kernel_rfl) (fun _ => ?_)
   refine st (zf (v := .bool false) rfl ?_)
   refine zg ?_
   refine zw ?_
   refine zM Try.results65 (show _ = (.bool false : Value) from rfl) ?_
   have hS234 : Sep G W Rs w26 := hS28.sel 3 [] (Nat.le_add_left _ _) rfl rfl
   refine ⟨?_, hS234⟩
   cases hq9 : (zy L (((o : Nat) : Int), e.deps.getD o 0)).isSome
   · rw [Vy hc13 hq9]
   · rw [ZB hc13 rfl hq9]
     have h9 : ¬ ((zy L (((o : Nat) : Int), (e.deps.getD o 0))).getD default).lam < e.lam := by rw [hq9] at hc39r; simpa using hc39r
     rw [decide_eq_false h9]; rfl
 ·skip
  have hc13r := hc13
  have hc13 := of_decide_eq_true hc13
  refine zm rfl ?_
  refine zd ?_
  refine za (by kernel_rfl) (fun _ => ?_)
  refine st (zf (v := .bool true) rfl ?_)
  refine zg ?_
  refine zw ?_
  refine zM Try.results65 (show _ = (.bool true : Value) from rfl) ?_
  have hS235 : Sep G W Rs w7 := hS8.sel 1 [] (Nat.le_add_left _ _) rfl rfl
  refine ⟨?_, hS235⟩
  rw [Us hc13]

theorem Zq {l : List Int} {k : Nat} (hk : k < l.length) (h : l.getD k 0 < 0) : xH l = true := by
  unfold xH
  rw [List.any_eq_true]
  exact ⟨l.getD k 0, by rw [zo _ hk]; exact List.getElem_mem hk, by simpa using h⟩
theorem Zh {l : List Int} (h : ∀ i, i < l.length → ¬ l.getD i 0 < 0) : xH l = false := by
  unfold xH
  rw [List.any_eq_false]
  intro x hx
  obtain ⟨i, hi, rfl⟩ := List.getElem_of_mem hx
  have := h i hi
  rw [zo _ hi] at this
  simpa using this
theorem xf {e : Ev} {n : Int} : zP e n =
    if ((((((decide (e.origin < 0) || decide (n ≤ e.origin)) || decide (e.seq < 1)) || decide (e.lam < 1)) || decide (e.agg < 0)) || decide (e.key < 0)) || !decide (((e.deps.length : Nat) : Int) = n)) = true then 1
    else if xH e.deps = true then 1
    else if (!decide (e.deps.getD e.origin.toNat 0 = e.seq - 1)) = true then 9
    else if (decide (e.op < 1) || decide (5 < e.op)) = true then 2
    else if (((decide (e.typ < 0) || decide (7 < e.typ)) || decide (e.field < 0)) || decide (7 < e.field)) = true then 8
    else 0 := by
  unfold zP
  have h1 : decide (min e.seq e.lam < 1) = (decide (e.seq < 1) || decide (e.lam < 1)) := by rw [Bool.eq_iff_iff]; simp only [Bool.or_eq_true, decide_eq_true_eq]; omega
  have h2 : decide (min e.agg e.key < 0) = (decide (e.agg < 0) || decide (e.key < 0)) := by rw [Bool.eq_iff_iff]; simp only [Bool.or_eq_true, decide_eq_true_eq]; omega
  have h3 : ((decide (min e.typ e.field < 0) || decide (8 ≤ e.typ)) || decide (8 ≤ e.field)) = (((decide (e.typ < 0) || decide (7 < e.typ)) || decide (e.field < 0)) || decide (7 < e.field)) := by rw [Bool.eq_iff_iff]; simp only [Bool.or_eq_true, decide_eq_true_eq]; omega
  rw [h1, h2, h3]
  cases hn : xH e.deps
  · simp only [Bool.or_false, Bool.or_assoc, Bool.false_eq_true, if_false]
  · simp only [Bool.or_true, Bool.or_assoc, if_true]
    split <;> rfl
theorem VM {G : Nat → Prop} {W w : World} {Rs : List HP} {e : Ev} {de0 : Value} (hde0 : RdS W G de0 e.deps) (oe : e.Ok) {n : Nat} (hn : n ≤ 1000) (hS0 : Sep G W Rs w) : Ret Try.prog 63 [.agg (e.cells de0).toArray, .int .i64 ((n : Nat) : Int)] w (fun r w' => r = (.int .i64 ((zP e ((n : Nat) : Int))) : Value) ∧ Sep G W Rs w') := by
 have hde0s : _ * 8 ≤ _ := hde0.small
 refine zq (args := [.agg (e.cells de0).toArray, .int .i64 ((n : Nat) : Int)]) Try.func63 rfl rfl ?_
 refine zd ?_
 refine za (by kernel_rfl) (fun _ => ?_)
 refine st (yp (v := .agg (e.cells de0).toArray) rfl ?_)
 intro w3 b2 hn1
 have hS4 := hS0.new hn1
 refine st (zf (v := .int .i64 (0)) rfl ?_)
 refine zg ?_
 refine zd ?_
 refine zd ?_
 refine zF (by kernel_rfl) ?_
 refine st (yd rfl ?_)
 refine st (yE rfl ?_)
 refine st (zh (v := .int .i64 (e.origin)) Try.isAgg3 rfl (zi (hS4.blk (i := 0) rfl) rfl) ?_)
 refine st (zJ (k := .i64) (a := e.origin) (b := 0) rfl rfl ?_)
 refine st (zb (v := .bool (decide (e.origin < 0))) rfl ?_)
 refine stc (V := .pointer (some ⟨b2, 0, none⟩)) rfl rfl (fun hb5 => ?_) ?_
 ·have hl6 := hb5
  have hl6 := of_decide_eq_false hl6
  exact yd rfl ⟨rfl, rfl⟩
 refine stc (V := .pointer (some ⟨b2, 0, none⟩)) rfl rfl (fun hb7 => ?_) ?_
 ·have hl8 := hb7
  have hl8 := of_decide_eq_false hl8
  exact yE (show _ = (.pointer (some ⟨b2, 0, none⟩) : Value) from (if_pos hb7)) ⟨rfl, rfl⟩
 refine stc (V := .int .i64 (e.origin)) rfl rfl (fun hb9 => ?_) ?_
 ·have hl10 := hb9
  have hl10 := of_decide_eq_false hl10
  exact zh (v := .int .i64 (e.origin)) Try.isAgg3 (show _ = (.pointer (some ⟨b2, 0, none⟩) : Value) from (if_pos hb9)) (zi (hS4.blk (i := 0) rfl) rfl) ⟨rfl, rfl⟩
 refine stc (V := .int .i64 ((n : Nat) : Int)) rfl rfl (fun hb11 => ?_) ?_
 ·have hl12 := hb11
  have hl12 := of_decide_eq_false hl12
  exact zb (v := .int .i64 ((n : Nat) : Int)) rfl ⟨rfl, rfl⟩
 refine stc (V := .bool (decide (((n : Nat) : Int) ≤ e.origin))) rfl rfl (fun hb13 => ?_) ?_
 ·have hl14 := hb13
  have hl14 := of_decide_eq_false hl14
  exact xz (k := .i64) (a := e.origin) (b := ((n : Nat) : Int)) (show _ = (.int .i64 (e.origin) : Value) from (if_pos hb13)) (show _ = (.int .i64 ((n : Nat) : Int) : Value) from (if_pos hb13)) ⟨rfl, rfl⟩
 refine st (zD (b := decide (e.origin < 0)) (b' := decide (((n : Nat) : Int) ≤ e.origin)) rfl (fun hbp => (show _ = (.bool (decide (((n : Nat) : Int) ≤ e.origin)) : Value) from (if_pos hbp))) ?_)
 refine st (zb (v := .bool ((decide (e.origin < 0)) || (decide (((n : Nat) : Int) ≤ e.origin)))) rfl ?_)
 refine stc (V := .pointer (some ⟨b2, 0, none⟩)) rfl rfl (fun hb15 => ?_) ?_
 ·have hl16 := hb15
  try simp only [zr] at hl16
  exact yd rfl ⟨rfl, rfl⟩
 refine stc (V := .pointer (some ⟨b2, 1, none⟩)) rfl rfl (fun hb17 => ?_) ?_
 ·have hl18 := hb17
  try simp only [zr] at hl18
  exact xe (show _ = (.pointer (some ⟨b2, 0, none⟩) : Value) from (if_pos hb17)) ⟨rfl, rfl⟩
 refine stc (V := .int .i64 (e.seq)) rfl rfl (fun hb19 => ?_) ?_
 ·have hl20 := hb19
  try simp only [zr] at hl20
  exact zh (v := .int .i64 (e.seq)) Try.isAgg3 (show _ = (.pointer (some ⟨b2, 1, none⟩) : Value) from (if_pos hb19)) (zi (hS4.blk (i := 0) rfl) rfl) ⟨rfl, rfl⟩
 refine stc (V := .bool (decide (e.seq < 1))) rfl rfl (fun hb21 => ?_) ?_
 ·have hl22 := hb21
  try simp only [zr] at hl22
  exact zJ (k := .i64) (a := e.seq) (b := 1) (show _ = (.int .i64 (e.seq) : Value) from (if_pos hb21)) rfl ⟨rfl, rfl⟩
 refine st (zD (b := (decide (e.origin < 0)) || (decide (((n : Nat) : Int) ≤ e.origin))) (b' := decide (e.seq < 1)) rfl (fun hbp => (show _ = (.bool (decide (e.seq < 1)) : Value) from (if_pos hbp))) ?_)
 refine st (zb (v := .bool (((decide (e.origin < 0)) || (decide (((n : Nat) : Int) ≤ e.origin))) || (decide (e.seq < 1)))) rfl ?_)
 refine stc (V := .pointer (some ⟨b2, 2, none⟩)) rfl rfl (fun hb23 => ?_) ?_
 ·have hl24 := hb23
  try simp only [zr] at hl24
  exact yP rfl ⟨rfl, rfl⟩
 refine stc (V := .int .i64 (e.lam)) rfl rfl (fun hb25 => ?_) ?_
 ·have hl26 := hb25
  try simp only [zr] at hl26
  exact zh (v := .int .i64 (e.lam)) Try.isAgg3 (show _ = (.pointer (some ⟨b2, 2, none⟩) : Value) from (if_pos hb25)) (zi (hS4.blk (i := 0) rfl) rfl) ⟨rfl, rfl⟩
 refine stc (V := .bool (decide (e.lam < 1))) rfl rfl (fun hb27 => ?_) ?_
 ·have hl28 := hb27
  try simp only [zr] at hl28
  exact zJ (k := .i64) (a := e.lam) (b := 1) (show _ = (.int .i64 (e.lam) : Value) from (if_pos hb27)) rfl ⟨rfl, rfl⟩
 refine st (zD (b := ((decide (e.origin < 0)) || (decide (((n : Nat) : Int) ≤ e.origin))) || (decide (e.seq < 1))) (b' := decide (e.lam < 1)) rfl (fun hbp => (show _ = (.bool (decide (e.lam < 1)) : Value) from (if_pos hbp))) ?_)
 refine st (zb (v := .bool ((((decide (e.origin < 0)) || (decide (((n : Nat) : Int) ≤ e.origin))) || (decide (e.seq < 1))) || (decide (e.lam < 1)))) rfl ?_)
 refine stc (V := .pointer (some ⟨b2, 5, none⟩)) rfl rfl (fun hb29 => ?_) ?_
 ·have hl30 := hb29
  try simp only [zr] at hl30
  exact YS rfl ⟨rfl, rfl⟩
 refine stc (V := .int .i64 (e.agg)) rfl rfl (fun hb31 => ?_) ?_
 ·have hl32 := hb31
  try simp only [zr] at hl32
  exact zh (v := .int .i64 (e.agg)) Try.isAgg3 (show _ = (.pointer (some ⟨b2, 5, none⟩) : Value) from (if_pos hb31)) (zi (hS4.blk (i := 0) rfl) rfl) ⟨rfl, rfl⟩
 refine stc (V := .bool (decide (e.agg < 0))) rfl rfl (fun hb33 => ?_) ?_
 ·have hl34 := hb33
  try simp only [zr] at hl34
  exact zJ (k := .i64) (a := e.agg) (b := 0) (show _ = (.int .i64 (e.agg) : Value) from (if_pos hb33)) rfl ⟨rfl, rfl⟩
 refine st (zD (b := (((decide (e.origin < 0)) || (decide (((n : Nat) : Int) ≤ e.origin))) || (decide (e.seq < 1))) || (decide (e.lam < 1))) (b' := decide (e.agg < 0)) rfl (fun hbp => (show _ = (.bool (decide (e.agg < 0)) : Value) from (if_pos hbp))) ?_)
 refine st (zb (v := .bool (((((decide (e.origin < 0)) || (decide (((n : Nat) : Int) ≤ e.origin))) || (decide (e.seq < 1))) || (decide (e.lam < 1))) || (decide (e.agg < 0)))) rfl ?_)
 refine stc (V := .pointer (some ⟨b2, 9, none⟩)) rfl rfl (fun hb35 => ?_) ?_
 ·have hl36 := hb35
  try simp only [zr] at hl36
  exact YO rfl ⟨rfl, rfl⟩
 refine stc (V := .int .i64 (e.key)) rfl rfl (fun hb37 => ?_) ?_
 ·have hl38 := hb37
  try simp only [zr] at hl38
  exact zh (v := .int .i64 (e.key)) Try.isAgg3 (show _ = (.pointer (some ⟨b2, 9, none⟩) : Value) from (if_pos hb37)) (zi (hS4.blk (i := 0) rfl) rfl) ⟨rfl, rfl⟩
 refine stc (V := .bool (decide (e.key < 0))) rfl rfl (fun hb39 => ?_) ?_
 ·have hl40 := hb39
  try simp only [zr] at hl40
  exact zJ (k := .i64) (a := e.key) (b := 0) (show _ = (.int .i64 (e.key) : Value) from (if_pos hb39)) rfl ⟨rfl, rfl⟩
 refine st (zD (b := ((((decide (e.origin < 0)) || (decide (((n : Nat) : Int) ≤ e.origin))) || (decide (e.seq < 1))) || (decide (e.lam < 1))) || (decide (e.agg < 0))) (b' := decide (e.key < 0)) rfl (fun hbp => (show _ = (.bool (decide (e.key < 0)) : Value) from (if_pos hbp))) ?_)
 refine st (zb (v := .bool ((((((decide (e.origin < 0)) || (decide (((n : Nat) : Int) ≤ e.origin))) || (decide (e.seq < 1))) || (decide (e.lam < 1))) || (decide (e.agg < 0))) || (decide (e.key < 0)))) rfl ?_)
 refine stc (V := .pointer (some ⟨b2, 3, none⟩)) rfl rfl (fun hb41 => ?_) ?_
 ·have hl42 := hb41
  try simp only [zr] at hl42
  exact yA rfl ⟨rfl, rfl⟩
 refine stc (V := de0) rfl rfl (fun hb43 => ?_) ?_
 ·have hl44 := hb43
  try simp only [zr] at hl44
  exact zh (v := de0) Try.isAgg34 (show _ = (.pointer (some ⟨b2, 3, none⟩) : Value) from (if_pos hb43)) (zi (hS4.blk (i := 0) rfl) rfl) ⟨rfl, rfl⟩
 refine stc (V := .int .i64 ((e.deps.length : Nat) : Int)) rfl rfl (fun hb45 => ?_) ?_
 ·have hl46 := hb45
  try simp only [zr] at hl46
  exact zB (n := e.deps.length) Try.underlying34 (show _ = (de0 : Value) from (if_pos hb45)) hde0.sl ⟨rfl, rfl⟩
 refine stc (V := .int .i64 ((n : Nat) : Int)) rfl rfl (fun hb47 => ?_) ?_
 ·have hl48 := hb47
  try simp only [zr] at hl48
  exact zb (v := .int .i64 ((n : Nat) : Int)) rfl ⟨rfl, rfl⟩
 refine stc (V := .bool (!decide (((e.deps.length : Nat) : Int) = ((n : Nat) : Int)))) rfl rfl (fun hb49 => ?_) ?_
 ·have hl50 := hb49
  try simp only [zr] at hl50
  exact yu (k := .i64) (a := ((e.deps.length : Nat) : Int)) (b := ((n : Nat) : Int)) (show _ = (.int .i64 ((e.deps.length : Nat) : Int) : Value) from (if_pos hb49)) (show _ = (.int .i64 ((n : Nat) : Int) : Value) from (if_pos hb49)) ⟨rfl, rfl⟩
 refine st (zD (b := (((((decide (e.origin < 0)) || (decide (((n : Nat) : Int) ≤ e.origin))) || (decide (e.seq < 1))) || (decide (e.lam < 1))) || (decide (e.agg < 0))) || (decide (e.key < 0))) (b' := !decide (((e.deps.length : Nat) : Int) = ((n : Nat) : Int))) rfl (fun hbp => (show _ = (.bool (!decide (((e.deps.length : Nat) : Int) = ((n : Nat) : Int))) : Value) from (if_pos hbp))) ?_)
 refine zg ?_
 cases hc51 : ((((((decide (e.origin < 0)) || (decide (((n : Nat) : Int) ≤ e.origin))) || (decide (e.seq < 1))) || (decide (e.lam < 1))) || (decide (e.agg < 0))) || (decide (e.key < 0))) || (!decide (((e.deps.length : Nat) : Int) = ((n : Nat) : Int)))
 ·skip
  have hc51r := hc51
  try simp only [zr] at hc51
  refine zk rfl ?_
  refine zp ?_
  refine zd ?_
  refine zd ?_
  refine za (by kernel_rfl) (fun _ => ?_)
  refine st (zf (v := .int .i64 (0)) rfl ?_)
  refine zg ?_
  refine zx ?_
  refine yb (fun mq σ wq => ∃ (k : Nat) (ρ : Env), mq = n - k ∧ σ = ye ρ [(2, .pointer (some ⟨b2, 0, none⟩)), (1, .int .i64 ((n : Nat) : Int)), (5, .int .i64 ((k : Nat) : Int))] ∧ (k ≤ n) ∧ (∀ i, i < k → ¬ e.deps.getD i 0 < 0) ∧ Sep G W ((Blk b2 (e.cells de0).toArray 36) :: Rs) wq) ⟨0, _, rfl, zn ⟨rfl, rfl, rfl, trivial⟩, Nat.zero_le _, (fun i h => absurd h (Nat.not_lt_zero i)), hS4⟩ ?_
  rintro m53 σ54 w52 ⟨k, ρl1, rfl, rfl, hkk, hm, hS55⟩
  refine zd ?_
  refine zd ?_
  refine za (by kernel_rfl) (fun _ => ?_)
  refine st (zb (v := .int .i64 ((k : Nat) : Int)) rfl ?_)
  refine st (zb (v := .int .i64 ((n : Nat) : Int)) rfl ?_)
  refine st (zJ (k := .i64) (a := ((k : Nat) : Int)) (b := ((n : Nat) : Int)) rfl rfl ?_)
  refine zg ?_
  cases hc56 : decide (((k : Nat) : Int) < ((n : Nat) : Int))
  ·skip
   have hc56r := hc56
   have hc56 := of_decide_eq_false hc56
   refine zk rfl ?_
   refine ya ?_
   refine zQ ?_
   refine zd ?_
   refine zd ?_
   refine zS (WF [fun vals wq => Sep G W ((Blk b2 (e.cells de0).toArray 36) :: Rs) wq]) (AF [Vl 0 (.pointer (some ⟨b2, 3, none⟩)), Vl 1 (de0), Vl 2 (.pointer (some ⟨b2, 0, none⟩)), Vl 3 (.pointer (some ⟨b2, 0, none⟩)), Vl 4 (.int .i64 (e.origin)), Vl 5 (.pointer (some ⟨sb de0, so de0 + e.origin.toNat * 1, none⟩)), Vl 6 (.int .i64 ((e.deps.getD e.origin.toNat 0))), Vl 7 (.pointer (some ⟨b2, 0, none⟩)), Vl 8 (.pointer (some ⟨b2, 1, none⟩)), Vl 9 (.int .i64 (e.seq)), Vl 10 (.int .i64 (e.seq - 1)), Vl 11 (.bool (!decide ((e.deps.getD e.origin.toNat 0) = (e.seq - 1))))]) [[], [0], [], [2], [2, 3], [0, 1, 2, 3, 4], [0, 1, 2, 3, 4, 5], [], [7], [7, 8], [7, 8, 9], [0, 1, 2, 3, 4, 5, 6, 7, 8, 9, 10]] [] [(0, 0), (0, 0), (0, 0), (0, 0), (0, 0), (0, 0), (0, 0), (0, 0), (0, 0), (0, 0), (0, 0), (0, 0)] (by kernel_rfl) (by kernel_rfl) (by kernel_rfl) rfl (by kernel_rfl) (by kernel_rfl) (fun _ h1 h2 h3 h4 _ => hS55.same h1 h2 h3 h4) ?_ (yk ⟨dA, dA, dA, dA, dA, dA, dA, dA, dA, dA, dA, dA, trivial⟩) ⟨?_, ?_, ?_, ?_, ?_, ?_, ?_, ?_, ?_, ?_, ?_, ?_, trivial⟩ ?_
   ·intro k vals vals' w hv h
    match k, h with
    | 0, h => exact h
    | _ + 1, _ => trivial
   ·intro k152 vals w153 h156 h157 hW155 hA154
    refine obl rfl ?_
    exact yA rfl (fun vals' hv _ => ⟨rfl, hv⟩)
   ·intro k158 vals w159 h162 h163 hW161 hA160
    obtain rfl : k158 = 0 := Nat.le_antisymm h163 h162
    have hS164 : Sep _ _ _ _ := hW161
    have e165 := hA160 0 (by decide)
    refine obl rfl ?_
    exact zh (v := de0) Try.isAgg34 e165 (zi (hS164.blk (i := 0) rfl) rfl) (fun vals' hv _ => ⟨rfl, hv⟩)
   ·intro k166 vals w167 h170 h171 hW169 hA168
    refine obl rfl ?_
    exact yd rfl (fun vals' hv _ => ⟨rfl, hv⟩)
   ·intro k172 vals w173 h176 h177 hW175 hA174
    have e178 := hA174 2 (by decide)
    refine obl rfl ?_
    exact yE e178 (fun vals' hv _ => ⟨rfl, hv⟩)
   ·intro k179 vals w180 h183 h184 hW182 hA181
    obtain rfl : k179 = 0 := Nat.le_antisymm h184 h183
    have hS185 : Sep _ _ _ _ := hW182
    have e186 := hA181 3 (by decide)
    refine obl rfl ?_
    exact zh (v := .int .i64 (e.origin)) Try.isAgg3 e186 (zi (hS185.blk (i := 0) rfl) rfl) (fun vals' hv _ => ⟨rfl, hv⟩)
   ·intro k187 vals w188 h191 h192 hW190 hA189
    obtain rfl : k187 = 0 := Nat.le_antisymm h192 h191
    have hS193 : Sep _ _ _ _ := hW190
    have e194 := hA189 1 (by decide)
    have e195 := hA189 4 (by decide)
    refine obl rfl ?_
    have hi196 : e.origin.toNat < e.deps.length := (by first | omega | (simp only [zu]; omega))
    exact yn (k := 1) (i := e.origin) Try.underlying34 Try.sizeOf3 e194 hde0.sl e195 ⟨by omega, by omega⟩ (fun vals' hv _ => ⟨rfl, hv⟩)
   ·intro k197 vals w198 h201 h202 hW200 hA199
    obtain rfl : k197 = 0 := Nat.le_antisymm h202 h201
    have hS203 : Sep _ _ _ _ := hW200
    have e204 := hA199 5 (by decide)
    refine obl rfl ?_
    have hi206 : e.origin.toNat < e.deps.length := (by first | omega | (simp only [zu]; omega))
    obtain ⟨hce205, hxe205⟩ := hde0.int hi206
    rw [← zo 0 hi206] at hce205 hxe205
    have hcw207 := hS203.cells hce205 (hde0.foot (ne_of_lt hi206))
    exact zh (v := .int .i64 ((e.deps.getD e.origin.toNat 0))) Try.isAgg3 e204 (hcw207.get (j := 0) rfl) (fun vals' hv _ => ⟨rfl, hv⟩)
   ·intro k208 vals w209 h212 h213 hW211 hA210
    refine obl rfl ?_
    exact yd rfl (fun vals' hv _ => ⟨rfl, hv⟩)
   ·intro k214 vals w215 h218 h219 hW217 hA216
    have e220 := hA216 7 (by decide)
    refine obl rfl ?_
    exact xe e220 (fun vals' hv _ => ⟨rfl, hv⟩)
   ·intro k221 vals w222 h225 h226 hW224 hA223
    obtain rfl : k221 = 0 := Nat.le_antisymm h226 h225
    have hS227 : Sep _ _ _ _ := hW224
    have e228 := hA223 8 (by decide)
    refine obl rfl ?_
    exact zh (v := .int .i64 (e.seq)) Try.isAgg3 e228 (zi (hS227.blk (i := 0) rfl) rfl) (fun vals' hv _ => ⟨rfl, hv⟩)
   ·intro k229 vals w230 h233 h234 hW232 hA231
    obtain rfl : k229 = 0 := Nat.le_antisymm h234 h233
    have hS235 : Sep _ _ _ _ := hW232
    have e236 := hA231 9 (by decide)
    refine obl rfl ?_
    have hr237 : InR (e.seq - 1) := (by have h9 := oe.seq; omega)
    exact VQ (r := e.seq - 1) (k := .i64) (a := e.seq) (b := 1) e236 rfl (by rw [show (e.seq - 1 : Int) = e.seq - 1 from rfl]; exact zH hr237) (fun vals' hv _ => ⟨rfl, hv⟩)
   ·intro k238 vals w239 h242 h243 hW241 hA240
    obtain rfl : k238 = 0 := Nat.le_antisymm h243 h242
    have hS244 : Sep _ _ _ _ := hW241
    have e245 := hA240 6 (by decide)
    have e246 := hA240 10 (by decide)
    refine obl rfl ?_
    exact yu (k := .i64) (a := (e.deps.getD e.origin.toNat 0)) (b := e.seq - 1) e245 e246 (fun vals' hv _ => ⟨rfl, hv⟩)
   intro vals w247 hW248 hA249
   have hS250 : Sep _ _ _ _ := hW248
   have e251 := hA249 11 (by decide)
   refine yj (kv := [(2, .pointer (some ⟨b2, 0, none⟩)), (1, .int .i64 ((n : Nat) : Int)), (5, .int .i64 ((k : Nat) : Int)), (45, .int .i64 ((k : Nat) : Int)), (46, .int .i64 ((n : Nat) : Int)), (47, .bool false), (67, .bool (!decide ((e.deps.getD e.origin.toNat 0) = (e.seq - 1))))]) ⟨rfl, rfl, rfl, rfl, rfl, rfl, (by exact e251), trivial⟩ (fun ρw247 => ?_)
   refine zg ?_
   cases hc252 : !decide ((e.deps.getD e.origin.toNat 0) = (e.seq - 1))
   ·skip
    have hc252r := hc252
    have hc252 := yr hc252
    refine zk rfl ?_
    refine zp ?_
    refine zd ?_
    refine zd ?_
    refine zF (by kernel_rfl) ?_
    refine st (ZD rfl ?_)
    refine st (zh (v := .int .i64 (e.op)) Try.isAgg3 rfl (zi (hS250.blk (i := 0) rfl) rfl) ?_)
    refine st (zJ (k := .i64) (a := e.op) (b := 1) rfl rfl ?_)
    refine st (zb (v := .bool (decide (e.op < 1))) rfl ?_)
    refine stc (V := .pointer (some ⟨b2, 7, none⟩)) rfl rfl (fun hb253 => ?_) ?_
    ·have hl254 := hb253
     have hl254 := of_decide_eq_false hl254
     exact ZD rfl ⟨rfl, rfl⟩
    refine stc (V := .int .i64 (e.op)) rfl rfl (fun hb255 => ?_) ?_
    ·have hl256 := hb255
     have hl256 := of_decide_eq_false hl256
     exact zh (v := .int .i64 (e.op)) Try.isAgg3 (show _ = (.pointer (some ⟨b2, 7, none⟩) : Value) from (if_pos hb255)) (zi (hS250.blk (i := 0) rfl) rfl) ⟨rfl, rfl⟩
    refine stc (V := .bool (decide (5 < e.op))) rfl rfl (fun hb257 => ?_) ?_
    ·have hl258 := hb257
     have hl258 := of_decide_eq_false hl258
     exact yy (k := .i64) (a := e.op) (b := 5) (show _ = (.int .i64 (e.op) : Value) from (if_pos hb257)) rfl ⟨rfl, rfl⟩
    refine st (zD (b := decide (e.op < 1)) (b' := decide (5 < e.op)) rfl (fun hbp => (show _ = (.bool (decide (5 < e.op)) : Value) from (if_pos hbp))) ?_)
    refine zg ?_
    cases hc259 : (decide (e.op < 1)) || (decide (5 < e.op))
    ·skip
     have hc259r := hc259
     try simp only [zr] at hc259
     refine zk rfl ?_
     refine zp ?_
     refine zd ?_
     refine zd ?_
     refine zF (by kernel_rfl) ?_
     refine st (Zw rfl ?_)
     refine st (zh (v := .int .i64 (e.typ)) Try.isAgg3 rfl (zi (hS250.blk (i := 0) rfl) rfl) ?_)
     refine st (zJ (k := .i64) (a := e.typ) (b := 0) rfl rfl ?_)
     refine st (zb (v := .bool (decide (e.typ < 0))) rfl ?_)
     refine stc (V := .pointer (some ⟨b2, 4, none⟩)) rfl rfl (fun hb260 => ?_) ?_
     ·have hl261 := hb260
      have hl261 := of_decide_eq_false hl261
      exact Zw rfl ⟨rfl, rfl⟩
     refine stc (V := .int .i64 (e.typ)) rfl rfl (fun hb262 => ?_) ?_
     ·have hl263 := hb262
      have hl263 := of_decide_eq_false hl263
      exact zh (v := .int .i64 (e.typ)) Try.isAgg3 (show _ = (.pointer (some ⟨b2, 4, none⟩) : Value) from (if_pos hb262)) (zi (hS250.blk (i := 0) rfl) rfl) ⟨rfl, rfl⟩
     refine stc (V := .bool (decide (7 < e.typ))) rfl rfl (fun hb264 => ?_) ?_
     ·have hl265 := hb264
      have hl265 := of_decide_eq_false hl265
      exact yy (k := .i64) (a := e.typ) (b := 7) (show _ = (.int .i64 (e.typ) : Value) from (if_pos hb264)) rfl ⟨rfl, rfl⟩
     refine st (zD (b := decide (e.typ < 0)) (b' := decide (7 < e.typ)) rfl (fun hbp => (show _ = (.bool (decide (7 < e.typ)) : Value) from (if_pos hbp))) ?_)
     refine st (zb (v := .bool ((decide (e.typ < 0)) || (decide (7 < e.typ)))) rfl ?_)
     refine stc (V := .pointer (some ⟨b2, 6, none⟩)) rfl rfl (fun hb266 => ?_) ?_
     ·have hl267 := hb266
      try simp only [zr] at hl267
      exact Zz rfl ⟨rfl, rfl⟩
     refine stc (V := .int .i64 (e.field)) rfl rfl (fun hb268 => ?_) ?_
     ·have hl269 := hb268
      try simp only [zr] at hl269
      exact zh (v := .int .i64 (e.field)) Try.isAgg3 (show _ = (.pointer (some ⟨b2, 6, none⟩) : Value) from (if_pos hb268)) (zi (hS250.blk (i := 0) rfl) rfl) ⟨rfl, rfl⟩
     refine stc (V := .bool (decide (e.field < 0))) rfl rfl (fun hb270 => ?_) ?_
     ·have hl271 := hb270
      try simp only [zr] at hl271
      exact zJ (k := .i64) (a := e.field) (b := 0) (show _ = (.int .i64 (e.field) : Value) from (if_pos hb270)) rfl ⟨rfl, rfl⟩
     refine st (zD (b := (decide (e.typ < 0)) || (decide (7 < e.typ))) (b' := decide (e.field < 0)) rfl (fun hbp => (show _ = (.bool (decide (e.field < 0)) : Value) from (if_pos hbp))) ?_)
     refine st (zb (v := .bool (((decide (e.typ < 0)) || (decide (7 < e.typ))) || (decide (e.field < 0)))) rfl ?_)
     refine stc (V := .pointer (some ⟨b2, 6, none⟩)) rfl rfl (fun hb272 => ?_) ?_
     ·have hl273 := hb272
      try simp only [zr] at hl273
      exact Zz rfl ⟨rfl, rfl⟩
     refine stc (V := .int .i64 (e.field)) rfl rfl (fun hb274 => ?_) ?_
     ·have hl275 := hb274
      try simp only [zr] at hl275
      exact zh (v := .int .i64 (e.field)) Try.isAgg3 (show _ = (.pointer (some ⟨b2, 6, none⟩) : Value) from (if_pos hb274)) (zi (hS250.blk (i := 0) rfl) rfl) ⟨rfl, rfl⟩
     refine stc (V := .bool (decide (7 < e.field))) rfl rfl (fun hb276 => ?_) ?_
     ·have hl277 := hb276
      try simp only [zr] at hl277
      exact yy (k := .i64) (a := e.field) (b := 7) (show _ = (.int .i64 (e.field) : Value) from (if_pos hb276)) rfl ⟨rfl, rfl⟩
     refine st (zD (b := ((decide (e.typ < 0)) || (decide (7 < e.typ))) || (decide (e.field < 0))) (b' := decide (7 < e.field)) rfl (fun hbp => (show _ = (.bool (decide (7 < e.field)) : Value) from (if_pos hbp))) ?_)
     refine zg ?_
     cases hc278 : (((decide (e.typ < 0)) || (decide (7 < e.typ))) || (decide (e.field < 0))) || (decide (7 < e.field))
     ·skip
      have hc278r := hc278
      try simp only [zr] at hc278
      refine zk rfl ?_
      refine zp ?_
      refine zd ?_
      refine za (by kernel_rfl) (fun _ => ?_)
      refine st (zf (v := .int .i64 (0)) rfl ?_)
      refine zg ?_
      refine zw ?_
      refine zM Try.results63 (show _ = (.int .i64 (0) : Value) from rfl) ?_
      have hS279 : Sep G W Rs w247 := hS250.sel 1 [] (Nat.le_add_left _ _) rfl rfl
      refine ⟨?_, hS279⟩
      rw [xf]
      rw [if_neg (by rw [hc51r]; decide)]
      first | rw [if_pos (Zq (k := k) (by omega) (by omega))] | (rw [if_neg (by rw [Zh (fun i hi => hm i (by omega))]; decide)]; (repeat first | rw [if_pos (by assumption)] | rw [if_neg (by first | (rw [hc56r]; decide) | (rw [hc252r]; decide) | (rw [hc259r]; decide) | (rw [hc278r]; decide) | skip)]))
     ·skip
      have hc278r := hc278
      try simp only [zr] at hc278
      refine zm rfl ?_
      refine zd ?_
      refine za (by kernel_rfl) (fun _ => ?_)
      refine st (zf (v := .int .i64 (8)) rfl ?_)
      refine zg ?_
      refine zw ?_
      refine zM Try.results63 (show _ = (.int .i64 (8) : Value) from rfl) ?_
      have hS280 : Sep G W Rs w247 := hS250.sel 1 [] (Nat.le_add_left _ _) rfl rfl
      refine ⟨?_, hS280⟩
      rw [xf]
      rw [if_neg (by rw [hc51r]; decide)]
      first | rw [if_pos (Zq (k := k) (by omega) (by omega))] | (rw [if_neg (by rw [Zh (fun i hi => hm i (by omega))]; decide)]; (repeat first | rw [if_pos (by assumption)] | rw [if_neg (by first | (rw [hc56r]; decide) | (rw [hc252r]; decide) | (rw [hc259r]; decide) | (rw [hc278r]; decide) | skip)]))
    ·skip
     have hc259r := hc259
     try simp only [zr] at hc259
     refine zm rfl ?_
     refine zd ?_
     refine za (by kernel_rfl) (fun _ => ?_)
     refine st (zf (v := .int .i64 (2)) rfl ?_)
     refine zg ?_
     refine zw ?_
     refine zM Try.results63 (show _ = (.int .i64 (2) : Value) from rfl) ?_
     have hS281 : Sep G W Rs w247 := hS250.sel 1 [] (Nat.le_add_left _ _) rfl rfl
     refine ⟨?_, hS281⟩
     rw [xf]
     rw [if_neg (by rw [hc51r]; decide)]
     first | rw [if_pos (Zq (k := k) (by omega) (by omega))] | (rw [if_neg (by rw [Zh (fun i hi => hm i (by omega))]; decide)]; (repeat first | rw [if_pos (by assumption)] | rw [if_neg (by first | (rw [hc56r]; decide) | (rw [hc252r]; decide) | (rw [hc259r]; decide) | skip)]))
   ·skip
    have hc252r := hc252
    have hc252 := yc hc252
    refine zm rfl ?_
    refine zd ?_
    refine za (by kernel_rfl) (fun _ => ?_)
    refine st (zf (v := .int .i64 (9)) rfl ?_)
    refine zg ?_
    refine zw ?_
    refine zM Try.results63 (show _ = (.int .i64 (9) : Value) from rfl) ?_
    have hS282 : Sep G W Rs w247 := hS250.sel 1 [] (Nat.le_add_left _ _) rfl rfl
    refine ⟨?_, hS282⟩
    rw [xf]
    rw [if_neg (by rw [hc51r]; decide)]
    first | rw [if_pos (Zq (k := k) (by omega) (by omega))] | (rw [if_neg (by rw [Zh (fun i hi => hm i (by omega))]; decide)]; (repeat first | rw [if_pos (by assumption)] | rw [if_neg (by first | (rw [hc56r]; decide) | (rw [hc252r]; decide) | skip)]))
  ·skip
   have hc56r := hc56
   have hc56 := of_decide_eq_true hc56
   refine zm rfl ?_
   refine zp ?_
   refine zd ?_
   refine zx ?_
   refine zd ?_
   refine za (by kernel_rfl) (fun _ => ?_)
   refine st (yA rfl ?_)
   refine st (zh (v := de0) Try.isAgg34 rfl (zi (hS55.blk (i := 0) rfl) rfl) ?_)
   refine st (zb (v := .int .i64 ((k : Nat) : Int)) rfl ?_)
   have hi283 : k < e.deps.length := (by first | omega | (simp only [zu]; omega))
   refine st (zl (k := 1) (i := k) Try.underlying34 Try.sizeOf3 rfl hde0.sl rfl hi283 ?_)
   have hi285 : k < e.deps.length := (by first | omega | (simp only [zu]; omega))
   obtain ⟨hce284, hxe284⟩ := hde0.int hi285
   rw [← zo 0 hi285] at hce284 hxe284
   have hcw286 := hS55.cells hce284 (hde0.foot (ne_of_lt hi285))
   refine st (zh (v := .int .i64 ((e.deps.getD k 0))) Try.isAgg3 rfl (hcw286.get (j := 0) rfl) ?_)
   refine st (zJ (k := .i64) (a := (e.deps.getD k 0)) (b := 0) rfl rfl ?_)
   refine zg ?_
   cases hc287 : decide ((e.deps.getD k 0) < 0)
   ·skip
    have hc287r := hc287
    have hc287 := of_decide_eq_false hc287
    refine zk rfl ?_
    refine zp ?_
    refine za (by kernel_rfl) (fun _ => ?_)
    refine st (zb (v := .int .i64 ((k : Nat) : Int)) rfl ?_)
    have hr288 : InR ((k + 1 : Nat) : Int) := by first | omega | (simp only [zu]; omega)
    refine st (zU (r := ((k + 1 : Nat) : Int)) (k := .i64) (a := ((k : Nat) : Int)) (b := 1) rfl rfl (by rw [show (((k : Nat) : Int) + 1 : Int) = ((k + 1 : Nat) : Int) by first | omega | (simp only [zu]; omega)]; exact zH hr288) ?_)
    refine st (zf (v := .int .i64 ((k + 1 : Nat) : Int)) rfl ?_)
    refine zg ?_
    exact ⟨_, by omega, k + 1, _, rfl, zn ⟨rfl, rfl, rfl, trivial⟩, by omega, (yU hm (by omega)), hS55⟩
   ·skip
    have hc287r := hc287
    have hc287 := of_decide_eq_true hc287
    refine zm rfl ?_
    refine zd ?_
    refine za (by kernel_rfl) (fun _ => ?_)
    refine st (zf (v := .int .i64 (1)) rfl ?_)
    refine zg ?_
    refine zw ?_
    refine zM Try.results63 (show _ = (.int .i64 (1) : Value) from rfl) ?_
    have hS289 : Sep G W Rs w52 := hS55.sel 1 [] (Nat.le_add_left _ _) rfl rfl
    refine ⟨?_, hS289⟩
    rw [xf]
    rw [if_neg (by rw [hc51r]; decide)]
    first | rw [if_pos (Zq (k := k) (by omega) (by omega))] | (rw [if_neg (by rw [Zh (fun i hi => hm i (by omega))]; decide)]; (repeat first | rw [if_pos (by assumption)] | rw [if_neg (by first | (rw [hc56r]; decide) | (rw [hc287r]; decide) | skip)]))
 ·skip
  have hc51r := hc51
  try simp only [zr] at hc51
  refine zm rfl ?_
  refine zd ?_
  refine za (by kernel_rfl) (fun _ => ?_)
  refine st (zf (v := .int .i64 (1)) rfl ?_)
  refine zg ?_
  refine zw ?_
  refine zM Try.results63 (show _ = (.int .i64 (1) : Value) from rfl) ?_
  have hS290 : Sep G W Rs w3 := hS4.sel 1 [] (Nat.le_add_left _ _) rfl rfl
  refine ⟨?_, hS290⟩
  rw [xf]
  rw [if_pos hc51r]

end Go.Proofs.Ytgjgmojjeehieaa
end
